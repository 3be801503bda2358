/- WrapChain: quotients lead back to marks and step. Conditions: none. -/
import Derived.Test.YtagagpkjlkoieaaJ1
import Derived.Test.YtagagpkjlkoieaaDi
namespace Go.Xm
set_option linter.unusedVariables false
set_option linter.unusedSimpArgs false

theorem f20_val (m M S o T : Nat) (hm : 1000 < m) (g : Good M S 1 o) (hT : 1 ≤ T) : f20 m M S T = some (cond (decide (T > o)) 3 0) := by
  have g1 := g.m1
  have g2 := g.m2
  have g3 := g.s
  have g5 := g.to
  unfold f20
  rw [f64_eq, decide_eq_true (p := 1 ≤ (M : Int) ∧ (M : Int) ≤ 100 ∧ 0 ≤ (S : Int) ∧ (S : Int) < (M : Int)) (by omega), f65_eq m M S T (by omega) (by omega) (by omega), ord_gcd (by omega) g5 g.oz g.omin]
  simp only [Option.bind_some, Bool.not_true, cond_false]
  rw [decide_eq_false (by omega)]
  simp only [cond_false]
  by_cases h : T > o
  · rw [decide_eq_true h, decide_eq_true (by omega)]; rfl
  · rw [decide_eq_false h, decide_eq_false (by omega)]; rfl

def chN : Nat → Nat → Nat → List Int
  | 0, _, _ => []
  | k + 1, a, b => match b with
    | 0 => []
    | b + 1 => ((a / (b + 1) : Nat) : Int) :: chN k (b + 1) (a % (b + 1))

theorem f41_1_eq (m : Nat) : ∀ (fuel k a b : Nat) (l : List Int), b ≤ k → k < fuel → l.length + k ≤ 1000 → a ≤ 1000 → f41_1 m fuel a b l = some (l ++ chN k a b)
  | 0, k, a, b, l, _, h, _, _ => by omega
  | fuel + 1, k, a, 0, l, hb, hf, hl, ha => by
    unfold f41_1
    rw [decide_eq_false (by omega)]
    cases k <;> simp [chN]
  | fuel + 1, 0, a, b + 1, l, hb, hf, hl, ha => by omega
  | fuel + 1, k + 1, a, b + 1, l, hb, hf, hl, ha => by
    have lm := Nat.mod_lt a (show 0 < b + 1 by omega)
    have lm2 := Nat.mod_le a (b + 1)
    have ld := Nat.div_le_self a (b + 1)
    have c1 : (((b + 1 : Nat) : Int) != 0) = true := by simp; omega
    have hfit : fitsB (l.length + 1) 8 = true := by
      simp only [fitsB, Bool.and_eq_true, Nat.ble_eq]; omega
    unfold f41_1
    rw [decide_eq_true (by omega), c1, hfit, tmN, tdN, natw (n := a / (b + 1)) (by omega)]
    simp only [cond_true]
    rw [f41_1_eq m fuel k (b + 1) (a % (b + 1)) (l ++ [((a / (b + 1) : Nat) : Int)]) (by omega) (by omega) (by simp; omega) (by omega), List.append_assoc]
    rfl

theorem f41_eq (m M S : Nat) (hm : 1000 < m) (h1 : 1 ≤ M) (h2 : M ≤ 100) (h3 : S < M) : f41 m M S = some (chN 100 M S, 0) := by
  unfold f41
  rw [f64_eq, decide_eq_true (p := 1 ≤ (M : Int) ∧ (M : Int) ≤ 100 ∧ 0 ≤ (S : Int) ∧ (S : Int) < (M : Int)) (by omega), f41_1_eq m m 100 M S [] (by omega) (by omega) (by simp) (by omega), List.nil_append]
  rfl

/-- Back from the last quotient. -/
def bkN (L : List Int) : Nat → Int → Int → Option (Int × Int)
  | 0, g, s => some (g, s)
  | k + 1, g, s => cond (decide (L.getD k 0 < 1)) none (cond (decide (L.getD k 0 > 100)) none (cond (decide (g > 100)) none (bkN L k (w64 (w64 (L.getD k 0 * g) + s)) g)))

theorem f10_1_eq (m : Nat) (a b t : Int) (L : List Int) (hL : L.length ≤ 1000) : ∀ (k fuel : Nat) (g s : Int), k ≤ L.length → k < fuel →
    f10_1 m fuel g s ((k : Int) - 1) a b t L = some (match bkN L k g s with | none => .r | some r => .x0 r.1 r.2 a b t L)
  | k, 0, g, s, _, h => by omega
  | 0, fuel + 1, g, s, _, _ => by
    unfold f10_1
    rw [decide_eq_false (by omega)]
    rfl
  | k + 1, fuel + 1, g, s, hk, hf => by
    have hr : inRow (k : Int) L.length = true := inRow_iff.2 ⟨by omega, by omega⟩
    unfold f10_1
    rw [show ((k + 1 : Nat) : Int) - 1 = (k : Int) by omega, decide_eq_true (by omega), hr, Int.toNat_natCast, w64_id (x := (k : Int) - 1) (by omega) (by omega)]
    simp only [cond_true, bkN]
    cases decide (L.getD k 0 < 1)
    · cases decide (L.getD k 0 > 100)
      · cases decide (g > 100)
        · exact f10_1_eq m a b t L hL k fuel _ _ (by omega) (by omega)
        · rfl
      · rfl
    · rfl

def tabC (M S : Nat) : Bool :=
  decide ((chN 100 M S).length ≤ 20) && (match bkN (chN 100 M S) (chN 100 M S).length ((M / (M / Nat.gcd M S) : Nat) : Int) 0 with | some r => decide (r.1 = (M : Int)) && decide (r.2 = (S : Int)) | none => false) &&
    (decide ((chN 100 M S).length ≤ 1) || decide (2 ≤ (chN 100 M S).getD ((chN 100 M S).length - 1) 0))

theorem tabC_all : ((List.range 100).all fun i => (List.range (i + 1)).all fun S => tabC (i + 1) S) = true := by kernel_rfl

theorem tabC_ok {M S : Nat} (h1 : 1 ≤ M) (h2 : M ≤ 100) (h3 : S < M) : tabC M S = true := by
  have h := List.all_eq_true.1 tabC_all (M - 1) (List.mem_range.2 (by omega))
  have h' := List.all_eq_true.1 h S (List.mem_range.2 (by omega))
  rw [show M - 1 + 1 = M by omega] at h'
  exact h'

theorem f10_eq (a b t : Int) (wa : (Lit.int .u8 a).wf = true) (wb : (Lit.int .u8 b).wf = true) : f10 3000 a b t = some true := by
  obtain ⟨M, S, e1, e2, m1, m2, s⟩ := roll wa wb
  obtain ⟨o, g⟩ := good_one M S m1 m2 s
  have g4 := g.om
  have g5 := g.to
  have ho := ord_gcd (by omega) g5 g.oz g.omin
  have c1 : ((M : Int) != 0) = true := by simp; omega
  have c2 : ((o : Int) != 0) = true := by simp; omega
  have ht := tabC_ok m1 m2 s
  unfold tabC at ht
  simp only [Bool.and_eq_true, Bool.or_eq_true, decide_eq_true_eq] at ht
  obtain ⟨⟨t1, t2⟩, t3⟩ := ht
  rw [ho] at t2
  unfold f10
  rw [e1, e2, c1, f47_eq 3000 M S o (by omega) g, f41_eq 3000 M S (by omega) m1 m2 s]
  simp only [Option.bind_some, cond_true]
  rw [c2]
  simp only [cond_true, bne_self_eq_false, cond_false]
  rw [decide_eq_false (by omega)]
  simp only [cond_false]
  have hd := Nat.div_le_self M o
  rw [tdN, natw (n := M / o) (by omega), w64_id (x := ((chN 100 M S).length : Int) - 1) (by omega) (by omega), f10_1_eq 3000 M S _ (chN 100 M S) (by omega) (chN 100 M S).length 3000 _ 0 (Nat.le_refl _) (by omega)]
  have f1 := f20_val 3000 M S o o (by omega) g g5
  have f2 := f20_val 3000 M S o (o + 1) (by omega) g (by omega)
  rw [decide_eq_false (by omega)] at f1
  rw [decide_eq_true (by omega)] at f2
  cases hb : bkN (chN 100 M S) (chN 100 M S).length ((M / o : Nat) : Int) 0 with
  | none => rw [hb] at t2; cases t2
  | some r =>
    rw [hb] at t2
    simp only [Bool.and_eq_true, decide_eq_true_eq] at t2
    simp only [Option.bind_some]
    rw [t2.1, t2.2, f47_eq 3000 M S o (by omega) g]
    simp only [Option.bind_some, beq_self_eq_true, cond_true]
    rw [w64_succ o (by omega), f1, f2]
    simp only [Option.bind_some, beq_self_eq_true, cond_true, cond_false]
    by_cases c : ((chN 100 M S).length : Int) > 1
    · have hr : inRow (((chN 100 M S).length : Int) - 1) (chN 100 M S).length = true := inRow_iff.2 ⟨by omega, by omega⟩
      rw [decide_eq_true c, w64_id (x := ((chN 100 M S).length : Int) - 1) (by omega) (by omega), hr, show (((chN 100 M S).length : Int) - 1).toNat = (chN 100 M S).length - 1 by omega]
      simp only [cond_true]
      rw [decide_eq_false (by omega)]
      rfl
    · rw [decide_eq_false c]
      rfl
end Go.Xm

namespace Go.Proofs.Ytagagpkjlkoieaa.wrapChain
open Go.Xm Go.RowKit
set_option linter.unusedVariables false

theorem walk (a0_0 : Int) (a0_1 : Int) (a0_2 : Int) (w : World) (w0_0 : (Lit.int .u8 a0_0).wf = true) (w0_1 : (Lit.int .u8 a0_1).wf = true) (w0_2 : (Lit.int .u8 a0_2).wf = true) :
    Calls Try.prog 10 #[.agg #[.int .u8 a0_0, .int .u8 a0_1, .int .u8 a0_2]] w fun e w' => e = .returned (.bool true) ∧ Below w.heap.size w w' :=
  f10_ok 3000 a0_0 a0_1 a0_2 true (f10_eq a0_0 a0_1 a0_2 w0_0 w0_1) w trivial
end Go.Proofs.Ytagagpkjlkoieaa.wrapChain
