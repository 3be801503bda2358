/- WrapEvens: both answers are the same. Conditions: none. -/
import Derived.Test.YtagagpkjlkoieaaKj
import Derived.Test.YtagagpkjlkoieaaKk
import Derived.Test.YtagagpkjlkoieaaPs
namespace Go.Xm
set_option linter.unusedVariables false
set_option linter.unusedSimpArgs false
set_option maxRecDepth 20000

theorem f5_eq (a b : Int) : f5 3000 a b = some true := by
  unfold f5
  by_cases hok : 1 ≤ a ∧ a ≤ 100 ∧ 0 ≤ b ∧ b < a
  · obtain ⟨M, rfl⟩ : ∃ n : Nat, a = n := ⟨a.toNat, by omega⟩
    obtain ⟨S, rfl⟩ : ∃ n : Nat, b = n := ⟨b.toNat, by omega⟩
    obtain ⟨o, g, h67, h65⟩ := circ 3000 M S (by omega) (by omega) (by omega) (by omega)
    have g4 := g.om
    have g2 := g.m2
    have l1 := evL_len M S o 1
    have l2 := nrL_len M S o 1 M
    have l3 := chN_len 100 M S
    rw [f37_eq 3000 M S o (by omega) g (h65 1), f38_eq 3000 M S o (by omega) g h67, f39_eq 3000 M S o (by omega) g, f40_eq 3000 M S o (by omega) g h67, f41_eq 3000 M S (by omega) (by omega) (by omega) (by omega), f42_eq 3000 M S (by omega) (by omega) (by omega) (by omega)]
    simp only [Option.bind_some]
    rw [f35_same 3000 _ (by omega) (by omega), f35_same 3000 _ (by omega) (by omega), f35_same 3000 _ (by omega) (by omega)]
    rfl
  · have h64 := f64_eq 3000 a b
    have h66 := f66_eq 3000 a b
    rw [decide_eq_false hok] at h64 h66
    have e37 : f37 3000 a b = some ([], 1) := by unfold f37; rw [h64]; rfl
    have e38 : f38 3000 a b = some ([], 1) := by unfold f38; rw [h66]; rfl
    have e39 : f39 3000 a b = some ([], 1) := by unfold f39; rw [h64]; rfl
    have e40 : f40 3000 a b = some ([], 1) := by unfold f40; rw [h66]; rfl
    have e41 : f41 3000 a b = some ([], 1) := by unfold f41; rw [h64]; rfl
    have e42 : f42 3000 a b = some ([], 1) := by unfold f42; rw [h66]; rfl
    rw [e37, e38, e39, e40, e41, e42]
    simp only [Option.bind_some]
    rw [f35_same 3000 _ (by simp) (by omega)]
    rfl
end Go.Xm

namespace Go.Proofs.Ytagagpkjlkoieaa.wrapEvens
open Go.Xm Go.RowKit
set_option linter.unusedVariables false

theorem walk (a0 : Int) (a1 : Int) (w : World) (w0 : (Lit.int .i64 a0).wf = true) (w1 : (Lit.int .i64 a1).wf = true) :
    Calls Try.prog 5 #[.int .i64 a0, .int .i64 a1] w fun e w' => e = .returned (.bool true) ∧ Below w.heap.size w w' :=
  f5_ok 3000 a0 a1 true (f5_eq a0 a1) w trivial
end Go.Proofs.Ytagagpkjlkoieaa.wrapEvens
