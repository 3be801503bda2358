/- What these functions of the program compute, as functions in Lean, and the proofs that they do: vitolaref05.beside, vitolaref05.round. Conditions: none. -/
import Derived.Test.YtagagpkjlkoieaaPa
namespace Go.Xm
open Go.RowKit
set_option linter.unusedVariables false
set_option linter.unusedSimpArgs false
set_option maxRecDepth 20000

/-! vitola/vitolaref05.beside -/
inductive Of70_2 where
 | r (x6_r2 : Int)
 | x0

/-! vitola/vitolaref05.round -/
end Go.Xm
