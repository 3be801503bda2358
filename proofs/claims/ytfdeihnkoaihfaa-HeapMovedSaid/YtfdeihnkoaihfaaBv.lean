/- What these functions of the program compute, as functions in Lean, and the proofs that they do: heap.Meets. Conditions: none. -/
import Derived.Test.YtfdeihnkoaihfaaZx
import Derived.Test.YtfdeihnkoaihfaaBa
namespace Go.Xm
open Go.RowKit
set_option linter.unusedVariables false
set_option linter.unusedSimpArgs false
set_option maxRecDepth 20000
inductive Of39_1 where
 | r (x4_r1 : Int)
 | x0
inductive Of39_3 where
 | r (x4_r3 : Int) (xh2_0_r3 : Int) (xh2_1_r3 : Int)
 | x0 (xh2_0_x03 : Int) (xh2_1_x03 : Int)
inductive Of39_2 where
 | r
 | x3
end Go.Xm
