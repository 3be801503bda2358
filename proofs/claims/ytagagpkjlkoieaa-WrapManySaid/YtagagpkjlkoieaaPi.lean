/- What these functions of the program compute, as functions in Lean, and the proofs that they do: wrap.Round. Conditions: none. -/
import Derived.Test.YtagagpkjlkoieaaPa
namespace Go.Xm
open Go.RowKit
set_option linter.unusedVariables false
set_option linter.unusedSimpArgs false
set_option maxRecDepth 20000

/-! vitola/wrap.Round -/
def f29_1 (m : Nat) : Nat → Int → Int → Int → Int → Int → Int → Option (Int × Int × Int)
 | 0, _, _, _, _, _, _ => none
 | fuel + 1, a_Marks, a_Step, a_Turns, xh3_2_1, xh3_3_1, xh3_4_1 =>
  cond (decide (xh3_2_1 < a_Turns)) (
   cond (xh3_2_1 == 1) (
    f29_1 m fuel a_Marks a_Step a_Turns (w64 (xh3_2_1 + 1)) 1 1
   ) (
    (f59 m a_Marks a_Step (w64 (xh3_2_1 + 1)) xh3_2_1).bind fun r6 =>
     (f59 m a_Marks a_Step (w64 (xh3_2_1 + 1)) xh3_3_1).bind fun r7 =>
      cond (decide (r6 < r7)) (
       f29_1 m fuel a_Marks a_Step a_Turns (w64 (xh3_2_1 + 1)) xh3_2_1 xh3_4_1
      ) (
       (f59 m a_Marks a_Step (w64 (xh3_2_1 + 1)) xh3_4_1).bind fun r9 =>
        f29_1 m fuel a_Marks a_Step a_Turns (w64 (xh3_2_1 + 1)) xh3_3_1 (cond (decide (r6 > r9)) xh3_2_1 xh3_4_1)
      )
   )
  ) (
   some (xh3_2_1, xh3_3_1, xh3_4_1)
  )

end Go.Xm
