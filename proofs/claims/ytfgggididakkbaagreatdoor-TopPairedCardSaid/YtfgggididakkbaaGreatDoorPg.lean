/- TopPaired with six boxes: the rounds of its loop. Conditions: the library's tables lie in their variables. -/
import Derived.Test.YtfgggididakkbaaGreatDoorPf
namespace Go.Xm
open Go.RowKit
set_option linter.unusedVariables false
set_option maxRecDepth 20000

noncomputable def bodyL : Code := lft (lft (rgt (lft (drp 9 C3))))
def prI (i : Nat) : Nat := ([33, 41, 44, 70, 78, 81, 97, 111, 117, 132, 135, 145, 151, 161, 164].filter (fun j => Nat.blt j i)).length
abbrev stL (w : Int) (i : Nat) : St := [(1, .int .u8 w), (5, pp 0 0), (7, ii 15), (9, pp 1 0), (13, cl), (14, ii (.ofNat (prI i))), (83, ii 203), (84, ii (.ofNat i))]
abbrev hL : Heap := [(2, .cells [ii 0, ii 1, ii 2, ii 3, ii 4, ii 5] 0 35 2), (1, .cells [ii 6, s0 2 3] 0 30 0), (0, .cells [ii 6] 0 3 0)]
abbrev osL : List XObj := [.cells [ii 6] 0 3 0, .cells [ii 6, s0 2 3] 0 30 0, .cells [ii 0, ii 1, ii 2, ii 3, ii 4, ii 5] 0 35 2]
noncomputable def rdL (w : Int) (i : Nat) := pickN (exec (fastEnv Es) 100000 (comp (fastEnv Es) 236 bodyL) (trS 236 (stL w i)) hL 3) ((stL w (i + 1)).map Prod.fst) [0, 1, 2]
noncomputable def exL (w : Int) (i : Nat) := some ((stL w (i + 1)).map (fun p => renV [0, 1, 2] p.2), osL.map some)

end Go.Xm
