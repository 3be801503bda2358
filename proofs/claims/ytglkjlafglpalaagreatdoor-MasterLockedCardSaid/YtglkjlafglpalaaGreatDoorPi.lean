/- What these functions of the program compute, as functions in Lean, and the proofs that they do: vitolalaw14.Days).bays, vitolalaw14.MasterKept. Conditions: the library's variables hold what their texts lay. -/
import Derived.Test.YtglkjlafglpalaaGreatDoorWe
import Derived.Test.YtglkjlafglpalaaGreatDoorPh
namespace Go.Xm
open Go.RowKit
set_option linter.unusedVariables false
set_option linter.unusedSimpArgs false
set_option maxRecDepth 20000
set_option maxHeartbeats 4000000
noncomputable def f41_C41 : Code := Proofs.Tryz.f41.body.getD .skip
def f41 (m : Nat) (a_Bays : Int) (a_Deeds : List (Int × Int × Int × Int)) : Option (Int) :=
 some (w64 (1 + (Int.tmod (w64 a_Bays) 8)))
abbrev aPi3 (a_Bays : Int) (a_Deeds : List (Int × Int × Int × Int)) : Nat × XObj := (1, .cells [.int .u8 a_Bays, s0 0 a_Deeds.length] 0 66 0)
theorem f41_ok (m : Nat) (z0 : Nat) (y0 : Nat) (a_Bays : Int) (a_Deeds : List (Int × Int × Int × Int)) (o : Int) (h : f41 m a_Bays a_Deeds = some o) : KC E0 41 [.agg #[.int .u8 a_Bays, s0 0 a_Deeds.length]] [(0, rc encD a_Deeds z0 y0 4)] 1 (fun v _ _ => v = ii o) := by
 refine kN Proofs.Tryz.f41 f41_C41 8 [.tmp 2] ?_
 unfold f41 at h
 refine qQ ?_
 refine rD 2 [(1, pp 1 0)] (fun h => (aPi3 a_Bays a_Deeds) :: h) 2 ?_
 refine nQ id ?_
 refine rE 6 [(2, ii (w64 (1 + (Int.tmod (w64 a_Bays) 8))))] id ?_
 obtain rfl := sI h
 exact tV (ii (w64 (1 + (Int.tmod (w64 a_Bays) 8)))) id rfl
end Go.Xm
