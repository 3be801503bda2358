/- What these functions of the program compute, as functions in Lean, and the proofs that they do: bits.OnesCount64, bits.OnesCount, club.Trios, club.Counts, club.Others. Conditions: the library's variables hold what their texts lay. -/
import Derived.Test.YtfimbmhannndaaaDoorZk
import Derived.Test.YtfimbmhannndaaaDoorZx
import Derived.Test.YtfimbmhannndaaaDoorIb
namespace Go.Xm
open Go.RowKit
set_option linter.unusedVariables false
set_option linter.unusedSimpArgs false
set_option maxRecDepth 20000
noncomputable def f118_C118 : Code := Proofs.Tryd.f118.body.getD .skip
def f118 (m : Nat) (a : Int) : Option (Int) :=
 some (andV .i64 (w64 (IntKind.wrap .u64 ((IntKind.wrap .u64 ((IntKind.wrap .u64 ((andV .u64 (IntKind.wrap .u64 ((shV false .u64 (IntKind.wrap .u64 ((andV .u64 (shV false .u64 (IntKind.wrap .u64 ((andV .u64 (shV false .u64 a 1) 6148914691236517205) + (andV .u64 a 6148914691236517205))) 2) 3689348814741910323) + (andV .u64 (IntKind.wrap .u64 ((andV .u64 (shV false .u64 a 1) 6148914691236517205) + (andV .u64 a 6148914691236517205))) 3689348814741910323))) 4) + (IntKind.wrap .u64 ((andV .u64 (shV false .u64 (IntKind.wrap .u64 ((andV .u64 (shV false .u64 a 1) 6148914691236517205) + (andV .u64 a 6148914691236517205))) 2) 3689348814741910323) + (andV .u64 (IntKind.wrap .u64 ((andV .u64 (shV false .u64 a 1) 6148914691236517205) + (andV .u64 a 6148914691236517205))) 3689348814741910323))))) 1085102592571150095) + (shV false .u64 (andV .u64 (IntKind.wrap .u64 ((shV false .u64 (IntKind.wrap .u64 ((andV .u64 (shV false .u64 (IntKind.wrap .u64 ((andV .u64 (shV false .u64 a 1) 6148914691236517205) + (andV .u64 a 6148914691236517205))) 2) 3689348814741910323) + (andV .u64 (IntKind.wrap .u64 ((andV .u64 (shV false .u64 a 1) 6148914691236517205) + (andV .u64 a 6148914691236517205))) 3689348814741910323))) 4) + (IntKind.wrap .u64 ((andV .u64 (shV false .u64 (IntKind.wrap .u64 ((andV .u64 (shV false .u64 a 1) 6148914691236517205) + (andV .u64 a 6148914691236517205))) 2) 3689348814741910323) + (andV .u64 (IntKind.wrap .u64 ((andV .u64 (shV false .u64 a 1) 6148914691236517205) + (andV .u64 a 6148914691236517205))) 3689348814741910323))))) 1085102592571150095) 8))) + (shV false .u64 (IntKind.wrap .u64 ((andV .u64 (IntKind.wrap .u64 ((shV false .u64 (IntKind.wrap .u64 ((andV .u64 (shV false .u64 (IntKind.wrap .u64 ((andV .u64 (shV false .u64 a 1) 6148914691236517205) + (andV .u64 a 6148914691236517205))) 2) 3689348814741910323) + (andV .u64 (IntKind.wrap .u64 ((andV .u64 (shV false .u64 a 1) 6148914691236517205) + (andV .u64 a 6148914691236517205))) 3689348814741910323))) 4) + (IntKind.wrap .u64 ((andV .u64 (shV false .u64 (IntKind.wrap .u64 ((andV .u64 (shV false .u64 a 1) 6148914691236517205) + (andV .u64 a 6148914691236517205))) 2) 3689348814741910323) + (andV .u64 (IntKind.wrap .u64 ((andV .u64 (shV false .u64 a 1) 6148914691236517205) + (andV .u64 a 6148914691236517205))) 3689348814741910323))))) 1085102592571150095) + (shV false .u64 (andV .u64 (IntKind.wrap .u64 ((shV false .u64 (IntKind.wrap .u64 ((andV .u64 (shV false .u64 (IntKind.wrap .u64 ((andV .u64 (shV false .u64 a 1) 6148914691236517205) + (andV .u64 a 6148914691236517205))) 2) 3689348814741910323) + (andV .u64 (IntKind.wrap .u64 ((andV .u64 (shV false .u64 a 1) 6148914691236517205) + (andV .u64 a 6148914691236517205))) 3689348814741910323))) 4) + (IntKind.wrap .u64 ((andV .u64 (shV false .u64 (IntKind.wrap .u64 ((andV .u64 (shV false .u64 a 1) 6148914691236517205) + (andV .u64 a 6148914691236517205))) 2) 3689348814741910323) + (andV .u64 (IntKind.wrap .u64 ((andV .u64 (shV false .u64 a 1) 6148914691236517205) + (andV .u64 a 6148914691236517205))) 3689348814741910323))))) 1085102592571150095) 8))) 16))) + (shV false .u64 (IntKind.wrap .u64 ((IntKind.wrap .u64 ((andV .u64 (IntKind.wrap .u64 ((shV false .u64 (IntKind.wrap .u64 ((andV .u64 (shV false .u64 (IntKind.wrap .u64 ((andV .u64 (shV false .u64 a 1) 6148914691236517205) + (andV .u64 a 6148914691236517205))) 2) 3689348814741910323) + (andV .u64 (IntKind.wrap .u64 ((andV .u64 (shV false .u64 a 1) 6148914691236517205) + (andV .u64 a 6148914691236517205))) 3689348814741910323))) 4) + (IntKind.wrap .u64 ((andV .u64 (shV false .u64 (IntKind.wrap .u64 ((andV .u64 (shV false .u64 a 1) 6148914691236517205) + (andV .u64 a 6148914691236517205))) 2) 3689348814741910323) + (andV .u64 (IntKind.wrap .u64 ((andV .u64 (shV false .u64 a 1) 6148914691236517205) + (andV .u64 a 6148914691236517205))) 3689348814741910323))))) 1085102592571150095) + (shV false .u64 (andV .u64 (IntKind.wrap .u64 ((shV false .u64 (IntKind.wrap .u64 ((andV .u64 (shV false .u64 (IntKind.wrap .u64 ((andV .u64 (shV false .u64 a 1) 6148914691236517205) + (andV .u64 a 6148914691236517205))) 2) 3689348814741910323) + (andV .u64 (IntKind.wrap .u64 ((andV .u64 (shV false .u64 a 1) 6148914691236517205) + (andV .u64 a 6148914691236517205))) 3689348814741910323))) 4) + (IntKind.wrap .u64 ((andV .u64 (shV false .u64 (IntKind.wrap .u64 ((andV .u64 (shV false .u64 a 1) 6148914691236517205) + (andV .u64 a 6148914691236517205))) 2) 3689348814741910323) + (andV .u64 (IntKind.wrap .u64 ((andV .u64 (shV false .u64 a 1) 6148914691236517205) + (andV .u64 a 6148914691236517205))) 3689348814741910323))))) 1085102592571150095) 8))) + (shV false .u64 (IntKind.wrap .u64 ((andV .u64 (IntKind.wrap .u64 ((shV false .u64 (IntKind.wrap .u64 ((andV .u64 (shV false .u64 (IntKind.wrap .u64 ((andV .u64 (shV false .u64 a 1) 6148914691236517205) + (andV .u64 a 6148914691236517205))) 2) 3689348814741910323) + (andV .u64 (IntKind.wrap .u64 ((andV .u64 (shV false .u64 a 1) 6148914691236517205) + (andV .u64 a 6148914691236517205))) 3689348814741910323))) 4) + (IntKind.wrap .u64 ((andV .u64 (shV false .u64 (IntKind.wrap .u64 ((andV .u64 (shV false .u64 a 1) 6148914691236517205) + (andV .u64 a 6148914691236517205))) 2) 3689348814741910323) + (andV .u64 (IntKind.wrap .u64 ((andV .u64 (shV false .u64 a 1) 6148914691236517205) + (andV .u64 a 6148914691236517205))) 3689348814741910323))))) 1085102592571150095) + (shV false .u64 (andV .u64 (IntKind.wrap .u64 ((shV false .u64 (IntKind.wrap .u64 ((andV .u64 (shV false .u64 (IntKind.wrap .u64 ((andV .u64 (shV false .u64 a 1) 6148914691236517205) + (andV .u64 a 6148914691236517205))) 2) 3689348814741910323) + (andV .u64 (IntKind.wrap .u64 ((andV .u64 (shV false .u64 a 1) 6148914691236517205) + (andV .u64 a 6148914691236517205))) 3689348814741910323))) 4) + (IntKind.wrap .u64 ((andV .u64 (shV false .u64 (IntKind.wrap .u64 ((andV .u64 (shV false .u64 a 1) 6148914691236517205) + (andV .u64 a 6148914691236517205))) 2) 3689348814741910323) + (andV .u64 (IntKind.wrap .u64 ((andV .u64 (shV false .u64 a 1) 6148914691236517205) + (andV .u64 a 6148914691236517205))) 3689348814741910323))))) 1085102592571150095) 8))) 16))) 32)))) 127)
theorem f118_ok (m : Nat) (a : Int) (o : Int) (h : f118 m a = some o) (w : World) (hI : seatInv w) : Calls Proofs.Tryd.prog 118 #[uu a] w fun e w' => e = .returned (ii o) ∧ Below w.heap.size w w' := by
 refine KC.calls (E := E0) (args := [uu a]) (v := ii o) rfl rfl (KC.bodyN E0_ok (F := Proofs.Tryd.f118) (by kernel_rfl) (code := f118_C118) (by kernel_rfl) (nt := 35) (by kernel_rfl) (rs := [.tmp 2]) (by kernel_rfl) (by kernel_rfl) (σ := [(0, uu a)]) (by kernel_rfl) ?_) w (seatInv_size hI) hI
 unfold f118 at h
 refine qQ ?_
 refine rS 1 [(0, uu a)] ?_
 refine nQ id ?_
 refine rS 7 [(0, uu (IntKind.wrap .u64 ((andV .u64 (shV false .u64 a 1) 6148914691236517205) + (andV .u64 a 6148914691236517205))))] ?_
 refine nQ id ?_
 refine rS 7 [(0, uu (IntKind.wrap .u64 ((andV .u64 (shV false .u64 (IntKind.wrap .u64 ((andV .u64 (shV false .u64 a 1) 6148914691236517205) + (andV .u64 a 6148914691236517205))) 2) 3689348814741910323) + (andV .u64 (IntKind.wrap .u64 ((andV .u64 (shV false .u64 a 1) 6148914691236517205) + (andV .u64 a 6148914691236517205))) 3689348814741910323))))] ?_
 refine nQ id ?_
 refine rS 6 [(0, uu (andV .u64 (IntKind.wrap .u64 ((shV false .u64 (IntKind.wrap .u64 ((andV .u64 (shV false .u64 (IntKind.wrap .u64 ((andV .u64 (shV false .u64 a 1) 6148914691236517205) + (andV .u64 a 6148914691236517205))) 2) 3689348814741910323) + (andV .u64 (IntKind.wrap .u64 ((andV .u64 (shV false .u64 a 1) 6148914691236517205) + (andV .u64 a 6148914691236517205))) 3689348814741910323))) 4) + (IntKind.wrap .u64 ((andV .u64 (shV false .u64 (IntKind.wrap .u64 ((andV .u64 (shV false .u64 a 1) 6148914691236517205) + (andV .u64 a 6148914691236517205))) 2) 3689348814741910323) + (andV .u64 (IntKind.wrap .u64 ((andV .u64 (shV false .u64 a 1) 6148914691236517205) + (andV .u64 a 6148914691236517205))) 3689348814741910323))))) 1085102592571150095))] ?_
 refine nQ id ?_
 refine rS 5 [(0, uu (IntKind.wrap .u64 ((andV .u64 (IntKind.wrap .u64 ((shV false .u64 (IntKind.wrap .u64 ((andV .u64 (shV false .u64 (IntKind.wrap .u64 ((andV .u64 (shV false .u64 a 1) 6148914691236517205) + (andV .u64 a 6148914691236517205))) 2) 3689348814741910323) + (andV .u64 (IntKind.wrap .u64 ((andV .u64 (shV false .u64 a 1) 6148914691236517205) + (andV .u64 a 6148914691236517205))) 3689348814741910323))) 4) + (IntKind.wrap .u64 ((andV .u64 (shV false .u64 (IntKind.wrap .u64 ((andV .u64 (shV false .u64 a 1) 6148914691236517205) + (andV .u64 a 6148914691236517205))) 2) 3689348814741910323) + (andV .u64 (IntKind.wrap .u64 ((andV .u64 (shV false .u64 a 1) 6148914691236517205) + (andV .u64 a 6148914691236517205))) 3689348814741910323))))) 1085102592571150095) + (shV false .u64 (andV .u64 (IntKind.wrap .u64 ((shV false .u64 (IntKind.wrap .u64 ((andV .u64 (shV false .u64 (IntKind.wrap .u64 ((andV .u64 (shV false .u64 a 1) 6148914691236517205) + (andV .u64 a 6148914691236517205))) 2) 3689348814741910323) + (andV .u64 (IntKind.wrap .u64 ((andV .u64 (shV false .u64 a 1) 6148914691236517205) + (andV .u64 a 6148914691236517205))) 3689348814741910323))) 4) + (IntKind.wrap .u64 ((andV .u64 (shV false .u64 (IntKind.wrap .u64 ((andV .u64 (shV false .u64 a 1) 6148914691236517205) + (andV .u64 a 6148914691236517205))) 2) 3689348814741910323) + (andV .u64 (IntKind.wrap .u64 ((andV .u64 (shV false .u64 a 1) 6148914691236517205) + (andV .u64 a 6148914691236517205))) 3689348814741910323))))) 1085102592571150095) 8))))] ?_
 refine nQ id ?_
 refine rS 5 [(0, uu (IntKind.wrap .u64 ((IntKind.wrap .u64 ((andV .u64 (IntKind.wrap .u64 ((shV false .u64 (IntKind.wrap .u64 ((andV .u64 (shV false .u64 (IntKind.wrap .u64 ((andV .u64 (shV false .u64 a 1) 6148914691236517205) + (andV .u64 a 6148914691236517205))) 2) 3689348814741910323) + (andV .u64 (IntKind.wrap .u64 ((andV .u64 (shV false .u64 a 1) 6148914691236517205) + (andV .u64 a 6148914691236517205))) 3689348814741910323))) 4) + (IntKind.wrap .u64 ((andV .u64 (shV false .u64 (IntKind.wrap .u64 ((andV .u64 (shV false .u64 a 1) 6148914691236517205) + (andV .u64 a 6148914691236517205))) 2) 3689348814741910323) + (andV .u64 (IntKind.wrap .u64 ((andV .u64 (shV false .u64 a 1) 6148914691236517205) + (andV .u64 a 6148914691236517205))) 3689348814741910323))))) 1085102592571150095) + (shV false .u64 (andV .u64 (IntKind.wrap .u64 ((shV false .u64 (IntKind.wrap .u64 ((andV .u64 (shV false .u64 (IntKind.wrap .u64 ((andV .u64 (shV false .u64 a 1) 6148914691236517205) + (andV .u64 a 6148914691236517205))) 2) 3689348814741910323) + (andV .u64 (IntKind.wrap .u64 ((andV .u64 (shV false .u64 a 1) 6148914691236517205) + (andV .u64 a 6148914691236517205))) 3689348814741910323))) 4) + (IntKind.wrap .u64 ((andV .u64 (shV false .u64 (IntKind.wrap .u64 ((andV .u64 (shV false .u64 a 1) 6148914691236517205) + (andV .u64 a 6148914691236517205))) 2) 3689348814741910323) + (andV .u64 (IntKind.wrap .u64 ((andV .u64 (shV false .u64 a 1) 6148914691236517205) + (andV .u64 a 6148914691236517205))) 3689348814741910323))))) 1085102592571150095) 8))) + (shV false .u64 (IntKind.wrap .u64 ((andV .u64 (IntKind.wrap .u64 ((shV false .u64 (IntKind.wrap .u64 ((andV .u64 (shV false .u64 (IntKind.wrap .u64 ((andV .u64 (shV false .u64 a 1) 6148914691236517205) + (andV .u64 a 6148914691236517205))) 2) 3689348814741910323) + (andV .u64 (IntKind.wrap .u64 ((andV .u64 (shV false .u64 a 1) 6148914691236517205) + (andV .u64 a 6148914691236517205))) 3689348814741910323))) 4) + (IntKind.wrap .u64 ((andV .u64 (shV false .u64 (IntKind.wrap .u64 ((andV .u64 (shV false .u64 a 1) 6148914691236517205) + (andV .u64 a 6148914691236517205))) 2) 3689348814741910323) + (andV .u64 (IntKind.wrap .u64 ((andV .u64 (shV false .u64 a 1) 6148914691236517205) + (andV .u64 a 6148914691236517205))) 3689348814741910323))))) 1085102592571150095) + (shV false .u64 (andV .u64 (IntKind.wrap .u64 ((shV false .u64 (IntKind.wrap .u64 ((andV .u64 (shV false .u64 (IntKind.wrap .u64 ((andV .u64 (shV false .u64 a 1) 6148914691236517205) + (andV .u64 a 6148914691236517205))) 2) 3689348814741910323) + (andV .u64 (IntKind.wrap .u64 ((andV .u64 (shV false .u64 a 1) 6148914691236517205) + (andV .u64 a 6148914691236517205))) 3689348814741910323))) 4) + (IntKind.wrap .u64 ((andV .u64 (shV false .u64 (IntKind.wrap .u64 ((andV .u64 (shV false .u64 a 1) 6148914691236517205) + (andV .u64 a 6148914691236517205))) 2) 3689348814741910323) + (andV .u64 (IntKind.wrap .u64 ((andV .u64 (shV false .u64 a 1) 6148914691236517205) + (andV .u64 a 6148914691236517205))) 3689348814741910323))))) 1085102592571150095) 8))) 16))))] ?_
 refine nQ id ?_
 refine rS 5 [(0, uu (IntKind.wrap .u64 ((IntKind.wrap .u64 ((IntKind.wrap .u64 ((andV .u64 (IntKind.wrap .u64 ((shV false .u64 (IntKind.wrap .u64 ((andV .u64 (shV false .u64 (IntKind.wrap .u64 ((andV .u64 (shV false .u64 a 1) 6148914691236517205) + (andV .u64 a 6148914691236517205))) 2) 3689348814741910323) + (andV .u64 (IntKind.wrap .u64 ((andV .u64 (shV false .u64 a 1) 6148914691236517205) + (andV .u64 a 6148914691236517205))) 3689348814741910323))) 4) + (IntKind.wrap .u64 ((andV .u64 (shV false .u64 (IntKind.wrap .u64 ((andV .u64 (shV false .u64 a 1) 6148914691236517205) + (andV .u64 a 6148914691236517205))) 2) 3689348814741910323) + (andV .u64 (IntKind.wrap .u64 ((andV .u64 (shV false .u64 a 1) 6148914691236517205) + (andV .u64 a 6148914691236517205))) 3689348814741910323))))) 1085102592571150095) + (shV false .u64 (andV .u64 (IntKind.wrap .u64 ((shV false .u64 (IntKind.wrap .u64 ((andV .u64 (shV false .u64 (IntKind.wrap .u64 ((andV .u64 (shV false .u64 a 1) 6148914691236517205) + (andV .u64 a 6148914691236517205))) 2) 3689348814741910323) + (andV .u64 (IntKind.wrap .u64 ((andV .u64 (shV false .u64 a 1) 6148914691236517205) + (andV .u64 a 6148914691236517205))) 3689348814741910323))) 4) + (IntKind.wrap .u64 ((andV .u64 (shV false .u64 (IntKind.wrap .u64 ((andV .u64 (shV false .u64 a 1) 6148914691236517205) + (andV .u64 a 6148914691236517205))) 2) 3689348814741910323) + (andV .u64 (IntKind.wrap .u64 ((andV .u64 (shV false .u64 a 1) 6148914691236517205) + (andV .u64 a 6148914691236517205))) 3689348814741910323))))) 1085102592571150095) 8))) + (shV false .u64 (IntKind.wrap .u64 ((andV .u64 (IntKind.wrap .u64 ((shV false .u64 (IntKind.wrap .u64 ((andV .u64 (shV false .u64 (IntKind.wrap .u64 ((andV .u64 (shV false .u64 a 1) 6148914691236517205) + (andV .u64 a 6148914691236517205))) 2) 3689348814741910323) + (andV .u64 (IntKind.wrap .u64 ((andV .u64 (shV false .u64 a 1) 6148914691236517205) + (andV .u64 a 6148914691236517205))) 3689348814741910323))) 4) + (IntKind.wrap .u64 ((andV .u64 (shV false .u64 (IntKind.wrap .u64 ((andV .u64 (shV false .u64 a 1) 6148914691236517205) + (andV .u64 a 6148914691236517205))) 2) 3689348814741910323) + (andV .u64 (IntKind.wrap .u64 ((andV .u64 (shV false .u64 a 1) 6148914691236517205) + (andV .u64 a 6148914691236517205))) 3689348814741910323))))) 1085102592571150095) + (shV false .u64 (andV .u64 (IntKind.wrap .u64 ((shV false .u64 (IntKind.wrap .u64 ((andV .u64 (shV false .u64 (IntKind.wrap .u64 ((andV .u64 (shV false .u64 a 1) 6148914691236517205) + (andV .u64 a 6148914691236517205))) 2) 3689348814741910323) + (andV .u64 (IntKind.wrap .u64 ((andV .u64 (shV false .u64 a 1) 6148914691236517205) + (andV .u64 a 6148914691236517205))) 3689348814741910323))) 4) + (IntKind.wrap .u64 ((andV .u64 (shV false .u64 (IntKind.wrap .u64 ((andV .u64 (shV false .u64 a 1) 6148914691236517205) + (andV .u64 a 6148914691236517205))) 2) 3689348814741910323) + (andV .u64 (IntKind.wrap .u64 ((andV .u64 (shV false .u64 a 1) 6148914691236517205) + (andV .u64 a 6148914691236517205))) 3689348814741910323))))) 1085102592571150095) 8))) 16))) + (shV false .u64 (IntKind.wrap .u64 ((IntKind.wrap .u64 ((andV .u64 (IntKind.wrap .u64 ((shV false .u64 (IntKind.wrap .u64 ((andV .u64 (shV false .u64 (IntKind.wrap .u64 ((andV .u64 (shV false .u64 a 1) 6148914691236517205) + (andV .u64 a 6148914691236517205))) 2) 3689348814741910323) + (andV .u64 (IntKind.wrap .u64 ((andV .u64 (shV false .u64 a 1) 6148914691236517205) + (andV .u64 a 6148914691236517205))) 3689348814741910323))) 4) + (IntKind.wrap .u64 ((andV .u64 (shV false .u64 (IntKind.wrap .u64 ((andV .u64 (shV false .u64 a 1) 6148914691236517205) + (andV .u64 a 6148914691236517205))) 2) 3689348814741910323) + (andV .u64 (IntKind.wrap .u64 ((andV .u64 (shV false .u64 a 1) 6148914691236517205) + (andV .u64 a 6148914691236517205))) 3689348814741910323))))) 1085102592571150095) + (shV false .u64 (andV .u64 (IntKind.wrap .u64 ((shV false .u64 (IntKind.wrap .u64 ((andV .u64 (shV false .u64 (IntKind.wrap .u64 ((andV .u64 (shV false .u64 a 1) 6148914691236517205) + (andV .u64 a 6148914691236517205))) 2) 3689348814741910323) + (andV .u64 (IntKind.wrap .u64 ((andV .u64 (shV false .u64 a 1) 6148914691236517205) + (andV .u64 a 6148914691236517205))) 3689348814741910323))) 4) + (IntKind.wrap .u64 ((andV .u64 (shV false .u64 (IntKind.wrap .u64 ((andV .u64 (shV false .u64 a 1) 6148914691236517205) + (andV .u64 a 6148914691236517205))) 2) 3689348814741910323) + (andV .u64 (IntKind.wrap .u64 ((andV .u64 (shV false .u64 a 1) 6148914691236517205) + (andV .u64 a 6148914691236517205))) 3689348814741910323))))) 1085102592571150095) 8))) + (shV false .u64 (IntKind.wrap .u64 ((andV .u64 (IntKind.wrap .u64 ((shV false .u64 (IntKind.wrap .u64 ((andV .u64 (shV false .u64 (IntKind.wrap .u64 ((andV .u64 (shV false .u64 a 1) 6148914691236517205) + (andV .u64 a 6148914691236517205))) 2) 3689348814741910323) + (andV .u64 (IntKind.wrap .u64 ((andV .u64 (shV false .u64 a 1) 6148914691236517205) + (andV .u64 a 6148914691236517205))) 3689348814741910323))) 4) + (IntKind.wrap .u64 ((andV .u64 (shV false .u64 (IntKind.wrap .u64 ((andV .u64 (shV false .u64 a 1) 6148914691236517205) + (andV .u64 a 6148914691236517205))) 2) 3689348814741910323) + (andV .u64 (IntKind.wrap .u64 ((andV .u64 (shV false .u64 a 1) 6148914691236517205) + (andV .u64 a 6148914691236517205))) 3689348814741910323))))) 1085102592571150095) + (shV false .u64 (andV .u64 (IntKind.wrap .u64 ((shV false .u64 (IntKind.wrap .u64 ((andV .u64 (shV false .u64 (IntKind.wrap .u64 ((andV .u64 (shV false .u64 a 1) 6148914691236517205) + (andV .u64 a 6148914691236517205))) 2) 3689348814741910323) + (andV .u64 (IntKind.wrap .u64 ((andV .u64 (shV false .u64 a 1) 6148914691236517205) + (andV .u64 a 6148914691236517205))) 3689348814741910323))) 4) + (IntKind.wrap .u64 ((andV .u64 (shV false .u64 (IntKind.wrap .u64 ((andV .u64 (shV false .u64 a 1) 6148914691236517205) + (andV .u64 a 6148914691236517205))) 2) 3689348814741910323) + (andV .u64 (IntKind.wrap .u64 ((andV .u64 (shV false .u64 a 1) 6148914691236517205) + (andV .u64 a 6148914691236517205))) 3689348814741910323))))) 1085102592571150095) 8))) 16))) 32))))] ?_
 refine nQ id ?_
 refine rS 4 [(2, ii (andV .i64 (w64 (IntKind.wrap .u64 ((IntKind.wrap .u64 ((IntKind.wrap .u64 ((andV .u64 (IntKind.wrap .u64 ((shV false .u64 (IntKind.wrap .u64 ((andV .u64 (shV false .u64 (IntKind.wrap .u64 ((andV .u64 (shV false .u64 a 1) 6148914691236517205) + (andV .u64 a 6148914691236517205))) 2) 3689348814741910323) + (andV .u64 (IntKind.wrap .u64 ((andV .u64 (shV false .u64 a 1) 6148914691236517205) + (andV .u64 a 6148914691236517205))) 3689348814741910323))) 4) + (IntKind.wrap .u64 ((andV .u64 (shV false .u64 (IntKind.wrap .u64 ((andV .u64 (shV false .u64 a 1) 6148914691236517205) + (andV .u64 a 6148914691236517205))) 2) 3689348814741910323) + (andV .u64 (IntKind.wrap .u64 ((andV .u64 (shV false .u64 a 1) 6148914691236517205) + (andV .u64 a 6148914691236517205))) 3689348814741910323))))) 1085102592571150095) + (shV false .u64 (andV .u64 (IntKind.wrap .u64 ((shV false .u64 (IntKind.wrap .u64 ((andV .u64 (shV false .u64 (IntKind.wrap .u64 ((andV .u64 (shV false .u64 a 1) 6148914691236517205) + (andV .u64 a 6148914691236517205))) 2) 3689348814741910323) + (andV .u64 (IntKind.wrap .u64 ((andV .u64 (shV false .u64 a 1) 6148914691236517205) + (andV .u64 a 6148914691236517205))) 3689348814741910323))) 4) + (IntKind.wrap .u64 ((andV .u64 (shV false .u64 (IntKind.wrap .u64 ((andV .u64 (shV false .u64 a 1) 6148914691236517205) + (andV .u64 a 6148914691236517205))) 2) 3689348814741910323) + (andV .u64 (IntKind.wrap .u64 ((andV .u64 (shV false .u64 a 1) 6148914691236517205) + (andV .u64 a 6148914691236517205))) 3689348814741910323))))) 1085102592571150095) 8))) + (shV false .u64 (IntKind.wrap .u64 ((andV .u64 (IntKind.wrap .u64 ((shV false .u64 (IntKind.wrap .u64 ((andV .u64 (shV false .u64 (IntKind.wrap .u64 ((andV .u64 (shV false .u64 a 1) 6148914691236517205) + (andV .u64 a 6148914691236517205))) 2) 3689348814741910323) + (andV .u64 (IntKind.wrap .u64 ((andV .u64 (shV false .u64 a 1) 6148914691236517205) + (andV .u64 a 6148914691236517205))) 3689348814741910323))) 4) + (IntKind.wrap .u64 ((andV .u64 (shV false .u64 (IntKind.wrap .u64 ((andV .u64 (shV false .u64 a 1) 6148914691236517205) + (andV .u64 a 6148914691236517205))) 2) 3689348814741910323) + (andV .u64 (IntKind.wrap .u64 ((andV .u64 (shV false .u64 a 1) 6148914691236517205) + (andV .u64 a 6148914691236517205))) 3689348814741910323))))) 1085102592571150095) + (shV false .u64 (andV .u64 (IntKind.wrap .u64 ((shV false .u64 (IntKind.wrap .u64 ((andV .u64 (shV false .u64 (IntKind.wrap .u64 ((andV .u64 (shV false .u64 a 1) 6148914691236517205) + (andV .u64 a 6148914691236517205))) 2) 3689348814741910323) + (andV .u64 (IntKind.wrap .u64 ((andV .u64 (shV false .u64 a 1) 6148914691236517205) + (andV .u64 a 6148914691236517205))) 3689348814741910323))) 4) + (IntKind.wrap .u64 ((andV .u64 (shV false .u64 (IntKind.wrap .u64 ((andV .u64 (shV false .u64 a 1) 6148914691236517205) + (andV .u64 a 6148914691236517205))) 2) 3689348814741910323) + (andV .u64 (IntKind.wrap .u64 ((andV .u64 (shV false .u64 a 1) 6148914691236517205) + (andV .u64 a 6148914691236517205))) 3689348814741910323))))) 1085102592571150095) 8))) 16))) + (shV false .u64 (IntKind.wrap .u64 ((IntKind.wrap .u64 ((andV .u64 (IntKind.wrap .u64 ((shV false .u64 (IntKind.wrap .u64 ((andV .u64 (shV false .u64 (IntKind.wrap .u64 ((andV .u64 (shV false .u64 a 1) 6148914691236517205) + (andV .u64 a 6148914691236517205))) 2) 3689348814741910323) + (andV .u64 (IntKind.wrap .u64 ((andV .u64 (shV false .u64 a 1) 6148914691236517205) + (andV .u64 a 6148914691236517205))) 3689348814741910323))) 4) + (IntKind.wrap .u64 ((andV .u64 (shV false .u64 (IntKind.wrap .u64 ((andV .u64 (shV false .u64 a 1) 6148914691236517205) + (andV .u64 a 6148914691236517205))) 2) 3689348814741910323) + (andV .u64 (IntKind.wrap .u64 ((andV .u64 (shV false .u64 a 1) 6148914691236517205) + (andV .u64 a 6148914691236517205))) 3689348814741910323))))) 1085102592571150095) + (shV false .u64 (andV .u64 (IntKind.wrap .u64 ((shV false .u64 (IntKind.wrap .u64 ((andV .u64 (shV false .u64 (IntKind.wrap .u64 ((andV .u64 (shV false .u64 a 1) 6148914691236517205) + (andV .u64 a 6148914691236517205))) 2) 3689348814741910323) + (andV .u64 (IntKind.wrap .u64 ((andV .u64 (shV false .u64 a 1) 6148914691236517205) + (andV .u64 a 6148914691236517205))) 3689348814741910323))) 4) + (IntKind.wrap .u64 ((andV .u64 (shV false .u64 (IntKind.wrap .u64 ((andV .u64 (shV false .u64 a 1) 6148914691236517205) + (andV .u64 a 6148914691236517205))) 2) 3689348814741910323) + (andV .u64 (IntKind.wrap .u64 ((andV .u64 (shV false .u64 a 1) 6148914691236517205) + (andV .u64 a 6148914691236517205))) 3689348814741910323))))) 1085102592571150095) 8))) + (shV false .u64 (IntKind.wrap .u64 ((andV .u64 (IntKind.wrap .u64 ((shV false .u64 (IntKind.wrap .u64 ((andV .u64 (shV false .u64 (IntKind.wrap .u64 ((andV .u64 (shV false .u64 a 1) 6148914691236517205) + (andV .u64 a 6148914691236517205))) 2) 3689348814741910323) + (andV .u64 (IntKind.wrap .u64 ((andV .u64 (shV false .u64 a 1) 6148914691236517205) + (andV .u64 a 6148914691236517205))) 3689348814741910323))) 4) + (IntKind.wrap .u64 ((andV .u64 (shV false .u64 (IntKind.wrap .u64 ((andV .u64 (shV false .u64 a 1) 6148914691236517205) + (andV .u64 a 6148914691236517205))) 2) 3689348814741910323) + (andV .u64 (IntKind.wrap .u64 ((andV .u64 (shV false .u64 a 1) 6148914691236517205) + (andV .u64 a 6148914691236517205))) 3689348814741910323))))) 1085102592571150095) + (shV false .u64 (andV .u64 (IntKind.wrap .u64 ((shV false .u64 (IntKind.wrap .u64 ((andV .u64 (shV false .u64 (IntKind.wrap .u64 ((andV .u64 (shV false .u64 a 1) 6148914691236517205) + (andV .u64 a 6148914691236517205))) 2) 3689348814741910323) + (andV .u64 (IntKind.wrap .u64 ((andV .u64 (shV false .u64 a 1) 6148914691236517205) + (andV .u64 a 6148914691236517205))) 3689348814741910323))) 4) + (IntKind.wrap .u64 ((andV .u64 (shV false .u64 (IntKind.wrap .u64 ((andV .u64 (shV false .u64 a 1) 6148914691236517205) + (andV .u64 a 6148914691236517205))) 2) 3689348814741910323) + (andV .u64 (IntKind.wrap .u64 ((andV .u64 (shV false .u64 a 1) 6148914691236517205) + (andV .u64 a 6148914691236517205))) 3689348814741910323))))) 1085102592571150095) 8))) 16))) 32)))) 127))] ?_
 refine dQ ?_
 show XQ _ _ _ _ _ _ _ _
 refine XQ.ret (by kernel_rfl) ?_
 have h := Option.some.inj h
 subst h
 exact ⟨fun i q => (by cases q), ii (andV .i64 (w64 (IntKind.wrap .u64 ((IntKind.wrap .u64 ((IntKind.wrap .u64 ((andV .u64 (IntKind.wrap .u64 ((shV false .u64 (IntKind.wrap .u64 ((andV .u64 (shV false .u64 (IntKind.wrap .u64 ((andV .u64 (shV false .u64 a 1) 6148914691236517205) + (andV .u64 a 6148914691236517205))) 2) 3689348814741910323) + (andV .u64 (IntKind.wrap .u64 ((andV .u64 (shV false .u64 a 1) 6148914691236517205) + (andV .u64 a 6148914691236517205))) 3689348814741910323))) 4) + (IntKind.wrap .u64 ((andV .u64 (shV false .u64 (IntKind.wrap .u64 ((andV .u64 (shV false .u64 a 1) 6148914691236517205) + (andV .u64 a 6148914691236517205))) 2) 3689348814741910323) + (andV .u64 (IntKind.wrap .u64 ((andV .u64 (shV false .u64 a 1) 6148914691236517205) + (andV .u64 a 6148914691236517205))) 3689348814741910323))))) 1085102592571150095) + (shV false .u64 (andV .u64 (IntKind.wrap .u64 ((shV false .u64 (IntKind.wrap .u64 ((andV .u64 (shV false .u64 (IntKind.wrap .u64 ((andV .u64 (shV false .u64 a 1) 6148914691236517205) + (andV .u64 a 6148914691236517205))) 2) 3689348814741910323) + (andV .u64 (IntKind.wrap .u64 ((andV .u64 (shV false .u64 a 1) 6148914691236517205) + (andV .u64 a 6148914691236517205))) 3689348814741910323))) 4) + (IntKind.wrap .u64 ((andV .u64 (shV false .u64 (IntKind.wrap .u64 ((andV .u64 (shV false .u64 a 1) 6148914691236517205) + (andV .u64 a 6148914691236517205))) 2) 3689348814741910323) + (andV .u64 (IntKind.wrap .u64 ((andV .u64 (shV false .u64 a 1) 6148914691236517205) + (andV .u64 a 6148914691236517205))) 3689348814741910323))))) 1085102592571150095) 8))) + (shV false .u64 (IntKind.wrap .u64 ((andV .u64 (IntKind.wrap .u64 ((shV false .u64 (IntKind.wrap .u64 ((andV .u64 (shV false .u64 (IntKind.wrap .u64 ((andV .u64 (shV false .u64 a 1) 6148914691236517205) + (andV .u64 a 6148914691236517205))) 2) 3689348814741910323) + (andV .u64 (IntKind.wrap .u64 ((andV .u64 (shV false .u64 a 1) 6148914691236517205) + (andV .u64 a 6148914691236517205))) 3689348814741910323))) 4) + (IntKind.wrap .u64 ((andV .u64 (shV false .u64 (IntKind.wrap .u64 ((andV .u64 (shV false .u64 a 1) 6148914691236517205) + (andV .u64 a 6148914691236517205))) 2) 3689348814741910323) + (andV .u64 (IntKind.wrap .u64 ((andV .u64 (shV false .u64 a 1) 6148914691236517205) + (andV .u64 a 6148914691236517205))) 3689348814741910323))))) 1085102592571150095) + (shV false .u64 (andV .u64 (IntKind.wrap .u64 ((shV false .u64 (IntKind.wrap .u64 ((andV .u64 (shV false .u64 (IntKind.wrap .u64 ((andV .u64 (shV false .u64 a 1) 6148914691236517205) + (andV .u64 a 6148914691236517205))) 2) 3689348814741910323) + (andV .u64 (IntKind.wrap .u64 ((andV .u64 (shV false .u64 a 1) 6148914691236517205) + (andV .u64 a 6148914691236517205))) 3689348814741910323))) 4) + (IntKind.wrap .u64 ((andV .u64 (shV false .u64 (IntKind.wrap .u64 ((andV .u64 (shV false .u64 a 1) 6148914691236517205) + (andV .u64 a 6148914691236517205))) 2) 3689348814741910323) + (andV .u64 (IntKind.wrap .u64 ((andV .u64 (shV false .u64 a 1) 6148914691236517205) + (andV .u64 a 6148914691236517205))) 3689348814741910323))))) 1085102592571150095) 8))) 16))) + (shV false .u64 (IntKind.wrap .u64 ((IntKind.wrap .u64 ((andV .u64 (IntKind.wrap .u64 ((shV false .u64 (IntKind.wrap .u64 ((andV .u64 (shV false .u64 (IntKind.wrap .u64 ((andV .u64 (shV false .u64 a 1) 6148914691236517205) + (andV .u64 a 6148914691236517205))) 2) 3689348814741910323) + (andV .u64 (IntKind.wrap .u64 ((andV .u64 (shV false .u64 a 1) 6148914691236517205) + (andV .u64 a 6148914691236517205))) 3689348814741910323))) 4) + (IntKind.wrap .u64 ((andV .u64 (shV false .u64 (IntKind.wrap .u64 ((andV .u64 (shV false .u64 a 1) 6148914691236517205) + (andV .u64 a 6148914691236517205))) 2) 3689348814741910323) + (andV .u64 (IntKind.wrap .u64 ((andV .u64 (shV false .u64 a 1) 6148914691236517205) + (andV .u64 a 6148914691236517205))) 3689348814741910323))))) 1085102592571150095) + (shV false .u64 (andV .u64 (IntKind.wrap .u64 ((shV false .u64 (IntKind.wrap .u64 ((andV .u64 (shV false .u64 (IntKind.wrap .u64 ((andV .u64 (shV false .u64 a 1) 6148914691236517205) + (andV .u64 a 6148914691236517205))) 2) 3689348814741910323) + (andV .u64 (IntKind.wrap .u64 ((andV .u64 (shV false .u64 a 1) 6148914691236517205) + (andV .u64 a 6148914691236517205))) 3689348814741910323))) 4) + (IntKind.wrap .u64 ((andV .u64 (shV false .u64 (IntKind.wrap .u64 ((andV .u64 (shV false .u64 a 1) 6148914691236517205) + (andV .u64 a 6148914691236517205))) 2) 3689348814741910323) + (andV .u64 (IntKind.wrap .u64 ((andV .u64 (shV false .u64 a 1) 6148914691236517205) + (andV .u64 a 6148914691236517205))) 3689348814741910323))))) 1085102592571150095) 8))) + (shV false .u64 (IntKind.wrap .u64 ((andV .u64 (IntKind.wrap .u64 ((shV false .u64 (IntKind.wrap .u64 ((andV .u64 (shV false .u64 (IntKind.wrap .u64 ((andV .u64 (shV false .u64 a 1) 6148914691236517205) + (andV .u64 a 6148914691236517205))) 2) 3689348814741910323) + (andV .u64 (IntKind.wrap .u64 ((andV .u64 (shV false .u64 a 1) 6148914691236517205) + (andV .u64 a 6148914691236517205))) 3689348814741910323))) 4) + (IntKind.wrap .u64 ((andV .u64 (shV false .u64 (IntKind.wrap .u64 ((andV .u64 (shV false .u64 a 1) 6148914691236517205) + (andV .u64 a 6148914691236517205))) 2) 3689348814741910323) + (andV .u64 (IntKind.wrap .u64 ((andV .u64 (shV false .u64 a 1) 6148914691236517205) + (andV .u64 a 6148914691236517205))) 3689348814741910323))))) 1085102592571150095) + (shV false .u64 (andV .u64 (IntKind.wrap .u64 ((shV false .u64 (IntKind.wrap .u64 ((andV .u64 (shV false .u64 (IntKind.wrap .u64 ((andV .u64 (shV false .u64 a 1) 6148914691236517205) + (andV .u64 a 6148914691236517205))) 2) 3689348814741910323) + (andV .u64 (IntKind.wrap .u64 ((andV .u64 (shV false .u64 a 1) 6148914691236517205) + (andV .u64 a 6148914691236517205))) 3689348814741910323))) 4) + (IntKind.wrap .u64 ((andV .u64 (shV false .u64 (IntKind.wrap .u64 ((andV .u64 (shV false .u64 a 1) 6148914691236517205) + (andV .u64 a 6148914691236517205))) 2) 3689348814741910323) + (andV .u64 (IntKind.wrap .u64 ((andV .u64 (shV false .u64 a 1) 6148914691236517205) + (andV .u64 a 6148914691236517205))) 3689348814741910323))))) 1085102592571150095) 8))) 16))) 32)))) 127), (by kernel_rfl), rfl⟩
noncomputable def f94_C94 : Code := Proofs.Tryd.f94.body.getD .skip
def f94 (m : Nat) (a : Int) : Option (Int) :=
 (f118 m a).bind fun r1 =>
  some (r1)
theorem f94_ok (m : Nat) (a : Int) (o : Int) (h : f94 m a = some o) (w : World) (hI : seatInv w) : Calls Proofs.Tryd.prog 94 #[uu a] w fun e w' => e = .returned (ii o) ∧ Below w.heap.size w w' := by
 refine KC.calls (E := E0) (args := [uu a]) (v := ii o) rfl rfl (KC.bodyN E0_ok (F := Proofs.Tryd.f94) (by kernel_rfl) (code := f94_C94) (by kernel_rfl) (nt := 8) (by kernel_rfl) (rs := [.tmp 2]) (by kernel_rfl) (by kernel_rfl) (σ := [(0, uu a)]) (by kernel_rfl) ?_) w (seatInv_size hI) hI
 unfold f94 at h
 refine qQ ?_
 refine rS 1 [(0, uu a)] ?_
 refine dQ ?_
 show XQ _ _ _ _ _ _ _ _
 refine sQ ?_
 refine XQ.cond (s := (.const (.bool false))) (b := false) (by kernel_rfl) (by kernel_rfl) (fun q => by cases q) (fun _ => ?_)
 refine kQ ?_
 show XQ _ _ _ _ _ _ _ _
 refine qQ ?_
 refine rS 1 [(6, uu a)] ?_
 obtain ⟨r1, r1_h, h⟩ := bS h
 refine XR.call E0_ok [7] rfl (K := 118) (args := [uu a]) (d := (some (path 12 7))) (by kernel_rfl) (KC.of_calls E0_ok (F := Proofs.Tryd.f118) (v := ii r1) (by kernel_rfl) rfl rfl (fun w hI => f118_ok m a r1 r1_h w hI)) ?_
 rintro _ _ _ ⟨rfl, rfl, rfl⟩
 refine XR.conv (σ' := [(7, ii r1)]) (h' := []) (c' := 0) ?_ (by kernel_rfl)
 refine rS 1 [(2, ii r1)] ?_
 refine dQ ?_
 show XQ _ _ _ _ _ _ _ _
 refine XQ.ret (by kernel_rfl) ?_
 have h := Option.some.inj h
 subst h
 exact ⟨fun i q => (by cases q), ii r1, (by kernel_rfl), rfl⟩
noncomputable def f41_C41 : Code := Proofs.Tryd.f41.body.getD .skip
noncomputable def f41_C85 : Code := Proofs.Tryd.f85.body.getD .skip
noncomputable def f41_C86 : Code := Proofs.Tryd.f86.body.getD .skip
noncomputable def f41_L1 : Code := lft (lft (rgt (lft (rgt (rgt (rgt f41_C86))))))
def f41_1 (m : Nat) : Nat → Int → List (Int × Int) → Int → Int → Int → Int → List Int → Option (Int × Int × (List Int))
 | 0, _, _, _, _, _, _, _ => none
 | fuel + 1, a_Sorters, a_Tables, x3_1, x4_1, x11_1, x12_1, lh3_1 =>
  cond (decide (x12_1 < x11_1)) (
   cond (inRow x12_1 lh3_1.length) (
    (f94 m (List.getD lh3_1 (Int.toNat x12_1) 0)).bind fun r4 =>
     f41_1 m fuel a_Sorters a_Tables x3_1 (w64 (x4_1 + (w64 (r4 * (w64 ((w64 (x3_1 - 1)) - r4)))))) x11_1 (w64 (x12_1 + 1)) lh3_1
   ) none
  ) (
   some (x3_1, x4_1, lh3_1)
  )
theorem f41_1_ok (m : Nat) : ∀ (fuel : Nat) (z0 : Nat) (y0 : Nat) (a_Sorters : Int) (a_Tables : List (Int × Int)) (x3_1 : Int) (x4_1 : Int) (x11_1 : Int) (x12_1 : Int) (lh3_1 : List Int) (o : (Int × Int × (List Int))), f41_1 m fuel a_Sorters a_Tables x3_1 x4_1 x11_1 x12_1 lh3_1 = some o → ∀ Q : QP, Q (.exit 0) [(3, ii o.1), (4, ii o.2.1)] [(3, rc (encI .u64) o.2.2 0 117 1), (2, .cells [ii a_Sorters, s0 0 a_Tables.length] 0 34 0), (1, .cells [ii a_Sorters, s0 0 a_Tables.length] 0 34 0), (0, rc encP a_Tables z0 y0 2)] 4 → XL E0 39 4 fuel f41_L1 [(3, ii x3_1), (4, ii x4_1), (10, s0 3 lh3_1.length), (11, ii x11_1), (12, ii x12_1)] [(3, rc (encI .u64) lh3_1 0 117 1), (2, .cells [ii a_Sorters, s0 0 a_Tables.length] 0 34 0), (1, .cells [ii a_Sorters, s0 0 a_Tables.length] 0 34 0), (0, rc encP a_Tables z0 y0 2)] 4 Q
 | 0, z0, y0, a_Sorters, a_Tables, x3_1, x4_1, x11_1, x12_1, lh3_1, o, h, Q, hQ => by cases h
 | fuel + 1, z0, y0, a_Sorters, a_Tables, x3_1, x4_1, x11_1, x12_1, lh3_1, o, h, Q, hQ => by
  unfold f41_1 at h
  refine XL.succ E0_ok ?_
  refine qQ ?_
  refine rS 1 [(3, ii x3_1), (4, ii x4_1), (10, s0 3 lh3_1.length), (11, ii x11_1), (12, ii x12_1), (13, .bool (decide (x12_1 < x11_1)))] ?_
  refine dQ ?_
  show XQ _ _ _ _ _ _ _ _
  refine sQ ?_
  cases b1 : (decide (x12_1 < x11_1) : Bool) with
  | true =>
   have h := cT b1 h
   refine iT (.tmp 13) ?_
   refine kQ ?_
   show XQ _ _ _ _ _ _ _ _
   refine sQ ?_
   refine XQ.block (id := 1) (by kernel_rfl) ?_
   refine qQ ?_
   cases b2 : (inRow x12_1 lh3_1.length : Bool) with
   | false => cases (cF b2 h)
   | true =>
    have h := cT b2 h
    refine XR.rd E0_ok [3, 4, 10, 11, 12, 14] rfl (v := pp 3 ((Int.toNat x12_1) * 1)) (v_idx (s := 1) (x := (src 39 (.tmp 10))) (y := (src 39 (.tmp 12))) (b := 3) (o := 0) (len := lh3_1.length) (cap := lh3_1.length) (ik := .i64) (i := x12_1) (off := (Int.toNat x12_1) * 1) (d := (some (path 12 14))) (by kernel_rfl) (by kernel_rfl) (by kernel_rfl) b2 (by omega)) (σ' := [(3, ii x3_1), (4, ii x4_1), (10, s0 3 lh3_1.length), (11, ii x11_1), (12, ii x12_1), (14, pp 3 ((Int.toNat x12_1) * 1))]) (by kernel_rfl) ?_
    refine XR.rd E0_ok [3, 4, 10, 11, 12, 15] rfl (v := uu (List.getD lh3_1 (Int.toNat x12_1) 0)) (v_load1 (encI_ok .u64) (x := (src 39 (.tmp 14))) (b := 3) (off := (Int.toNat x12_1) * 1) (xs := lh3_1) (fz := 0) (e := 117) (es := 1) (d := (some (path 12 15))) (by kernel_rfl) (by kernel_rfl) (by kernel_rfl) (Int.toNat x12_1) 0 0 (by first | rfl | omega) (row_len (inRow_toNat b2) (by simp)) rfl rfl) (σ' := [(3, ii x3_1), (4, ii x4_1), (10, s0 3 lh3_1.length), (11, ii x11_1), (12, ii x12_1), (15, uu (List.getD lh3_1 (Int.toNat x12_1) 0))]) (by kernel_rfl) ?_
    refine rS 1 [(3, ii x3_1), (4, ii x4_1), (6, uu (List.getD lh3_1 (Int.toNat x12_1) 0)), (10, s0 3 lh3_1.length), (11, ii x11_1), (12, ii x12_1)] ?_
    refine nQ id ?_
    refine rS 1 [(3, ii x3_1), (4, ii x4_1), (10, s0 3 lh3_1.length), (11, ii x11_1), (12, ii x12_1), (16, uu (List.getD lh3_1 (Int.toNat x12_1) 0))] ?_
    obtain ⟨r4, r4_h, h⟩ := bS h
    refine XR.call E0_ok [3, 4, 10, 11, 12, 17] rfl (K := 94) (args := [uu (List.getD lh3_1 (Int.toNat x12_1) 0)]) (d := (some (path 12 17))) (by kernel_rfl) (KC.of_calls E0_ok (F := Proofs.Tryd.f94) (v := ii r4) (by kernel_rfl) rfl rfl (fun w hI => f94_ok m (List.getD lh3_1 (Int.toNat x12_1) 0) r4 r4_h w hI)) ?_
    rintro _ _ _ ⟨rfl, rfl, rfl⟩
    refine XR.conv (σ' := [(3, ii x3_1), (4, ii x4_1), (10, s0 3 lh3_1.length), (11, ii x11_1), (12, ii x12_1), (17, ii r4)]) (h' := [(3, rc (encI .u64) lh3_1 0 117 1), (2, .cells [ii a_Sorters, s0 0 a_Tables.length] 0 34 0), (1, .cells [ii a_Sorters, s0 0 a_Tables.length] 0 34 0), (0, rc encP a_Tables z0 y0 2)]) (c' := 4) ?_ (by kernel_rfl)
    refine rS 1 [(3, ii x3_1), (4, ii x4_1), (7, ii r4), (10, s0 3 lh3_1.length), (11, ii x11_1), (12, ii x12_1)] ?_
    refine dQ ?_
    show XQ _ _ _ _ _ _ _ _
    refine rQ ?_
    refine rS 9 [(3, ii x3_1), (4, ii (w64 (x4_1 + (w64 (r4 * (w64 ((w64 (x3_1 - 1)) - r4))))))), (10, s0 3 lh3_1.length), (11, ii x11_1), (12, ii x12_1)] ?_
    refine dQ ?_
    show XQ _ _ _ _ _ _ _ _
    refine rQ ?_
    refine rS 2 [(3, ii x3_1), (4, ii (w64 (x4_1 + (w64 (r4 * (w64 ((w64 (x3_1 - 1)) - r4))))))), (10, s0 3 lh3_1.length), (11, ii x11_1), (12, ii (w64 (x12_1 + 1)))] ?_
    refine dQ ?_
    show XL _ _ _ _ _ _ _ _ _
    refine XL.ren (σ' := [(3, ii x3_1), (4, ii (w64 (x4_1 + (w64 (r4 * (w64 ((w64 (x3_1 - 1)) - r4))))))), (10, s0 3 lh3_1.length), (11, ii x11_1), (12, ii (w64 (x12_1 + 1)))]) (h' := [(3, rc (encI .u64) lh3_1 0 117 1), (2, .cells [ii a_Sorters, s0 0 a_Tables.length] 0 34 0), (1, .cells [ii a_Sorters, s0 0 a_Tables.length] 0 34 0), (0, rc encP a_Tables z0 y0 2)]) (c' := 4) [0, 1, 2, 3] (by decide) rfl ⟨rfl, rfl, rfl, rfl, rfl, trivial⟩ ⟨⟨_, _, rfl, rfl, .inl ⟨rfl, rowC_scal (encI_ok .u64) _⟩⟩, ⟨_, _, rfl, rfl, .inr ⟨_, _, _, _, rfl, rfl⟩⟩, ⟨_, _, rfl, rfl, .inr ⟨_, _, _, _, rfl, rfl⟩⟩, ⟨_, _, rfl, rfl, .inl ⟨rfl, rwP⟩⟩, trivial⟩ rfl ?_
    refine XL.conv (f41_1_ok m fuel z0 y0 a_Sorters a_Tables x3_1 (w64 (x4_1 + (w64 (r4 * (w64 ((w64 (x3_1 - 1)) - r4)))))) x11_1 (w64 (x12_1 + 1)) lh3_1 o h Q hQ) (by first | rfl | simp)
  | false =>
   have h := cF b1 h
   refine iF (.tmp 13) ?_
   refine XQ.ren (σ' := [(3, ii x3_1), (4, ii x4_1)]) (h' := [(3, rc (encI .u64) lh3_1 0 117 1), (2, .cells [ii a_Sorters, s0 0 a_Tables.length] 0 34 0), (1, .cells [ii a_Sorters, s0 0 a_Tables.length] 0 34 0), (0, rc encP a_Tables z0 y0 2)]) (c' := 4) [0, 1, 2, 3] (by decide) rfl ⟨rfl, rfl, trivial⟩ ⟨⟨_, _, rfl, rfl, .inl ⟨rfl, rowC_scal (encI_ok .u64) _⟩⟩, ⟨_, _, rfl, rfl, .inr ⟨_, _, _, _, rfl, rfl⟩⟩, ⟨_, _, rfl, rfl, .inr ⟨_, _, _, _, rfl, rfl⟩⟩, ⟨_, _, rfl, rfl, .inl ⟨rfl, rwP⟩⟩, trivial⟩ rfl ?_
   refine XQ.exit (i := 0) (by kernel_rfl) ?_
   cases h
   exact hQ
def f41 (m : Nat) (a_Sorters : Int) (a_Tables : List (Int × Int)) : Option (Int × Int) :=
 (f74 m a_Sorters a_Tables).bind fun r1 =>
  cond (r1.2 != 0) (
   some (0, r1.2)
  ) (
   (f41_1 m m a_Sorters a_Tables ((r1.1.length : Nat) : Int) 0 ((r1.1.length : Nat) : Int) 0 r1.1).bind fun o1 =>
    some (w64 ((w64 (Int.tdiv (w64 ((w64 (o1.1 * (w64 (o1.1 - 1)))) * (w64 (o1.1 - 2)))) 6)) - (w64 (Int.tdiv o1.2.1 2))), 0)
  )
theorem f41_ok (m : Nat) (z0 : Nat) (y0 : Nat) (a_Sorters : Int) (a_Tables : List (Int × Int)) (o : Int × Int) (h : f41 m a_Sorters a_Tables = some o) : KC E0 41 [.agg #[ii a_Sorters, s0 0 a_Tables.length]] [(0, rc encP a_Tables z0 y0 2)] 1 (fun v _ _ => v = .tuple #[ii o.1, ii o.2]) := by
 refine KC.bodyN E0_ok (F := Proofs.Tryd.f41) (by kernel_rfl) (code := f41_C41) (by kernel_rfl) (nt := 20) (by kernel_rfl) (rs := [.tmp 2, .tmp 3]) (by kernel_rfl) (by kernel_rfl) (σ := [(0, .agg #[ii a_Sorters, s0 0 a_Tables.length])]) (by kernel_rfl) ?_
 unfold f41 at h
 refine qQ ?_
 refine rT 3 [(1, pp 1 0)] [(1, .cells [ii a_Sorters, s0 0 a_Tables.length] 0 34 0), (0, rc encP a_Tables z0 y0 2)] 2 ?_
 refine nQ id ?_
 refine rS 1 [(9, .agg #[ii a_Sorters, s0 0 a_Tables.length])] ?_
 refine XR.callK E0_ok [10] rfl (K := 85) (args := [.agg #[ii a_Sorters, s0 0 a_Tables.length], .func (.func 86) #[] #[]]) (d := (some (path 12 10))) (by kernel_rfl) ?_
 refine KC.bodyN E0_ok (F := Proofs.Tryd.f85) (by kernel_rfl) (code := f41_C85) (by kernel_rfl) (nt := 19) (by kernel_rfl) (rs := [.tmp 4, .tmp 5]) (by kernel_rfl) (by kernel_rfl) (σ := [(0, .agg #[ii a_Sorters, s0 0 a_Tables.length]), (1, .func (.func 86) #[] #[])]) (by kernel_rfl) ?_
 refine qQ ?_
 refine rT 3 [(1, .func (.func 86) #[] #[]), (2, pp 2 0)] [(2, .cells [ii a_Sorters, s0 0 a_Tables.length] 0 34 0), (1, .cells [ii a_Sorters, s0 0 a_Tables.length] 0 34 0), (0, rc encP a_Tables z0 y0 2)] 3 ?_
 refine nQ id ?_
 refine rS 1 [(1, .func (.func 86) #[] #[]), (9, .agg #[ii a_Sorters, s0 0 a_Tables.length])] ?_
 obtain ⟨r1, r1_h, h⟩ := bS h
 refine XR.call E0_ok [1, 10] rfl (K := 74) (args := [.agg #[ii a_Sorters, s0 0 a_Tables.length]]) (d := (some (path 12 10))) (by kernel_rfl) (KC.liftH (n0 := 1) (m := 1) (args0 := [.agg #[ii a_Sorters, s0 0 a_Tables.length]]) (h0 := [(0, rc encP a_Tables (z0 + ((rowC encP a_Tables).length + 1)) y0 2)]) (V := .tuple #[s0 1 r1.1.length, ii r1.2]) (V2 := .tuple #[s0 3 r1.1.length, ii r1.2]) (H := [(1, rc (encI .u64) r1.1 0 117 1)]) (H2 := [(3, rc (encI .u64) r1.1 0 117 1)]) [0] [2, 3, 4, 1] (f74_ok m (z0 + ((rowC encP a_Tables).length + 1)) y0 a_Sorters a_Tables r1 r1_h) (by rfl) (by decide) rfl (by kernel_rfl) ⟨⟨_, _, rfl, rfl, .inl ⟨rfl, rwP⟩⟩, trivial⟩ (by decide) (by decide) (by kernel_rfl) ⟨⟨_, _, rfl, rfl, .inl ⟨rfl, rowC_scal (encI_ok .u64) _⟩⟩, trivial⟩ (by rfl)) ?_
 rintro _ _ _ ⟨rfl, rfl, rfl⟩
 refine XR.conv (σ' := [(1, .func (.func 86) #[] #[]), (10, .tuple #[s0 3 r1.1.length, ii r1.2])]) (h' := [(3, rc (encI .u64) r1.1 0 117 1), (2, .cells [ii a_Sorters, s0 0 a_Tables.length] 0 34 0), (1, .cells [ii a_Sorters, s0 0 a_Tables.length] 0 34 0), (0, rc encP a_Tables z0 y0 2)]) (c' := 4) ?_ (by kernel_rfl)
 refine rS 5 [(1, .func (.func 86) #[] #[]), (6, s0 3 r1.1.length), (7, ii r1.2)] ?_
 refine dQ ?_
 show XQ _ _ _ _ _ _ _ _
 refine sQ ?_
 refine qQ ?_
 refine rS 2 [(1, .func (.func 86) #[] #[]), (6, s0 3 r1.1.length), (7, ii r1.2), (14, .bool (r1.2 != 0))] ?_
 refine dQ ?_
 show XQ _ _ _ _ _ _ _ _
 cases b1 : (r1.2 != 0 : Bool) with
 | true =>
  have h := cT b1 h
  refine iT (.tmp 14) ?_
  refine qQ ?_
  refine rS 3 [(4, .nilIface), (5, ii r1.2)] ?_
  refine dQ ?_
  show XQ _ _ _ _ _ _ _ _
  refine XQ.ret (by kernel_rfl) ?_
  refine ⟨fun i q => (by cases q), .tuple #[.nilIface, ii r1.2], (by kernel_rfl), ?_⟩
  refine XR.conv (σ' := [(10, .tuple #[.nilIface, ii r1.2])]) (h' := [(3, rc (encI .u64) r1.1 0 117 1), (2, .cells [ii a_Sorters, s0 0 a_Tables.length] 0 34 0), (1, .cells [ii a_Sorters, s0 0 a_Tables.length] 0 34 0), (0, rc encP a_Tables z0 y0 2)]) (c' := 4) ?_ (by kernel_rfl)
  refine rS 5 [(4, .nilIface), (5, ii r1.2)] ?_
  refine nQ id ?_
  refine rS 7 [(5, ii r1.2), (6, ii 0)] ?_
  refine nQ id ?_
  refine rS 4 [(2, ii 0), (3, ii r1.2)] ?_
  refine dQ ?_
  show XQ _ _ _ _ _ _ _ _
  refine XQ.ret (by kernel_rfl) ?_
  have h := Option.some.inj h
  subst h
  exact ⟨fun i q => (by cases q), .tuple #[ii 0, ii r1.2], (by kernel_rfl), rfl⟩
 | false =>
  have h := cF b1 h
  refine iF (.tmp 14) ?_
  refine kQ ?_
  show XQ _ _ _ _ _ _ _ _
  refine qQ ?_
  refine rS 2 [(16, .func (.func 86) #[] #[]), (17, s0 3 r1.1.length)] ?_
  refine XR.callK E0_ok [18] rfl (K := 86) (args := [s0 3 r1.1.length]) (d := (some (path 12 18))) (by kernel_rfl) ?_
  refine KC.bodyN E0_ok (F := Proofs.Tryd.f86) (by kernel_rfl) (code := f41_C86) (by kernel_rfl) (nt := 39) (by kernel_rfl) (rs := [.tmp 2]) (by kernel_rfl) (by kernel_rfl) (σ := [(0, s0 3 r1.1.length)]) (by kernel_rfl) ?_
  refine qQ ?_
  refine rS 1 [(0, s0 3 r1.1.length)] ?_
  refine nQ id ?_
  refine rS 3 [(0, s0 3 r1.1.length), (3, ii ((r1.1.length : Nat) : Int))] ?_
  refine nQ id ?_
  refine rS 1 [(0, s0 3 r1.1.length), (3, ii ((r1.1.length : Nat) : Int)), (4, ii 0)] ?_
  refine dQ ?_
  show XQ _ _ _ _ _ _ _ _
  refine sQ ?_
  refine qQ ?_
  refine rS 3 [(3, ii ((r1.1.length : Nat) : Int)), (4, ii 0), (10, s0 3 r1.1.length), (11, ii ((r1.1.length : Nat) : Int)), (12, ii 0)] ?_
  refine dQ ?_
  show XQ _ _ _ _ _ _ _ _
  refine XQ.block (id := 0) (by kernel_rfl) ?_
  refine XQ.loop m (by kernel_rfl) ?_
  obtain ⟨o1, o1_h, h⟩ := bS h
  refine XL.ren (σ' := [(3, ii ((r1.1.length : Nat) : Int)), (4, ii 0), (10, s0 3 r1.1.length), (11, ii ((r1.1.length : Nat) : Int)), (12, ii 0)]) (h' := [(3, rc (encI .u64) r1.1 0 117 1), (2, .cells [ii a_Sorters, s0 0 a_Tables.length] 0 34 0), (1, .cells [ii a_Sorters, s0 0 a_Tables.length] 0 34 0), (0, rc encP a_Tables z0 y0 2)]) (c' := 4) [0, 1, 2, 3] (by decide) rfl ⟨rfl, rfl, rfl, rfl, rfl, trivial⟩ ⟨⟨_, _, rfl, rfl, .inl ⟨rfl, rowC_scal (encI_ok .u64) _⟩⟩, ⟨_, _, rfl, rfl, .inr ⟨_, _, _, _, rfl, rfl⟩⟩, ⟨_, _, rfl, rfl, .inr ⟨_, _, _, _, rfl, rfl⟩⟩, ⟨_, _, rfl, rfl, .inl ⟨rfl, rwP⟩⟩, trivial⟩ rfl ?_
  refine XL.conv (f41_1_ok m m z0 y0 a_Sorters a_Tables ((r1.1.length : Nat) : Int) 0 ((r1.1.length : Nat) : Int) 0 r1.1 o1 o1_h _ ?_) (by first | rfl | simp)
  show XQ _ _ _ _ _ _ _ _
  refine qQ ?_
  refine rS 13 [(2, .iface 3 (ii (w64 ((w64 (Int.tdiv (w64 ((w64 (o1.1 * (w64 (o1.1 - 1)))) * (w64 (o1.1 - 2)))) 6)) - (w64 (Int.tdiv o1.2.1 2))))))] ?_
  refine dQ ?_
  show XQ _ _ _ _ _ _ _ _
  refine XQ.ret (by kernel_rfl) ?_
  refine ⟨fun i q => (by cases q), .iface 3 (ii (w64 ((w64 (Int.tdiv (w64 ((w64 (o1.1 * (w64 (o1.1 - 1)))) * (w64 (o1.1 - 2)))) 6)) - (w64 (Int.tdiv o1.2.1 2))))), (by kernel_rfl), ?_⟩
  refine XR.conv (σ' := [(18, .iface 3 (ii (w64 ((w64 (Int.tdiv (w64 ((w64 (o1.1 * (w64 (o1.1 - 1)))) * (w64 (o1.1 - 2)))) 6)) - (w64 (Int.tdiv o1.2.1 2))))))]) (h' := [(3, rc (encI .u64) o1.2.2 0 117 1), (2, .cells [ii a_Sorters, s0 0 a_Tables.length] 0 34 0), (1, .cells [ii a_Sorters, s0 0 a_Tables.length] 0 34 0), (0, rc encP a_Tables z0 y0 2)]) (c' := 4) ?_ (by kernel_rfl)
  refine rS 2 [(4, .iface 3 (ii (w64 ((w64 (Int.tdiv (w64 ((w64 (o1.1 * (w64 (o1.1 - 1)))) * (w64 (o1.1 - 2)))) 6)) - (w64 (Int.tdiv o1.2.1 2)))))), (5, ii 0)] ?_
  refine dQ ?_
  show XQ _ _ _ _ _ _ _ _
  refine XQ.ret (by kernel_rfl) ?_
  refine ⟨fun i q => (by cases q), .tuple #[.iface 3 (ii (w64 ((w64 (Int.tdiv (w64 ((w64 (o1.1 * (w64 (o1.1 - 1)))) * (w64 (o1.1 - 2)))) 6)) - (w64 (Int.tdiv o1.2.1 2))))), ii 0], (by kernel_rfl), ?_⟩
  refine XR.conv (σ' := [(10, .tuple #[.iface 3 (ii (w64 ((w64 (Int.tdiv (w64 ((w64 (o1.1 * (w64 (o1.1 - 1)))) * (w64 (o1.1 - 2)))) 6)) - (w64 (Int.tdiv o1.2.1 2))))), ii 0])]) (h' := [(3, rc (encI .u64) o1.2.2 0 117 1), (2, .cells [ii a_Sorters, s0 0 a_Tables.length] 0 34 0), (1, .cells [ii a_Sorters, s0 0 a_Tables.length] 0 34 0), (0, rc encP a_Tables z0 y0 2)]) (c' := 4) ?_ (by kernel_rfl)
  refine rS 5 [(4, .iface 3 (ii (w64 ((w64 (Int.tdiv (w64 ((w64 (o1.1 * (w64 (o1.1 - 1)))) * (w64 (o1.1 - 2)))) 6)) - (w64 (Int.tdiv o1.2.1 2)))))), (5, ii 0)] ?_
  refine nQ id ?_
  refine rS 7 [(5, ii 0), (6, ii (w64 ((w64 (Int.tdiv (w64 ((w64 (o1.1 * (w64 (o1.1 - 1)))) * (w64 (o1.1 - 2)))) 6)) - (w64 (Int.tdiv o1.2.1 2)))))] ?_
  refine nQ id ?_
  refine rS 4 [(2, ii (w64 ((w64 (Int.tdiv (w64 ((w64 (o1.1 * (w64 (o1.1 - 1)))) * (w64 (o1.1 - 2)))) 6)) - (w64 (Int.tdiv o1.2.1 2))))), (3, ii 0)] ?_
  refine dQ ?_
  show XQ _ _ _ _ _ _ _ _
  refine XQ.ret (by kernel_rfl) ?_
  have h := Option.some.inj h
  subst h
  exact ⟨fun i q => (by cases q), .tuple #[ii (w64 ((w64 (Int.tdiv (w64 ((w64 (o1.1 * (w64 (o1.1 - 1)))) * (w64 (o1.1 - 2)))) 6)) - (w64 (Int.tdiv o1.2.1 2)))), ii 0], (by kernel_rfl), rfl⟩
noncomputable def f43_C43 : Code := Proofs.Tryd.f43.body.getD .skip
noncomputable def f43_C85 : Code := Proofs.Tryd.f85.body.getD .skip
noncomputable def f43_C88 : Code := Proofs.Tryd.f88.body.getD .skip
noncomputable def f43_L1 : Code := lft (lft (rgt (lft (rgt (rgt f43_C88)))))
def f43_1 (m : Nat) : Nat → Int → List (Int × Int) → Int → Int → List Int → List Int → Option ((List Int) × (List Int))
 | 0, _, _, _, _, _, _ => none
 | fuel + 1, a_Sorters, a_Tables, x7_1, x8_1, lh3_1, lh4_1 =>
  cond (decide (x8_1 < x7_1)) (
   cond (inRow x8_1 lh3_1.length) (
    (f94 m (List.getD lh3_1 (Int.toNat x8_1) 0)).bind fun r4 =>
     cond (fitsB (lh4_1.length + 1) 8) (
      f43_1 m fuel a_Sorters a_Tables x7_1 (w64 (x8_1 + 1)) lh3_1 (lh4_1 ++ [r4])
     ) none
   ) none
  ) (
   some (lh3_1, lh4_1)
  )

abbrev qka1 (a_Sorters : Int) (a_Tables : List (Int × Int)) (lh3_1 : List Int) (t : Heap) : Heap := (3, rc (encI .u64) lh3_1 0 117 1) :: (2, .cells [ii a_Sorters, s0 0 a_Tables.length] 0 34 0) :: (1, .cells [ii a_Sorters, s0 0 a_Tables.length] 0 34 0) :: t
theorem f43_1_ok (m : Nat) : ∀ (fuel : Nat) (z0 : Nat) (y0 : Nat) (a_Sorters : Int) (a_Tables : List (Int × Int)) (x7_1 : Int) (x8_1 : Int) (lh3_1 : List Int) (lh4_1 : List Int) (o : ((List Int) × (List Int))), f43_1 m fuel a_Sorters a_Tables x7_1 x8_1 lh3_1 lh4_1 = some o → ∀ Q : QP, Q (.exit 0) [(3, s0 4 o.2.length)] [(4, rI o.2), (3, rc (encI .u64) o.1 0 117 1), (2, .cells [ii a_Sorters, s0 0 a_Tables.length] 0 34 0), (1, .cells [ii a_Sorters, s0 0 a_Tables.length] 0 34 0), (0, rc encP a_Tables z0 y0 2)] 5 → XL E0 20 4 fuel f43_L1 [(3, s0 4 lh4_1.length), (6, s0 3 lh3_1.length), (7, ii x7_1), (8, ii x8_1)] ((4, rI lh4_1) :: qka1 a_Sorters a_Tables lh3_1 [(0, rc encP a_Tables z0 y0 2)]) 5 Q
 | 0, z0, y0, a_Sorters, a_Tables, x7_1, x8_1, lh3_1, lh4_1, o, h, Q, hQ => by cases h
 | fuel + 1, z0, y0, a_Sorters, a_Tables, x7_1, x8_1, lh3_1, lh4_1, o, h, Q, hQ => by
  unfold f43_1 at h
  refine XL.succ E0_ok ?_
  refine qQ ?_
  refine rS 1 [(3, s0 4 lh4_1.length), (6, s0 3 lh3_1.length), (7, ii x7_1), (8, ii x8_1), (9, .bool (decide (x8_1 < x7_1)))] ?_
  refine dQ ?_
  show XQ _ _ _ _ _ _ _ _
  refine sQ ?_
  cases b1 : (decide (x8_1 < x7_1) : Bool) with
  | true =>
   have h := cT b1 h
   refine iT (.tmp 9) ?_
   refine kQ ?_
   show XQ _ _ _ _ _ _ _ _
   refine sQ ?_
   refine XQ.block (id := 1) (by kernel_rfl) ?_
   refine qQ ?_
   cases b2 : (inRow x8_1 lh3_1.length : Bool) with
   | false => cases (cF b2 h)
   | true =>
    have h := cT b2 h
    refine XR.rd E0_ok [3, 6, 7, 8, 10] rfl (v := pp 3 ((Int.toNat x8_1) * 1)) (v_idx (s := 1) (x := (src 20 (.tmp 6))) (y := (src 20 (.tmp 8))) (b := 3) (o := 0) (len := lh3_1.length) (cap := lh3_1.length) (ik := .i64) (i := x8_1) (off := (Int.toNat x8_1) * 1) (d := (some (path 12 10))) (by kernel_rfl) (by kernel_rfl) (by kernel_rfl) b2 (by omega)) (σ' := [(3, s0 4 lh4_1.length), (6, s0 3 lh3_1.length), (7, ii x7_1), (8, ii x8_1), (10, pp 3 ((Int.toNat x8_1) * 1))]) (by kernel_rfl) ?_
    refine XR.rd E0_ok [3, 6, 7, 8, 11] rfl (v := uu (List.getD lh3_1 (Int.toNat x8_1) 0)) (v_load1 (encI_ok .u64) (x := (src 20 (.tmp 10))) (b := 3) (off := (Int.toNat x8_1) * 1) (xs := lh3_1) (fz := 0) (e := 117) (es := 1) (d := (some (path 12 11))) (by kernel_rfl) (by kernel_rfl) (by kernel_rfl) (Int.toNat x8_1) 0 0 (by first | rfl | omega) (row_len (inRow_toNat b2) (by simp)) rfl rfl) (σ' := [(3, s0 4 lh4_1.length), (6, s0 3 lh3_1.length), (7, ii x7_1), (8, ii x8_1), (11, uu (List.getD lh3_1 (Int.toNat x8_1) 0))]) (by kernel_rfl) ?_
    refine rS 1 [(3, s0 4 lh4_1.length), (5, uu (List.getD lh3_1 (Int.toNat x8_1) 0)), (6, s0 3 lh3_1.length), (7, ii x7_1), (8, ii x8_1)] ?_
    refine dQ ?_
    show XQ _ _ _ _ _ _ _ _
    refine rQ ?_
    refine rS 2 [(6, s0 3 lh3_1.length), (7, ii x7_1), (8, ii x8_1), (12, s0 4 lh4_1.length), (13, uu (List.getD lh3_1 (Int.toNat x8_1) 0))] ?_
    obtain ⟨r4, r4_h, h⟩ := bS h
    refine XR.call E0_ok [6, 7, 8, 12, 14] rfl (K := 94) (args := [uu (List.getD lh3_1 (Int.toNat x8_1) 0)]) (d := (some (path 12 14))) (by kernel_rfl) (KC.of_calls E0_ok (F := Proofs.Tryd.f94) (v := ii r4) (by kernel_rfl) rfl rfl (fun w hI => f94_ok m (List.getD lh3_1 (Int.toNat x8_1) 0) r4 r4_h w hI)) ?_
    rintro _ _ _ ⟨rfl, rfl, rfl⟩
    refine XR.conv (σ' := [(6, s0 3 lh3_1.length), (7, ii x7_1), (8, ii x8_1), (12, s0 4 lh4_1.length), (14, ii r4)]) (h' := ((4, rI lh4_1) :: qka1 a_Sorters a_Tables lh3_1 [(0, rc encP a_Tables z0 y0 2)])) (c' := 5) ?_ (by kernel_rfl)
    refine rT 1 [(6, s0 3 lh3_1.length), (7, ii x7_1), (8, ii x8_1), (12, s0 4 lh4_1.length), (15, s0 5 1)] ((5, .cells [ii r4] 0 3 1) :: (4, rI lh4_1) :: qka1 a_Sorters a_Tables lh3_1 [(0, rc encP a_Tables z0 y0 2)]) 6 ?_
    cases b3 : (fitsB (lh4_1.length + 1) 8 : Bool) with
    | false => cases (cF b3 h)
    | true =>
     have h := cT b3 h
     refine XR.ef E0_ok [6, 7, 8, 16] rfl (e_append (encI_ok .i64) (bytes := 8) (e := 3) (x := (src 20 (.tmp 12))) (y := (src 20 (.tmp 15))) (b := 4) (len := lh4_1.length) (cap := lh4_1.length) (xs := lh4_1) (m := 0) (ys := [r4]) (d := (some (path 12 16))) (n' := (lh4_1 ++ [r4]).length) (h' := ((6, rI (lh4_1 ++ [r4])) :: (5, .cells [ii r4] 0 3 1) :: qka1 a_Sorters a_Tables lh3_1 [(0, rc encP a_Tables z0 y0 2)])) (by kernel_rfl) (by kernel_rfl) (by kernel_rfl) (by kernel_rfl) rfl (by simp) (by simp) b3 (by simp) (by kernel_rfl)) (σ' := [(6, s0 3 lh3_1.length), (7, ii x7_1), (8, ii x8_1), (16, s0 6 ((lh4_1 ++ [r4]).length))]) (by kernel_rfl) ?_
     refine rS 1 [(3, s0 6 ((lh4_1 ++ [r4]).length)), (6, s0 3 lh3_1.length), (7, ii x7_1), (8, ii x8_1)] ?_
     refine dQ ?_
     show XQ _ _ _ _ _ _ _ _
     refine rQ ?_
     refine rS 2 [(3, s0 6 ((lh4_1 ++ [r4]).length)), (6, s0 3 lh3_1.length), (7, ii x7_1), (8, ii (w64 (x8_1 + 1)))] ?_
     refine dQ ?_
     show XL _ _ _ _ _ _ _ _ _
     refine XL.ren (σ' := [(3, s0 4 ((lh4_1 ++ [r4]).length)), (6, s0 3 lh3_1.length), (7, ii x7_1), (8, ii (w64 (x8_1 + 1)))]) (h' := ((4, rI (lh4_1 ++ [r4])) :: qka1 a_Sorters a_Tables lh3_1 [(0, rc encP a_Tables z0 y0 2)])) (c' := 5) [0, 1, 2, 3, 6] (by decide) rfl ⟨rfl, rfl, rfl, rfl, trivial⟩ ⟨⟨_, _, rfl, rfl, .inl ⟨rfl, rwI⟩⟩, ⟨_, _, rfl, rfl, .inl ⟨rfl, rowC_scal (encI_ok .u64) _⟩⟩, ⟨_, _, rfl, rfl, .inr ⟨_, _, _, _, rfl, rfl⟩⟩, ⟨_, _, rfl, rfl, .inr ⟨_, _, _, _, rfl, rfl⟩⟩, ⟨_, _, rfl, rfl, .inl ⟨rfl, rwP⟩⟩, trivial⟩ rfl ?_
     refine XL.conv (f43_1_ok m fuel z0 y0 a_Sorters a_Tables x7_1 (w64 (x8_1 + 1)) lh3_1 (lh4_1 ++ [r4]) o h Q hQ) (by first | rfl | simp)
  | false =>
   have h := cF b1 h
   refine iF (.tmp 9) ?_
   refine XQ.ren (σ' := [(3, s0 4 lh4_1.length)]) (h' := ((4, rI lh4_1) :: qka1 a_Sorters a_Tables lh3_1 [(0, rc encP a_Tables z0 y0 2)])) (c' := 5) [0, 1, 2, 3, 4] (by decide) rfl ⟨rfl, trivial⟩ ⟨⟨_, _, rfl, rfl, .inl ⟨rfl, rwI⟩⟩, ⟨_, _, rfl, rfl, .inl ⟨rfl, rowC_scal (encI_ok .u64) _⟩⟩, ⟨_, _, rfl, rfl, .inr ⟨_, _, _, _, rfl, rfl⟩⟩, ⟨_, _, rfl, rfl, .inr ⟨_, _, _, _, rfl, rfl⟩⟩, ⟨_, _, rfl, rfl, .inl ⟨rfl, rwP⟩⟩, trivial⟩ rfl ?_
   refine XQ.exit (i := 0) (by kernel_rfl) ?_
   cases h
   exact hQ
def f43 (m : Nat) (a_Sorters : Int) (a_Tables : List (Int × Int)) : Option ((List Int) × Int) :=
 (f74 m a_Sorters a_Tables).bind fun r1 =>
  cond (r1.2 != 0) (
   some ([], r1.2)
  ) (
   (f43_1 m m a_Sorters a_Tables ((r1.1.length : Nat) : Int) 0 r1.1 []).bind fun o1 =>
    some (o1.2, 0)
  )

abbrev qka2 (a_Sorters : Int) (a_Tables : List (Int × Int)) (t : Heap) : Heap := (2, .cells [ii a_Sorters, s0 0 a_Tables.length] 0 34 0) :: (1, .cells [ii a_Sorters, s0 0 a_Tables.length] 0 34 0) :: t
theorem f43_ok (m : Nat) (z0 : Nat) (y0 : Nat) (a_Sorters : Int) (a_Tables : List (Int × Int)) (o : (List Int) × Int) (h : f43 m a_Sorters a_Tables = some o) : KC E0 43 [.agg #[ii a_Sorters, s0 0 a_Tables.length]] [(0, rc encP a_Tables z0 y0 2)] 1 (fun v h' c' => v = .tuple #[s0 1 o.1.length, ii o.2] ∧ h' = [(1, rI o.1)] ++ [(0, rc encP a_Tables z0 y0 2)] ∧ c' = 2) := by
 refine KC.bodyN E0_ok (F := Proofs.Tryd.f43) (by kernel_rfl) (code := f43_C43) (by kernel_rfl) (nt := 20) (by kernel_rfl) (rs := [.tmp 2, .tmp 3]) (by kernel_rfl) (by kernel_rfl) (σ := [(0, .agg #[ii a_Sorters, s0 0 a_Tables.length])]) (by kernel_rfl) ?_
 unfold f43 at h
 refine qQ ?_
 refine rT 3 [(1, pp 1 0)] [(1, .cells [ii a_Sorters, s0 0 a_Tables.length] 0 34 0), (0, rc encP a_Tables z0 y0 2)] 2 ?_
 refine nQ id ?_
 refine rS 1 [(9, .agg #[ii a_Sorters, s0 0 a_Tables.length])] ?_
 refine XR.callK E0_ok [10] rfl (K := 85) (args := [.agg #[ii a_Sorters, s0 0 a_Tables.length], .func (.func 88) #[] #[]]) (d := (some (path 12 10))) (by kernel_rfl) ?_
 refine KC.bodyN E0_ok (F := Proofs.Tryd.f85) (by kernel_rfl) (code := f43_C85) (by kernel_rfl) (nt := 19) (by kernel_rfl) (rs := [.tmp 4, .tmp 5]) (by kernel_rfl) (by kernel_rfl) (σ := [(0, .agg #[ii a_Sorters, s0 0 a_Tables.length]), (1, .func (.func 88) #[] #[])]) (by kernel_rfl) ?_
 refine qQ ?_
 refine rT 3 [(1, .func (.func 88) #[] #[]), (2, pp 2 0)] (qka2 a_Sorters a_Tables [(0, rc encP a_Tables z0 y0 2)]) 3 ?_
 refine nQ id ?_
 refine rS 1 [(1, .func (.func 88) #[] #[]), (9, .agg #[ii a_Sorters, s0 0 a_Tables.length])] ?_
 obtain ⟨r1, r1_h, h⟩ := bS h
 refine XR.call E0_ok [1, 10] rfl (K := 74) (args := [.agg #[ii a_Sorters, s0 0 a_Tables.length]]) (d := (some (path 12 10))) (by kernel_rfl) (KC.liftH (n0 := 1) (m := 1) (args0 := [.agg #[ii a_Sorters, s0 0 a_Tables.length]]) (h0 := [(0, rc encP a_Tables (z0 + ((rowC encP a_Tables).length + 1)) y0 2)]) (V := .tuple #[s0 1 r1.1.length, ii r1.2]) (V2 := .tuple #[s0 3 r1.1.length, ii r1.2]) (H := [(1, rc (encI .u64) r1.1 0 117 1)]) (H2 := [(3, rc (encI .u64) r1.1 0 117 1)]) [0] [2, 3, 4, 1] (f74_ok m (z0 + ((rowC encP a_Tables).length + 1)) y0 a_Sorters a_Tables r1 r1_h) (by rfl) (by decide) rfl (by kernel_rfl) ⟨⟨_, _, rfl, rfl, .inl ⟨rfl, rwP⟩⟩, trivial⟩ (by decide) (by decide) (by kernel_rfl) ⟨⟨_, _, rfl, rfl, .inl ⟨rfl, rowC_scal (encI_ok .u64) _⟩⟩, trivial⟩ (by rfl)) ?_
 rintro _ _ _ ⟨rfl, rfl, rfl⟩
 refine XR.conv (σ' := [(1, .func (.func 88) #[] #[]), (10, .tuple #[s0 3 r1.1.length, ii r1.2])]) (h' := ((3, rc (encI .u64) r1.1 0 117 1) :: qka2 a_Sorters a_Tables [(0, rc encP a_Tables z0 y0 2)])) (c' := 4) ?_ (by kernel_rfl)
 refine rS 5 [(1, .func (.func 88) #[] #[]), (6, s0 3 r1.1.length), (7, ii r1.2)] ?_
 refine dQ ?_
 show XQ _ _ _ _ _ _ _ _
 refine sQ ?_
 refine qQ ?_
 refine rS 2 [(1, .func (.func 88) #[] #[]), (6, s0 3 r1.1.length), (7, ii r1.2), (14, .bool (r1.2 != 0))] ?_
 refine dQ ?_
 show XQ _ _ _ _ _ _ _ _
 cases b1 : (r1.2 != 0 : Bool) with
 | true =>
  have h := cT b1 h
  refine iT (.tmp 14) ?_
  refine qQ ?_
  refine rS 3 [(4, .nilIface), (5, ii r1.2)] ?_
  refine dQ ?_
  show XQ _ _ _ _ _ _ _ _
  refine XQ.ret (by kernel_rfl) ?_
  refine ⟨fun i q => (by cases q), .tuple #[.nilIface, ii r1.2], (by kernel_rfl), ?_⟩
  refine XR.conv (σ' := [(10, .tuple #[.nilIface, ii r1.2])]) (h' := ((3, rc (encI .u64) r1.1 0 117 1) :: qka2 a_Sorters a_Tables [(0, rc encP a_Tables z0 y0 2)])) (c' := 4) ?_ (by kernel_rfl)
  refine rS 5 [(4, .nilIface), (5, ii r1.2)] ?_
  refine nQ id ?_
  refine rS 7 [(5, ii r1.2), (6, .slice none 0 0)] ?_
  refine dQ ?_
  show XQ _ _ _ _ _ _ _ _
  refine XQ.ghost 3 1 rfl (σ' := [(5, ii r1.2), (6, s0 4 0)]) (h' := ((3, rc (encI .u64) r1.1 0 117 1) :: qka2 a_Sorters a_Tables [(0, rc encP a_Tables z0 y0 2)])) ⟨rfl, rfl, trivial⟩ ⟨⟨_, rfl, .inl rfl⟩, ⟨_, rfl, .inl rfl⟩, ⟨_, rfl, .inl rfl⟩, ⟨_, rfl, .inl rfl⟩, trivial⟩ ?_
  refine XQ.conv (σ' := [(5, ii r1.2), (6, s0 4 0)]) (h' := ((4, rI []) :: (3, rc (encI .u64) r1.1 0 117 1) :: qka2 a_Sorters a_Tables [(0, rc encP a_Tables z0 y0 2)])) (c' := 5) ?_ (by kernel_rfl)
  refine qQ ?_
  refine rS 4 [(2, s0 4 0), (3, ii r1.2)] ?_
  refine dQ ?_
  show XQ _ _ _ _ _ _ _ _
  refine XQ.ren (σ' := [(2, s0 1 0), (3, ii r1.2)]) (h' := [(1, rI []), (0, rc encP a_Tables z0 y0 2)]) (c' := 2) [0, 4] (by decide) rfl ⟨rfl, rfl, trivial⟩ ⟨⟨_, _, rfl, rfl, .inl ⟨rfl, rwI⟩⟩, ⟨_, _, rfl, rfl, .inl ⟨rfl, rwP⟩⟩, trivial⟩ rfl ?_
  refine XQ.ret (by kernel_rfl) ?_
  have h := Option.some.inj h
  subst h
  exact ⟨fun i q => (by cases q), .tuple #[s0 1 0, ii r1.2], (by kernel_rfl), (by kernel_rfl), (by kernel_rfl), rfl⟩
 | false =>
  have h := cF b1 h
  refine iF (.tmp 14) ?_
  refine kQ ?_
  show XQ _ _ _ _ _ _ _ _
  refine qQ ?_
  refine rS 2 [(16, .func (.func 88) #[] #[]), (17, s0 3 r1.1.length)] ?_
  refine XR.callK E0_ok [18] rfl (K := 88) (args := [s0 3 r1.1.length]) (d := (some (path 12 18))) (by kernel_rfl) ?_
  refine KC.bodyN E0_ok (F := Proofs.Tryd.f88) (by kernel_rfl) (code := f43_C88) (by kernel_rfl) (nt := 20) (by kernel_rfl) (rs := [.tmp 2]) (by kernel_rfl) (by kernel_rfl) (σ := [(0, s0 3 r1.1.length)]) (by kernel_rfl) ?_
  refine qQ ?_
  refine rS 1 [(0, s0 3 r1.1.length)] ?_
  refine nQ id ?_
  refine rS 1 [(0, s0 3 r1.1.length), (3, .slice none 0 0)] ?_
  refine dQ ?_
  show XQ _ _ _ _ _ _ _ _
  refine XQ.ghost 3 1 rfl (σ' := [(0, s0 3 r1.1.length), (3, s0 4 0)]) (h' := ((3, rc (encI .u64) r1.1 0 117 1) :: qka2 a_Sorters a_Tables [(0, rc encP a_Tables z0 y0 2)])) ⟨rfl, rfl, trivial⟩ ⟨⟨_, rfl, .inl rfl⟩, ⟨_, rfl, .inl rfl⟩, ⟨_, rfl, .inl rfl⟩, ⟨_, rfl, .inl rfl⟩, trivial⟩ ?_
  refine XQ.conv (σ' := [(0, s0 3 r1.1.length), (3, s0 4 0)]) (h' := ((4, rI []) :: (3, rc (encI .u64) r1.1 0 117 1) :: qka2 a_Sorters a_Tables [(0, rc encP a_Tables z0 y0 2)])) (c' := 5) ?_ (by kernel_rfl)
  refine sQ ?_
  refine qQ ?_
  refine rS 3 [(3, s0 4 0), (6, s0 3 r1.1.length), (7, ii ((r1.1.length : Nat) : Int)), (8, ii 0)] ?_
  refine dQ ?_
  show XQ _ _ _ _ _ _ _ _
  refine XQ.block (id := 0) (by kernel_rfl) ?_
  refine XQ.loop m (by kernel_rfl) ?_
  obtain ⟨o1, o1_h, h⟩ := bS h
  refine XL.ren (σ' := [(3, s0 4 0), (6, s0 3 r1.1.length), (7, ii ((r1.1.length : Nat) : Int)), (8, ii 0)]) (h' := ((4, rI []) :: (3, rc (encI .u64) r1.1 0 117 1) :: qka2 a_Sorters a_Tables [(0, rc encP a_Tables z0 y0 2)])) (c' := 5) [0, 1, 2, 3, 4] (by decide) rfl ⟨rfl, rfl, rfl, rfl, trivial⟩ ⟨⟨_, _, rfl, rfl, .inl ⟨rfl, rwI⟩⟩, ⟨_, _, rfl, rfl, .inl ⟨rfl, rowC_scal (encI_ok .u64) _⟩⟩, ⟨_, _, rfl, rfl, .inr ⟨_, _, _, _, rfl, rfl⟩⟩, ⟨_, _, rfl, rfl, .inr ⟨_, _, _, _, rfl, rfl⟩⟩, ⟨_, _, rfl, rfl, .inl ⟨rfl, rwP⟩⟩, trivial⟩ rfl ?_
  refine XL.conv (f43_1_ok m m z0 y0 a_Sorters a_Tables ((r1.1.length : Nat) : Int) 0 r1.1 [] o1 o1_h _ ?_) (by first | rfl | simp)
  show XQ _ _ _ _ _ _ _ _
  refine qQ ?_
  refine rS 3 [(2, .iface 22 (s0 4 o1.2.length))] ?_
  refine dQ ?_
  show XQ _ _ _ _ _ _ _ _
  refine XQ.ret (by kernel_rfl) ?_
  refine ⟨fun i q => (by cases q), .iface 22 (s0 4 o1.2.length), (by kernel_rfl), ?_⟩
  refine XR.conv (σ' := [(18, .iface 22 (s0 4 o1.2.length))]) (h' := ((4, rI o1.2) :: (3, rc (encI .u64) o1.1 0 117 1) :: qka2 a_Sorters a_Tables [(0, rc encP a_Tables z0 y0 2)])) (c' := 5) ?_ (by kernel_rfl)
  refine rS 2 [(4, .iface 22 (s0 4 o1.2.length)), (5, ii 0)] ?_
  refine dQ ?_
  show XQ _ _ _ _ _ _ _ _
  refine XQ.ret (by kernel_rfl) ?_
  refine ⟨fun i q => (by cases q), .tuple #[.iface 22 (s0 4 o1.2.length), ii 0], (by kernel_rfl), ?_⟩
  refine XR.conv (σ' := [(10, .tuple #[.iface 22 (s0 4 o1.2.length), ii 0])]) (h' := ((4, rI o1.2) :: (3, rc (encI .u64) o1.1 0 117 1) :: qka2 a_Sorters a_Tables [(0, rc encP a_Tables z0 y0 2)])) (c' := 5) ?_ (by kernel_rfl)
  refine rS 5 [(4, .iface 22 (s0 4 o1.2.length)), (5, ii 0)] ?_
  refine nQ id ?_
  refine rS 7 [(5, ii 0), (6, s0 4 o1.2.length)] ?_
  refine nQ id ?_
  refine rS 4 [(2, s0 4 o1.2.length), (3, ii 0)] ?_
  refine dQ ?_
  show XQ _ _ _ _ _ _ _ _
  refine XQ.ren (σ' := [(2, s0 1 o1.2.length), (3, ii 0)]) (h' := [(1, rI o1.2), (0, rc encP a_Tables z0 y0 2)]) (c' := 2) [0, 4] (by decide) rfl ⟨rfl, rfl, trivial⟩ ⟨⟨_, _, rfl, rfl, .inl ⟨rfl, rwI⟩⟩, ⟨_, _, rfl, rfl, .inl ⟨rfl, rwP⟩⟩, trivial⟩ rfl ?_
  refine XQ.ret (by kernel_rfl) ?_
  have h := Option.some.inj h
  subst h
  exact ⟨fun i q => (by cases q), .tuple #[s0 1 o1.2.length, ii 0], (by kernel_rfl), (by kernel_rfl), (by kernel_rfl), rfl⟩
end Go.Xm
