/- What these functions of the program compute, as functions in Lean, and the proofs that they do: bits.OnesCount64, bits.OnesCount, slices.Min[[]int,int], slices.Concat[[]int,int], club.seated. Conditions: the library's variables hold what their texts lay. -/
import Derived.Test.YtfimbmhannndaaaDoorZk
import Derived.Test.YtfimbmhannndaaaDoorDd
import Derived.Test.YtfimbmhannndaaaDoorCl
import Derived.Test.YtfimbmhannndaaaDoorNe
import Derived.Test.YtfimbmhannndaaaDoorNf
import Derived.Test.YtfimbmhannndaaaDoorNg
import Derived.Test.YtfimbmhannndaaaDoorNh
import Derived.Test.YtfimbmhannndaaaDoorNi
namespace Go.Xm
open Go.RowKit
set_option linter.unusedVariables false
set_option linter.unusedSimpArgs false
set_option maxRecDepth 20000
noncomputable def f118_C118 : Code := Proofs.Tryd.f118.body.getD .skip
def f118 (m : Nat) (a : Int) : Option (Int) :=
 some (andV .i64 (w64 (IntKind.wrap .u64 ((IntKind.wrap .u64 ((IntKind.wrap .u64 ((andV .u64 (IntKind.wrap .u64 ((shV false .u64 (IntKind.wrap .u64 ((andV .u64 (shV false .u64 (IntKind.wrap .u64 ((andV .u64 (shV false .u64 a 1) 6148914691236517205) + (andV .u64 a 6148914691236517205))) 2) 3689348814741910323) + (andV .u64 (IntKind.wrap .u64 ((andV .u64 (shV false .u64 a 1) 6148914691236517205) + (andV .u64 a 6148914691236517205))) 3689348814741910323))) 4) + (IntKind.wrap .u64 ((andV .u64 (shV false .u64 (IntKind.wrap .u64 ((andV .u64 (shV false .u64 a 1) 6148914691236517205) + (andV .u64 a 6148914691236517205))) 2) 3689348814741910323) + (andV .u64 (IntKind.wrap .u64 ((andV .u64 (shV false .u64 a 1) 6148914691236517205) + (andV .u64 a 6148914691236517205))) 3689348814741910323))))) 1085102592571150095) + (shV false .u64 (andV .u64 (IntKind.wrap .u64 ((shV false .u64 (IntKind.wrap .u64 ((andV .u64 (shV false .u64 (IntKind.wrap .u64 ((andV .u64 (shV false .u64 a 1) 6148914691236517205) + (andV .u64 a 6148914691236517205))) 2) 3689348814741910323) + (andV .u64 (IntKind.wrap .u64 ((andV .u64 (shV false .u64 a 1) 6148914691236517205) + (andV .u64 a 6148914691236517205))) 3689348814741910323))) 4) + (IntKind.wrap .u64 ((andV .u64 (shV false .u64 (IntKind.wrap .u64 ((andV .u64 (shV false .u64 a 1) 6148914691236517205) + (andV .u64 a 6148914691236517205))) 2) 3689348814741910323) + (andV .u64 (IntKind.wrap .u64 ((andV .u64 (shV false .u64 a 1) 6148914691236517205) + (andV .u64 a 6148914691236517205))) 3689348814741910323))))) 1085102592571150095) 8))) + (shV false .u64 (IntKind.wrap .u64 ((andV .u64 (IntKind.wrap .u64 ((shV false .u64 (IntKind.wrap .u64 ((andV .u64 (shV false .u64 (IntKind.wrap .u64 ((andV .u64 (shV false .u64 a 1) 6148914691236517205) + (andV .u64 a 6148914691236517205))) 2) 3689348814741910323) + (andV .u64 (IntKind.wrap .u64 ((andV .u64 (shV false .u64 a 1) 6148914691236517205) + (andV .u64 a 6148914691236517205))) 3689348814741910323))) 4) + (IntKind.wrap .u64 ((andV .u64 (shV false .u64 (IntKind.wrap .u64 ((andV .u64 (shV false .u64 a 1) 6148914691236517205) + (andV .u64 a 6148914691236517205))) 2) 3689348814741910323) + (andV .u64 (IntKind.wrap .u64 ((andV .u64 (shV false .u64 a 1) 6148914691236517205) + (andV .u64 a 6148914691236517205))) 3689348814741910323))))) 1085102592571150095) + (shV false .u64 (andV .u64 (IntKind.wrap .u64 ((shV false .u64 (IntKind.wrap .u64 ((andV .u64 (shV false .u64 (IntKind.wrap .u64 ((andV .u64 (shV false .u64 a 1) 6148914691236517205) + (andV .u64 a 6148914691236517205))) 2) 3689348814741910323) + (andV .u64 (IntKind.wrap .u64 ((andV .u64 (shV false .u64 a 1) 6148914691236517205) + (andV .u64 a 6148914691236517205))) 3689348814741910323))) 4) + (IntKind.wrap .u64 ((andV .u64 (shV false .u64 (IntKind.wrap .u64 ((andV .u64 (shV false .u64 a 1) 6148914691236517205) + (andV .u64 a 6148914691236517205))) 2) 3689348814741910323) + (andV .u64 (IntKind.wrap .u64 ((andV .u64 (shV false .u64 a 1) 6148914691236517205) + (andV .u64 a 6148914691236517205))) 3689348814741910323))))) 1085102592571150095) 8))) 16))) + (shV false .u64 (IntKind.wrap .u64 ((IntKind.wrap .u64 ((andV .u64 (IntKind.wrap .u64 ((shV false .u64 (IntKind.wrap .u64 ((andV .u64 (shV false .u64 (IntKind.wrap .u64 ((andV .u64 (shV false .u64 a 1) 6148914691236517205) + (andV .u64 a 6148914691236517205))) 2) 3689348814741910323) + (andV .u64 (IntKind.wrap .u64 ((andV .u64 (shV false .u64 a 1) 6148914691236517205) + (andV .u64 a 6148914691236517205))) 3689348814741910323))) 4) + (IntKind.wrap .u64 ((andV .u64 (shV false .u64 (IntKind.wrap .u64 ((andV .u64 (shV false .u64 a 1) 6148914691236517205) + (andV .u64 a 6148914691236517205))) 2) 3689348814741910323) + (andV .u64 (IntKind.wrap .u64 ((andV .u64 (shV false .u64 a 1) 6148914691236517205) + (andV .u64 a 6148914691236517205))) 3689348814741910323))))) 1085102592571150095) + (shV false .u64 (andV .u64 (IntKind.wrap .u64 ((shV false .u64 (IntKind.wrap .u64 ((andV .u64 (shV false .u64 (IntKind.wrap .u64 ((andV .u64 (shV false .u64 a 1) 6148914691236517205) + (andV .u64 a 6148914691236517205))) 2) 3689348814741910323) + (andV .u64 (IntKind.wrap .u64 ((andV .u64 (shV false .u64 a 1) 6148914691236517205) + (andV .u64 a 6148914691236517205))) 3689348814741910323))) 4) + (IntKind.wrap .u64 ((andV .u64 (shV false .u64 (IntKind.wrap .u64 ((andV .u64 (shV false .u64 a 1) 6148914691236517205) + (andV .u64 a 6148914691236517205))) 2) 3689348814741910323) + (andV .u64 (IntKind.wrap .u64 ((andV .u64 (shV false .u64 a 1) 6148914691236517205) + (andV .u64 a 6148914691236517205))) 3689348814741910323))))) 1085102592571150095) 8))) + (shV false .u64 (IntKind.wrap .u64 ((andV .u64 (IntKind.wrap .u64 ((shV false .u64 (IntKind.wrap .u64 ((andV .u64 (shV false .u64 (IntKind.wrap .u64 ((andV .u64 (shV false .u64 a 1) 6148914691236517205) + (andV .u64 a 6148914691236517205))) 2) 3689348814741910323) + (andV .u64 (IntKind.wrap .u64 ((andV .u64 (shV false .u64 a 1) 6148914691236517205) + (andV .u64 a 6148914691236517205))) 3689348814741910323))) 4) + (IntKind.wrap .u64 ((andV .u64 (shV false .u64 (IntKind.wrap .u64 ((andV .u64 (shV false .u64 a 1) 6148914691236517205) + (andV .u64 a 6148914691236517205))) 2) 3689348814741910323) + (andV .u64 (IntKind.wrap .u64 ((andV .u64 (shV false .u64 a 1) 6148914691236517205) + (andV .u64 a 6148914691236517205))) 3689348814741910323))))) 1085102592571150095) + (shV false .u64 (andV .u64 (IntKind.wrap .u64 ((shV false .u64 (IntKind.wrap .u64 ((andV .u64 (shV false .u64 (IntKind.wrap .u64 ((andV .u64 (shV false .u64 a 1) 6148914691236517205) + (andV .u64 a 6148914691236517205))) 2) 3689348814741910323) + (andV .u64 (IntKind.wrap .u64 ((andV .u64 (shV false .u64 a 1) 6148914691236517205) + (andV .u64 a 6148914691236517205))) 3689348814741910323))) 4) + (IntKind.wrap .u64 ((andV .u64 (shV false .u64 (IntKind.wrap .u64 ((andV .u64 (shV false .u64 a 1) 6148914691236517205) + (andV .u64 a 6148914691236517205))) 2) 3689348814741910323) + (andV .u64 (IntKind.wrap .u64 ((andV .u64 (shV false .u64 a 1) 6148914691236517205) + (andV .u64 a 6148914691236517205))) 3689348814741910323))))) 1085102592571150095) 8))) 16))) 32)))) 127)
theorem f118_ok (m : Nat) (a : Int) (o : Int) (h : f118 m a = some o) (w : World) (hI : seatInv w) : Calls Proofs.Tryd.prog 118 #[uu a] w fun e w' => e = .returned (ii o) ∧ Below w.heap.size w w' := by
 refine KC.calls (E := E0) (args := [uu a]) (v := ii o) rfl rfl (KC.bodyN E0_ok (F := Proofs.Tryd.f118) (by kernel_rfl) (code := f118_C118) (by kernel_rfl) (nt := 35) (by kernel_rfl) (rs := [.tmp 2]) (by kernel_rfl) (by kernel_rfl) (σ := [(0, uu a)]) (by kernel_rfl) ?_) w (seatInv_size hI) hI
 unfold f118 at h
 refine qQ ?_
 refine rS 1 [(0, uu a)] ?_
 refine nQ id ?_
 refine rS 7 [(0, uu (IntKind.wrap .u64 ((andV .u64 (shV false .u64 a 1) 6148914691236517205) + (andV .u64 a 6148914691236517205))))] ?_
 refine nQ id ?_
 refine rS 7 [(0, uu (IntKind.wrap .u64 ((andV .u64 (shV false .u64 (IntKind.wrap .u64 ((andV .u64 (shV false .u64 a 1) 6148914691236517205) + (andV .u64 a 6148914691236517205))) 2) 3689348814741910323) + (andV .u64 (IntKind.wrap .u64 ((andV .u64 (shV false .u64 a 1) 6148914691236517205) + (andV .u64 a 6148914691236517205))) 3689348814741910323))))] ?_
 refine nQ id ?_
 refine rS 6 [(0, uu (andV .u64 (IntKind.wrap .u64 ((shV false .u64 (IntKind.wrap .u64 ((andV .u64 (shV false .u64 (IntKind.wrap .u64 ((andV .u64 (shV false .u64 a 1) 6148914691236517205) + (andV .u64 a 6148914691236517205))) 2) 3689348814741910323) + (andV .u64 (IntKind.wrap .u64 ((andV .u64 (shV false .u64 a 1) 6148914691236517205) + (andV .u64 a 6148914691236517205))) 3689348814741910323))) 4) + (IntKind.wrap .u64 ((andV .u64 (shV false .u64 (IntKind.wrap .u64 ((andV .u64 (shV false .u64 a 1) 6148914691236517205) + (andV .u64 a 6148914691236517205))) 2) 3689348814741910323) + (andV .u64 (IntKind.wrap .u64 ((andV .u64 (shV false .u64 a 1) 6148914691236517205) + (andV .u64 a 6148914691236517205))) 3689348814741910323))))) 1085102592571150095))] ?_
 refine nQ id ?_
 refine rS 5 [(0, uu (IntKind.wrap .u64 ((andV .u64 (IntKind.wrap .u64 ((shV false .u64 (IntKind.wrap .u64 ((andV .u64 (shV false .u64 (IntKind.wrap .u64 ((andV .u64 (shV false .u64 a 1) 6148914691236517205) + (andV .u64 a 6148914691236517205))) 2) 3689348814741910323) + (andV .u64 (IntKind.wrap .u64 ((andV .u64 (shV false .u64 a 1) 6148914691236517205) + (andV .u64 a 6148914691236517205))) 3689348814741910323))) 4) + (IntKind.wrap .u64 ((andV .u64 (shV false .u64 (IntKind.wrap .u64 ((andV .u64 (shV false .u64 a 1) 6148914691236517205) + (andV .u64 a 6148914691236517205))) 2) 3689348814741910323) + (andV .u64 (IntKind.wrap .u64 ((andV .u64 (shV false .u64 a 1) 6148914691236517205) + (andV .u64 a 6148914691236517205))) 3689348814741910323))))) 1085102592571150095) + (shV false .u64 (andV .u64 (IntKind.wrap .u64 ((shV false .u64 (IntKind.wrap .u64 ((andV .u64 (shV false .u64 (IntKind.wrap .u64 ((andV .u64 (shV false .u64 a 1) 6148914691236517205) + (andV .u64 a 6148914691236517205))) 2) 3689348814741910323) + (andV .u64 (IntKind.wrap .u64 ((andV .u64 (shV false .u64 a 1) 6148914691236517205) + (andV .u64 a 6148914691236517205))) 3689348814741910323))) 4) + (IntKind.wrap .u64 ((andV .u64 (shV false .u64 (IntKind.wrap .u64 ((andV .u64 (shV false .u64 a 1) 6148914691236517205) + (andV .u64 a 6148914691236517205))) 2) 3689348814741910323) + (andV .u64 (IntKind.wrap .u64 ((andV .u64 (shV false .u64 a 1) 6148914691236517205) + (andV .u64 a 6148914691236517205))) 3689348814741910323))))) 1085102592571150095) 8))))] ?_
 refine nQ id ?_
 refine rS 5 [(0, uu (IntKind.wrap .u64 ((IntKind.wrap .u64 ((andV .u64 (IntKind.wrap .u64 ((shV false .u64 (IntKind.wrap .u64 ((andV .u64 (shV false .u64 (IntKind.wrap .u64 ((andV .u64 (shV false .u64 a 1) 6148914691236517205) + (andV .u64 a 6148914691236517205))) 2) 3689348814741910323) + (andV .u64 (IntKind.wrap .u64 ((andV .u64 (shV false .u64 a 1) 6148914691236517205) + (andV .u64 a 6148914691236517205))) 3689348814741910323))) 4) + (IntKind.wrap .u64 ((andV .u64 (shV false .u64 (IntKind.wrap .u64 ((andV .u64 (shV false .u64 a 1) 6148914691236517205) + (andV .u64 a 6148914691236517205))) 2) 3689348814741910323) + (andV .u64 (IntKind.wrap .u64 ((andV .u64 (shV false .u64 a 1) 6148914691236517205) + (andV .u64 a 6148914691236517205))) 3689348814741910323))))) 1085102592571150095) + (shV false .u64 (andV .u64 (IntKind.wrap .u64 ((shV false .u64 (IntKind.wrap .u64 ((andV .u64 (shV false .u64 (IntKind.wrap .u64 ((andV .u64 (shV false .u64 a 1) 6148914691236517205) + (andV .u64 a 6148914691236517205))) 2) 3689348814741910323) + (andV .u64 (IntKind.wrap .u64 ((andV .u64 (shV false .u64 a 1) 6148914691236517205) + (andV .u64 a 6148914691236517205))) 3689348814741910323))) 4) + (IntKind.wrap .u64 ((andV .u64 (shV false .u64 (IntKind.wrap .u64 ((andV .u64 (shV false .u64 a 1) 6148914691236517205) + (andV .u64 a 6148914691236517205))) 2) 3689348814741910323) + (andV .u64 (IntKind.wrap .u64 ((andV .u64 (shV false .u64 a 1) 6148914691236517205) + (andV .u64 a 6148914691236517205))) 3689348814741910323))))) 1085102592571150095) 8))) + (shV false .u64 (IntKind.wrap .u64 ((andV .u64 (IntKind.wrap .u64 ((shV false .u64 (IntKind.wrap .u64 ((andV .u64 (shV false .u64 (IntKind.wrap .u64 ((andV .u64 (shV false .u64 a 1) 6148914691236517205) + (andV .u64 a 6148914691236517205))) 2) 3689348814741910323) + (andV .u64 (IntKind.wrap .u64 ((andV .u64 (shV false .u64 a 1) 6148914691236517205) + (andV .u64 a 6148914691236517205))) 3689348814741910323))) 4) + (IntKind.wrap .u64 ((andV .u64 (shV false .u64 (IntKind.wrap .u64 ((andV .u64 (shV false .u64 a 1) 6148914691236517205) + (andV .u64 a 6148914691236517205))) 2) 3689348814741910323) + (andV .u64 (IntKind.wrap .u64 ((andV .u64 (shV false .u64 a 1) 6148914691236517205) + (andV .u64 a 6148914691236517205))) 3689348814741910323))))) 1085102592571150095) + (shV false .u64 (andV .u64 (IntKind.wrap .u64 ((shV false .u64 (IntKind.wrap .u64 ((andV .u64 (shV false .u64 (IntKind.wrap .u64 ((andV .u64 (shV false .u64 a 1) 6148914691236517205) + (andV .u64 a 6148914691236517205))) 2) 3689348814741910323) + (andV .u64 (IntKind.wrap .u64 ((andV .u64 (shV false .u64 a 1) 6148914691236517205) + (andV .u64 a 6148914691236517205))) 3689348814741910323))) 4) + (IntKind.wrap .u64 ((andV .u64 (shV false .u64 (IntKind.wrap .u64 ((andV .u64 (shV false .u64 a 1) 6148914691236517205) + (andV .u64 a 6148914691236517205))) 2) 3689348814741910323) + (andV .u64 (IntKind.wrap .u64 ((andV .u64 (shV false .u64 a 1) 6148914691236517205) + (andV .u64 a 6148914691236517205))) 3689348814741910323))))) 1085102592571150095) 8))) 16))))] ?_
 refine nQ id ?_
 refine rS 5 [(0, uu (IntKind.wrap .u64 ((IntKind.wrap .u64 ((IntKind.wrap .u64 ((andV .u64 (IntKind.wrap .u64 ((shV false .u64 (IntKind.wrap .u64 ((andV .u64 (shV false .u64 (IntKind.wrap .u64 ((andV .u64 (shV false .u64 a 1) 6148914691236517205) + (andV .u64 a 6148914691236517205))) 2) 3689348814741910323) + (andV .u64 (IntKind.wrap .u64 ((andV .u64 (shV false .u64 a 1) 6148914691236517205) + (andV .u64 a 6148914691236517205))) 3689348814741910323))) 4) + (IntKind.wrap .u64 ((andV .u64 (shV false .u64 (IntKind.wrap .u64 ((andV .u64 (shV false .u64 a 1) 6148914691236517205) + (andV .u64 a 6148914691236517205))) 2) 3689348814741910323) + (andV .u64 (IntKind.wrap .u64 ((andV .u64 (shV false .u64 a 1) 6148914691236517205) + (andV .u64 a 6148914691236517205))) 3689348814741910323))))) 1085102592571150095) + (shV false .u64 (andV .u64 (IntKind.wrap .u64 ((shV false .u64 (IntKind.wrap .u64 ((andV .u64 (shV false .u64 (IntKind.wrap .u64 ((andV .u64 (shV false .u64 a 1) 6148914691236517205) + (andV .u64 a 6148914691236517205))) 2) 3689348814741910323) + (andV .u64 (IntKind.wrap .u64 ((andV .u64 (shV false .u64 a 1) 6148914691236517205) + (andV .u64 a 6148914691236517205))) 3689348814741910323))) 4) + (IntKind.wrap .u64 ((andV .u64 (shV false .u64 (IntKind.wrap .u64 ((andV .u64 (shV false .u64 a 1) 6148914691236517205) + (andV .u64 a 6148914691236517205))) 2) 3689348814741910323) + (andV .u64 (IntKind.wrap .u64 ((andV .u64 (shV false .u64 a 1) 6148914691236517205) + (andV .u64 a 6148914691236517205))) 3689348814741910323))))) 1085102592571150095) 8))) + (shV false .u64 (IntKind.wrap .u64 ((andV .u64 (IntKind.wrap .u64 ((shV false .u64 (IntKind.wrap .u64 ((andV .u64 (shV false .u64 (IntKind.wrap .u64 ((andV .u64 (shV false .u64 a 1) 6148914691236517205) + (andV .u64 a 6148914691236517205))) 2) 3689348814741910323) + (andV .u64 (IntKind.wrap .u64 ((andV .u64 (shV false .u64 a 1) 6148914691236517205) + (andV .u64 a 6148914691236517205))) 3689348814741910323))) 4) + (IntKind.wrap .u64 ((andV .u64 (shV false .u64 (IntKind.wrap .u64 ((andV .u64 (shV false .u64 a 1) 6148914691236517205) + (andV .u64 a 6148914691236517205))) 2) 3689348814741910323) + (andV .u64 (IntKind.wrap .u64 ((andV .u64 (shV false .u64 a 1) 6148914691236517205) + (andV .u64 a 6148914691236517205))) 3689348814741910323))))) 1085102592571150095) + (shV false .u64 (andV .u64 (IntKind.wrap .u64 ((shV false .u64 (IntKind.wrap .u64 ((andV .u64 (shV false .u64 (IntKind.wrap .u64 ((andV .u64 (shV false .u64 a 1) 6148914691236517205) + (andV .u64 a 6148914691236517205))) 2) 3689348814741910323) + (andV .u64 (IntKind.wrap .u64 ((andV .u64 (shV false .u64 a 1) 6148914691236517205) + (andV .u64 a 6148914691236517205))) 3689348814741910323))) 4) + (IntKind.wrap .u64 ((andV .u64 (shV false .u64 (IntKind.wrap .u64 ((andV .u64 (shV false .u64 a 1) 6148914691236517205) + (andV .u64 a 6148914691236517205))) 2) 3689348814741910323) + (andV .u64 (IntKind.wrap .u64 ((andV .u64 (shV false .u64 a 1) 6148914691236517205) + (andV .u64 a 6148914691236517205))) 3689348814741910323))))) 1085102592571150095) 8))) 16))) + (shV false .u64 (IntKind.wrap .u64 ((IntKind.wrap .u64 ((andV .u64 (IntKind.wrap .u64 ((shV false .u64 (IntKind.wrap .u64 ((andV .u64 (shV false .u64 (IntKind.wrap .u64 ((andV .u64 (shV false .u64 a 1) 6148914691236517205) + (andV .u64 a 6148914691236517205))) 2) 3689348814741910323) + (andV .u64 (IntKind.wrap .u64 ((andV .u64 (shV false .u64 a 1) 6148914691236517205) + (andV .u64 a 6148914691236517205))) 3689348814741910323))) 4) + (IntKind.wrap .u64 ((andV .u64 (shV false .u64 (IntKind.wrap .u64 ((andV .u64 (shV false .u64 a 1) 6148914691236517205) + (andV .u64 a 6148914691236517205))) 2) 3689348814741910323) + (andV .u64 (IntKind.wrap .u64 ((andV .u64 (shV false .u64 a 1) 6148914691236517205) + (andV .u64 a 6148914691236517205))) 3689348814741910323))))) 1085102592571150095) + (shV false .u64 (andV .u64 (IntKind.wrap .u64 ((shV false .u64 (IntKind.wrap .u64 ((andV .u64 (shV false .u64 (IntKind.wrap .u64 ((andV .u64 (shV false .u64 a 1) 6148914691236517205) + (andV .u64 a 6148914691236517205))) 2) 3689348814741910323) + (andV .u64 (IntKind.wrap .u64 ((andV .u64 (shV false .u64 a 1) 6148914691236517205) + (andV .u64 a 6148914691236517205))) 3689348814741910323))) 4) + (IntKind.wrap .u64 ((andV .u64 (shV false .u64 (IntKind.wrap .u64 ((andV .u64 (shV false .u64 a 1) 6148914691236517205) + (andV .u64 a 6148914691236517205))) 2) 3689348814741910323) + (andV .u64 (IntKind.wrap .u64 ((andV .u64 (shV false .u64 a 1) 6148914691236517205) + (andV .u64 a 6148914691236517205))) 3689348814741910323))))) 1085102592571150095) 8))) + (shV false .u64 (IntKind.wrap .u64 ((andV .u64 (IntKind.wrap .u64 ((shV false .u64 (IntKind.wrap .u64 ((andV .u64 (shV false .u64 (IntKind.wrap .u64 ((andV .u64 (shV false .u64 a 1) 6148914691236517205) + (andV .u64 a 6148914691236517205))) 2) 3689348814741910323) + (andV .u64 (IntKind.wrap .u64 ((andV .u64 (shV false .u64 a 1) 6148914691236517205) + (andV .u64 a 6148914691236517205))) 3689348814741910323))) 4) + (IntKind.wrap .u64 ((andV .u64 (shV false .u64 (IntKind.wrap .u64 ((andV .u64 (shV false .u64 a 1) 6148914691236517205) + (andV .u64 a 6148914691236517205))) 2) 3689348814741910323) + (andV .u64 (IntKind.wrap .u64 ((andV .u64 (shV false .u64 a 1) 6148914691236517205) + (andV .u64 a 6148914691236517205))) 3689348814741910323))))) 1085102592571150095) + (shV false .u64 (andV .u64 (IntKind.wrap .u64 ((shV false .u64 (IntKind.wrap .u64 ((andV .u64 (shV false .u64 (IntKind.wrap .u64 ((andV .u64 (shV false .u64 a 1) 6148914691236517205) + (andV .u64 a 6148914691236517205))) 2) 3689348814741910323) + (andV .u64 (IntKind.wrap .u64 ((andV .u64 (shV false .u64 a 1) 6148914691236517205) + (andV .u64 a 6148914691236517205))) 3689348814741910323))) 4) + (IntKind.wrap .u64 ((andV .u64 (shV false .u64 (IntKind.wrap .u64 ((andV .u64 (shV false .u64 a 1) 6148914691236517205) + (andV .u64 a 6148914691236517205))) 2) 3689348814741910323) + (andV .u64 (IntKind.wrap .u64 ((andV .u64 (shV false .u64 a 1) 6148914691236517205) + (andV .u64 a 6148914691236517205))) 3689348814741910323))))) 1085102592571150095) 8))) 16))) 32))))] ?_
 refine nQ id ?_
 refine rS 4 [(2, ii (andV .i64 (w64 (IntKind.wrap .u64 ((IntKind.wrap .u64 ((IntKind.wrap .u64 ((andV .u64 (IntKind.wrap .u64 ((shV false .u64 (IntKind.wrap .u64 ((andV .u64 (shV false .u64 (IntKind.wrap .u64 ((andV .u64 (shV false .u64 a 1) 6148914691236517205) + (andV .u64 a 6148914691236517205))) 2) 3689348814741910323) + (andV .u64 (IntKind.wrap .u64 ((andV .u64 (shV false .u64 a 1) 6148914691236517205) + (andV .u64 a 6148914691236517205))) 3689348814741910323))) 4) + (IntKind.wrap .u64 ((andV .u64 (shV false .u64 (IntKind.wrap .u64 ((andV .u64 (shV false .u64 a 1) 6148914691236517205) + (andV .u64 a 6148914691236517205))) 2) 3689348814741910323) + (andV .u64 (IntKind.wrap .u64 ((andV .u64 (shV false .u64 a 1) 6148914691236517205) + (andV .u64 a 6148914691236517205))) 3689348814741910323))))) 1085102592571150095) + (shV false .u64 (andV .u64 (IntKind.wrap .u64 ((shV false .u64 (IntKind.wrap .u64 ((andV .u64 (shV false .u64 (IntKind.wrap .u64 ((andV .u64 (shV false .u64 a 1) 6148914691236517205) + (andV .u64 a 6148914691236517205))) 2) 3689348814741910323) + (andV .u64 (IntKind.wrap .u64 ((andV .u64 (shV false .u64 a 1) 6148914691236517205) + (andV .u64 a 6148914691236517205))) 3689348814741910323))) 4) + (IntKind.wrap .u64 ((andV .u64 (shV false .u64 (IntKind.wrap .u64 ((andV .u64 (shV false .u64 a 1) 6148914691236517205) + (andV .u64 a 6148914691236517205))) 2) 3689348814741910323) + (andV .u64 (IntKind.wrap .u64 ((andV .u64 (shV false .u64 a 1) 6148914691236517205) + (andV .u64 a 6148914691236517205))) 3689348814741910323))))) 1085102592571150095) 8))) + (shV false .u64 (IntKind.wrap .u64 ((andV .u64 (IntKind.wrap .u64 ((shV false .u64 (IntKind.wrap .u64 ((andV .u64 (shV false .u64 (IntKind.wrap .u64 ((andV .u64 (shV false .u64 a 1) 6148914691236517205) + (andV .u64 a 6148914691236517205))) 2) 3689348814741910323) + (andV .u64 (IntKind.wrap .u64 ((andV .u64 (shV false .u64 a 1) 6148914691236517205) + (andV .u64 a 6148914691236517205))) 3689348814741910323))) 4) + (IntKind.wrap .u64 ((andV .u64 (shV false .u64 (IntKind.wrap .u64 ((andV .u64 (shV false .u64 a 1) 6148914691236517205) + (andV .u64 a 6148914691236517205))) 2) 3689348814741910323) + (andV .u64 (IntKind.wrap .u64 ((andV .u64 (shV false .u64 a 1) 6148914691236517205) + (andV .u64 a 6148914691236517205))) 3689348814741910323))))) 1085102592571150095) + (shV false .u64 (andV .u64 (IntKind.wrap .u64 ((shV false .u64 (IntKind.wrap .u64 ((andV .u64 (shV false .u64 (IntKind.wrap .u64 ((andV .u64 (shV false .u64 a 1) 6148914691236517205) + (andV .u64 a 6148914691236517205))) 2) 3689348814741910323) + (andV .u64 (IntKind.wrap .u64 ((andV .u64 (shV false .u64 a 1) 6148914691236517205) + (andV .u64 a 6148914691236517205))) 3689348814741910323))) 4) + (IntKind.wrap .u64 ((andV .u64 (shV false .u64 (IntKind.wrap .u64 ((andV .u64 (shV false .u64 a 1) 6148914691236517205) + (andV .u64 a 6148914691236517205))) 2) 3689348814741910323) + (andV .u64 (IntKind.wrap .u64 ((andV .u64 (shV false .u64 a 1) 6148914691236517205) + (andV .u64 a 6148914691236517205))) 3689348814741910323))))) 1085102592571150095) 8))) 16))) + (shV false .u64 (IntKind.wrap .u64 ((IntKind.wrap .u64 ((andV .u64 (IntKind.wrap .u64 ((shV false .u64 (IntKind.wrap .u64 ((andV .u64 (shV false .u64 (IntKind.wrap .u64 ((andV .u64 (shV false .u64 a 1) 6148914691236517205) + (andV .u64 a 6148914691236517205))) 2) 3689348814741910323) + (andV .u64 (IntKind.wrap .u64 ((andV .u64 (shV false .u64 a 1) 6148914691236517205) + (andV .u64 a 6148914691236517205))) 3689348814741910323))) 4) + (IntKind.wrap .u64 ((andV .u64 (shV false .u64 (IntKind.wrap .u64 ((andV .u64 (shV false .u64 a 1) 6148914691236517205) + (andV .u64 a 6148914691236517205))) 2) 3689348814741910323) + (andV .u64 (IntKind.wrap .u64 ((andV .u64 (shV false .u64 a 1) 6148914691236517205) + (andV .u64 a 6148914691236517205))) 3689348814741910323))))) 1085102592571150095) + (shV false .u64 (andV .u64 (IntKind.wrap .u64 ((shV false .u64 (IntKind.wrap .u64 ((andV .u64 (shV false .u64 (IntKind.wrap .u64 ((andV .u64 (shV false .u64 a 1) 6148914691236517205) + (andV .u64 a 6148914691236517205))) 2) 3689348814741910323) + (andV .u64 (IntKind.wrap .u64 ((andV .u64 (shV false .u64 a 1) 6148914691236517205) + (andV .u64 a 6148914691236517205))) 3689348814741910323))) 4) + (IntKind.wrap .u64 ((andV .u64 (shV false .u64 (IntKind.wrap .u64 ((andV .u64 (shV false .u64 a 1) 6148914691236517205) + (andV .u64 a 6148914691236517205))) 2) 3689348814741910323) + (andV .u64 (IntKind.wrap .u64 ((andV .u64 (shV false .u64 a 1) 6148914691236517205) + (andV .u64 a 6148914691236517205))) 3689348814741910323))))) 1085102592571150095) 8))) + (shV false .u64 (IntKind.wrap .u64 ((andV .u64 (IntKind.wrap .u64 ((shV false .u64 (IntKind.wrap .u64 ((andV .u64 (shV false .u64 (IntKind.wrap .u64 ((andV .u64 (shV false .u64 a 1) 6148914691236517205) + (andV .u64 a 6148914691236517205))) 2) 3689348814741910323) + (andV .u64 (IntKind.wrap .u64 ((andV .u64 (shV false .u64 a 1) 6148914691236517205) + (andV .u64 a 6148914691236517205))) 3689348814741910323))) 4) + (IntKind.wrap .u64 ((andV .u64 (shV false .u64 (IntKind.wrap .u64 ((andV .u64 (shV false .u64 a 1) 6148914691236517205) + (andV .u64 a 6148914691236517205))) 2) 3689348814741910323) + (andV .u64 (IntKind.wrap .u64 ((andV .u64 (shV false .u64 a 1) 6148914691236517205) + (andV .u64 a 6148914691236517205))) 3689348814741910323))))) 1085102592571150095) + (shV false .u64 (andV .u64 (IntKind.wrap .u64 ((shV false .u64 (IntKind.wrap .u64 ((andV .u64 (shV false .u64 (IntKind.wrap .u64 ((andV .u64 (shV false .u64 a 1) 6148914691236517205) + (andV .u64 a 6148914691236517205))) 2) 3689348814741910323) + (andV .u64 (IntKind.wrap .u64 ((andV .u64 (shV false .u64 a 1) 6148914691236517205) + (andV .u64 a 6148914691236517205))) 3689348814741910323))) 4) + (IntKind.wrap .u64 ((andV .u64 (shV false .u64 (IntKind.wrap .u64 ((andV .u64 (shV false .u64 a 1) 6148914691236517205) + (andV .u64 a 6148914691236517205))) 2) 3689348814741910323) + (andV .u64 (IntKind.wrap .u64 ((andV .u64 (shV false .u64 a 1) 6148914691236517205) + (andV .u64 a 6148914691236517205))) 3689348814741910323))))) 1085102592571150095) 8))) 16))) 32)))) 127))] ?_
 refine dQ ?_
 show XQ _ _ _ _ _ _ _ _
 refine XQ.ret (by kernel_rfl) ?_
 have h := Option.some.inj h
 subst h
 exact ⟨fun i q => (by cases q), ii (andV .i64 (w64 (IntKind.wrap .u64 ((IntKind.wrap .u64 ((IntKind.wrap .u64 ((andV .u64 (IntKind.wrap .u64 ((shV false .u64 (IntKind.wrap .u64 ((andV .u64 (shV false .u64 (IntKind.wrap .u64 ((andV .u64 (shV false .u64 a 1) 6148914691236517205) + (andV .u64 a 6148914691236517205))) 2) 3689348814741910323) + (andV .u64 (IntKind.wrap .u64 ((andV .u64 (shV false .u64 a 1) 6148914691236517205) + (andV .u64 a 6148914691236517205))) 3689348814741910323))) 4) + (IntKind.wrap .u64 ((andV .u64 (shV false .u64 (IntKind.wrap .u64 ((andV .u64 (shV false .u64 a 1) 6148914691236517205) + (andV .u64 a 6148914691236517205))) 2) 3689348814741910323) + (andV .u64 (IntKind.wrap .u64 ((andV .u64 (shV false .u64 a 1) 6148914691236517205) + (andV .u64 a 6148914691236517205))) 3689348814741910323))))) 1085102592571150095) + (shV false .u64 (andV .u64 (IntKind.wrap .u64 ((shV false .u64 (IntKind.wrap .u64 ((andV .u64 (shV false .u64 (IntKind.wrap .u64 ((andV .u64 (shV false .u64 a 1) 6148914691236517205) + (andV .u64 a 6148914691236517205))) 2) 3689348814741910323) + (andV .u64 (IntKind.wrap .u64 ((andV .u64 (shV false .u64 a 1) 6148914691236517205) + (andV .u64 a 6148914691236517205))) 3689348814741910323))) 4) + (IntKind.wrap .u64 ((andV .u64 (shV false .u64 (IntKind.wrap .u64 ((andV .u64 (shV false .u64 a 1) 6148914691236517205) + (andV .u64 a 6148914691236517205))) 2) 3689348814741910323) + (andV .u64 (IntKind.wrap .u64 ((andV .u64 (shV false .u64 a 1) 6148914691236517205) + (andV .u64 a 6148914691236517205))) 3689348814741910323))))) 1085102592571150095) 8))) + (shV false .u64 (IntKind.wrap .u64 ((andV .u64 (IntKind.wrap .u64 ((shV false .u64 (IntKind.wrap .u64 ((andV .u64 (shV false .u64 (IntKind.wrap .u64 ((andV .u64 (shV false .u64 a 1) 6148914691236517205) + (andV .u64 a 6148914691236517205))) 2) 3689348814741910323) + (andV .u64 (IntKind.wrap .u64 ((andV .u64 (shV false .u64 a 1) 6148914691236517205) + (andV .u64 a 6148914691236517205))) 3689348814741910323))) 4) + (IntKind.wrap .u64 ((andV .u64 (shV false .u64 (IntKind.wrap .u64 ((andV .u64 (shV false .u64 a 1) 6148914691236517205) + (andV .u64 a 6148914691236517205))) 2) 3689348814741910323) + (andV .u64 (IntKind.wrap .u64 ((andV .u64 (shV false .u64 a 1) 6148914691236517205) + (andV .u64 a 6148914691236517205))) 3689348814741910323))))) 1085102592571150095) + (shV false .u64 (andV .u64 (IntKind.wrap .u64 ((shV false .u64 (IntKind.wrap .u64 ((andV .u64 (shV false .u64 (IntKind.wrap .u64 ((andV .u64 (shV false .u64 a 1) 6148914691236517205) + (andV .u64 a 6148914691236517205))) 2) 3689348814741910323) + (andV .u64 (IntKind.wrap .u64 ((andV .u64 (shV false .u64 a 1) 6148914691236517205) + (andV .u64 a 6148914691236517205))) 3689348814741910323))) 4) + (IntKind.wrap .u64 ((andV .u64 (shV false .u64 (IntKind.wrap .u64 ((andV .u64 (shV false .u64 a 1) 6148914691236517205) + (andV .u64 a 6148914691236517205))) 2) 3689348814741910323) + (andV .u64 (IntKind.wrap .u64 ((andV .u64 (shV false .u64 a 1) 6148914691236517205) + (andV .u64 a 6148914691236517205))) 3689348814741910323))))) 1085102592571150095) 8))) 16))) + (shV false .u64 (IntKind.wrap .u64 ((IntKind.wrap .u64 ((andV .u64 (IntKind.wrap .u64 ((shV false .u64 (IntKind.wrap .u64 ((andV .u64 (shV false .u64 (IntKind.wrap .u64 ((andV .u64 (shV false .u64 a 1) 6148914691236517205) + (andV .u64 a 6148914691236517205))) 2) 3689348814741910323) + (andV .u64 (IntKind.wrap .u64 ((andV .u64 (shV false .u64 a 1) 6148914691236517205) + (andV .u64 a 6148914691236517205))) 3689348814741910323))) 4) + (IntKind.wrap .u64 ((andV .u64 (shV false .u64 (IntKind.wrap .u64 ((andV .u64 (shV false .u64 a 1) 6148914691236517205) + (andV .u64 a 6148914691236517205))) 2) 3689348814741910323) + (andV .u64 (IntKind.wrap .u64 ((andV .u64 (shV false .u64 a 1) 6148914691236517205) + (andV .u64 a 6148914691236517205))) 3689348814741910323))))) 1085102592571150095) + (shV false .u64 (andV .u64 (IntKind.wrap .u64 ((shV false .u64 (IntKind.wrap .u64 ((andV .u64 (shV false .u64 (IntKind.wrap .u64 ((andV .u64 (shV false .u64 a 1) 6148914691236517205) + (andV .u64 a 6148914691236517205))) 2) 3689348814741910323) + (andV .u64 (IntKind.wrap .u64 ((andV .u64 (shV false .u64 a 1) 6148914691236517205) + (andV .u64 a 6148914691236517205))) 3689348814741910323))) 4) + (IntKind.wrap .u64 ((andV .u64 (shV false .u64 (IntKind.wrap .u64 ((andV .u64 (shV false .u64 a 1) 6148914691236517205) + (andV .u64 a 6148914691236517205))) 2) 3689348814741910323) + (andV .u64 (IntKind.wrap .u64 ((andV .u64 (shV false .u64 a 1) 6148914691236517205) + (andV .u64 a 6148914691236517205))) 3689348814741910323))))) 1085102592571150095) 8))) + (shV false .u64 (IntKind.wrap .u64 ((andV .u64 (IntKind.wrap .u64 ((shV false .u64 (IntKind.wrap .u64 ((andV .u64 (shV false .u64 (IntKind.wrap .u64 ((andV .u64 (shV false .u64 a 1) 6148914691236517205) + (andV .u64 a 6148914691236517205))) 2) 3689348814741910323) + (andV .u64 (IntKind.wrap .u64 ((andV .u64 (shV false .u64 a 1) 6148914691236517205) + (andV .u64 a 6148914691236517205))) 3689348814741910323))) 4) + (IntKind.wrap .u64 ((andV .u64 (shV false .u64 (IntKind.wrap .u64 ((andV .u64 (shV false .u64 a 1) 6148914691236517205) + (andV .u64 a 6148914691236517205))) 2) 3689348814741910323) + (andV .u64 (IntKind.wrap .u64 ((andV .u64 (shV false .u64 a 1) 6148914691236517205) + (andV .u64 a 6148914691236517205))) 3689348814741910323))))) 1085102592571150095) + (shV false .u64 (andV .u64 (IntKind.wrap .u64 ((shV false .u64 (IntKind.wrap .u64 ((andV .u64 (shV false .u64 (IntKind.wrap .u64 ((andV .u64 (shV false .u64 a 1) 6148914691236517205) + (andV .u64 a 6148914691236517205))) 2) 3689348814741910323) + (andV .u64 (IntKind.wrap .u64 ((andV .u64 (shV false .u64 a 1) 6148914691236517205) + (andV .u64 a 6148914691236517205))) 3689348814741910323))) 4) + (IntKind.wrap .u64 ((andV .u64 (shV false .u64 (IntKind.wrap .u64 ((andV .u64 (shV false .u64 a 1) 6148914691236517205) + (andV .u64 a 6148914691236517205))) 2) 3689348814741910323) + (andV .u64 (IntKind.wrap .u64 ((andV .u64 (shV false .u64 a 1) 6148914691236517205) + (andV .u64 a 6148914691236517205))) 3689348814741910323))))) 1085102592571150095) 8))) 16))) 32)))) 127), (by kernel_rfl), rfl⟩
noncomputable def f94_C94 : Code := Proofs.Tryd.f94.body.getD .skip
def f94 (m : Nat) (a : Int) : Option (Int) :=
 (f118 m a).bind fun r1 =>
  some (r1)
theorem f94_ok (m : Nat) (a : Int) (o : Int) (h : f94 m a = some o) (w : World) (hI : seatInv w) : Calls Proofs.Tryd.prog 94 #[uu a] w fun e w' => e = .returned (ii o) ∧ Below w.heap.size w w' := by
 refine KC.calls (E := E0) (args := [uu a]) (v := ii o) rfl rfl (KC.bodyN E0_ok (F := Proofs.Tryd.f94) (by kernel_rfl) (code := f94_C94) (by kernel_rfl) (nt := 8) (by kernel_rfl) (rs := [.tmp 2]) (by kernel_rfl) (by kernel_rfl) (σ := [(0, uu a)]) (by kernel_rfl) ?_) w (seatInv_size hI) hI
 unfold f94 at h
 refine qQ ?_
 refine rS 1 [(0, uu a)] ?_
 refine dQ ?_
 show XQ _ _ _ _ _ _ _ _
 refine sQ ?_
 refine XQ.cond (s := (.const (.bool false))) (b := false) (by kernel_rfl) (by kernel_rfl) (fun q => by cases q) (fun _ => ?_)
 refine kQ ?_
 show XQ _ _ _ _ _ _ _ _
 refine qQ ?_
 refine rS 1 [(6, uu a)] ?_
 obtain ⟨r1, r1_h, h⟩ := bS h
 refine XR.call E0_ok [7] rfl (K := 118) (args := [uu a]) (d := (some (path 12 7))) (by kernel_rfl) (KC.of_calls E0_ok (F := Proofs.Tryd.f118) (v := ii r1) (by kernel_rfl) rfl rfl (fun w hI => f118_ok m a r1 r1_h w hI)) ?_
 rintro _ _ _ ⟨rfl, rfl, rfl⟩
 refine XR.conv (σ' := [(7, ii r1)]) (h' := []) (c' := 0) ?_ (by kernel_rfl)
 refine rS 1 [(2, ii r1)] ?_
 refine dQ ?_
 show XQ _ _ _ _ _ _ _ _
 refine XQ.ret (by kernel_rfl) ?_
 have h := Option.some.inj h
 subst h
 exact ⟨fun i q => (by cases q), ii r1, (by kernel_rfl), rfl⟩
noncomputable def f97_C97 : Code := Proofs.Tryd.f97.body.getD .skip
noncomputable def f97_L1 : Code := lft (lft (rgt (lft (rgt (rgt (rgt f97_C97))))))
def f97_1 (m : Nat) : Nat → List Int → Int → Int → Option Int
 | 0, _, _, _ => none
 | fuel + 1, a, x3_1, x4_1 =>
  cond (decide (x4_1 < ((a.length : Nat) : Int))) (
   cond (inRow x4_1 a.length) (
    f97_1 m fuel a (iMin x3_1 (List.getD a (Int.toNat x4_1) 0)) (w64 (x4_1 + 1))
   ) none
  ) (
   some (x3_1)
  )
theorem f97_1_ok (m : Nat) : ∀ (fuel : Nat) (z0 : Nat) (y0 : Nat) (a : List Int) (x3_1 : Int) (x4_1 : Int) (o : Int), f97_1 m fuel a x3_1 x4_1 = some o → ∀ Q : QP, Q (.exit 0) [(3, ii o)] [(0, rc (encI .i64) a z0 y0 1)] 1 → XL E0 25 1 fuel f97_L1 [(0, s0 0 a.length), (3, ii x3_1), (4, ii x4_1)] [(0, rc (encI .i64) a z0 y0 1)] 1 Q
 | 0, z0, y0, a, x3_1, x4_1, o, h, Q, hQ => by cases h
 | fuel + 1, z0, y0, a, x3_1, x4_1, o, h, Q, hQ => by
  unfold f97_1 at h
  refine XL.succ E0_ok ?_
  refine sQ ?_
  refine qQ ?_
  refine rS 4 [(0, s0 0 a.length), (3, ii x3_1), (4, ii x4_1), (15, .bool (decide (x4_1 < ((a.length : Nat) : Int))))] ?_
  refine dQ ?_
  show XQ _ _ _ _ _ _ _ _
  cases b1 : (decide (x4_1 < ((a.length : Nat) : Int)) : Bool) with
  | true =>
   have h := cT b1 h
   refine iT (.tmp 15) ?_
   refine kQ ?_
   show XQ _ _ _ _ _ _ _ _
   refine sQ ?_
   refine XQ.block (id := 1) (by kernel_rfl) ?_
   refine rQ ?_
   refine rS 3 [(0, s0 0 a.length), (4, ii x4_1), (18, ii x3_1), (19, s0 0 a.length), (20, ii x4_1)] ?_
   cases b2 : (inRow x4_1 a.length : Bool) with
   | false => cases (cF b2 h)
   | true =>
    have h := cT b2 h
    refine XR.rd E0_ok [0, 4, 18, 21] rfl (v := pp 0 ((Int.toNat x4_1) * 1)) (v_idx (s := 1) (x := (src 25 (.tmp 19))) (y := (src 25 (.tmp 20))) (b := 0) (o := 0) (len := a.length) (cap := a.length) (ik := .i64) (i := x4_1) (off := (Int.toNat x4_1) * 1) (d := (some (path 12 21))) (by kernel_rfl) (by kernel_rfl) (by kernel_rfl) b2 (by omega)) (σ' := [(0, s0 0 a.length), (4, ii x4_1), (18, ii x3_1), (21, pp 0 ((Int.toNat x4_1) * 1))]) (by kernel_rfl) ?_
    refine XR.rd E0_ok [0, 4, 18, 22] rfl (v := ii (List.getD a (Int.toNat x4_1) 0)) (v_load1 (encI_ok .i64) (x := (src 25 (.tmp 21))) (b := 0) (off := (Int.toNat x4_1) * 1) (xs := a) (fz := z0) (e := y0) (es := 1) (d := (some (path 12 22))) (by kernel_rfl) (by kernel_rfl) (by kernel_rfl) (Int.toNat x4_1) 0 0 (by first | with_reducible rfl | omega | rfl) (row_len (inRow_toNat b2) (by simp)) rfl rfl) (σ' := [(0, s0 0 a.length), (4, ii x4_1), (18, ii x3_1), (22, ii (List.getD a (Int.toNat x4_1) 0))]) (by kernel_rfl) ?_
    refine rS 2 [(0, s0 0 a.length), (3, ii (iMin x3_1 (List.getD a (Int.toNat x4_1) 0))), (4, ii x4_1)] ?_
    refine dQ ?_
    show XQ _ _ _ _ _ _ _ _
    refine rQ ?_
    refine rS 3 [(0, s0 0 a.length), (3, ii (iMin x3_1 (List.getD a (Int.toNat x4_1) 0))), (4, ii (w64 (x4_1 + 1)))] ?_
    refine dQ ?_
    show XL _ _ _ _ _ _ _ _ _
    refine XL.ren (σ' := [(0, s0 0 a.length), (3, ii (iMin x3_1 (List.getD a (Int.toNat x4_1) 0))), (4, ii (w64 (x4_1 + 1)))]) (h' := [(0, rc (encI .i64) a z0 y0 1)]) (c' := 1) [0] (by decide) rfl ⟨rfl, rfl, rfl, trivial⟩ ⟨⟨_, _, rfl, rfl, .inl ⟨rfl, rwI⟩⟩, trivial⟩ rfl ?_
    refine XL.conv (f97_1_ok m fuel z0 y0 a (iMin x3_1 (List.getD a (Int.toNat x4_1) 0)) (w64 (x4_1 + 1)) o h Q hQ) (by first | with_reducible rfl | simp | rfl)
  | false =>
   have h := cF b1 h
   refine iF (.tmp 15) ?_
   refine XQ.ren (σ' := [(3, ii x3_1)]) (h' := [(0, rc (encI .i64) a z0 y0 1)]) (c' := 1) [0] (by decide) rfl ⟨rfl, trivial⟩ ⟨⟨_, _, rfl, rfl, .inl ⟨rfl, rwI⟩⟩, trivial⟩ rfl ?_
   refine XQ.exit (i := 0) (by kernel_rfl) ?_
   cases h
   exact hQ
def f97 (m : Nat) (a : List Int) : Option (Int) :=
 cond (decide (((a.length : Nat) : Int) < 1)) (
  none
 ) (
  cond (inRow 0 a.length) (
   (f97_1 m m a (List.getD a 0 0) 1).bind fun o1 =>
    some (o1)
  ) none
 )
theorem f97_ok (m : Nat) (z0 : Nat) (y0 : Nat) (a : List Int) (o : Int) (h : f97 m a = some o) : KC E0 97 [s0 0 a.length] [(0, rc (encI .i64) a z0 y0 1)] 1 (fun v _ _ => v = ii o) := by
 refine KC.bodyN E0_ok (F := Proofs.Tryd.f97) (by kernel_rfl) (code := f97_C97) (by kernel_rfl) (nt := 25) (by kernel_rfl) (rs := [.tmp 2]) (by kernel_rfl) (by kernel_rfl) (σ := [(0, s0 0 a.length)]) (by kernel_rfl) ?_
 unfold f97 at h
 refine qQ ?_
 refine rS 1 [(0, s0 0 a.length)] ?_
 refine dQ ?_
 show XQ _ _ _ _ _ _ _ _
 refine sQ ?_
 refine qQ ?_
 refine rS 3 [(0, s0 0 a.length), (7, .bool (decide (((a.length : Nat) : Int) < 1)))] ?_
 refine dQ ?_
 show XQ _ _ _ _ _ _ _ _
 cases b1 : (decide (((a.length : Nat) : Int) < 1) : Bool) with
 | true =>
  have h := cT b1 h
  refine iT (.tmp 7) ?_
  refine rQ ?_
  cases h
 | false =>
  have h := cF b1 h
  refine iF (.tmp 7) ?_
  refine kQ ?_
  show XQ _ _ _ _ _ _ _ _
  refine qQ ?_
  refine rS 1 [(0, s0 0 a.length), (9, s0 0 a.length)] ?_
  cases b2 : (inRow 0 a.length : Bool) with
  | false => cases (cF b2 h)
  | true =>
   have h := cT b2 h
   refine XR.rd E0_ok [0, 10] rfl (v := pp 0 (0 * 1)) (v_idx (s := 1) (x := (src 25 (.tmp 9))) (y := (src 25 (.const (ii 0)))) (b := 0) (o := 0) (len := a.length) (cap := a.length) (ik := .i64) (i := 0) (off := 0 * 1) (d := (some (path 12 10))) (by kernel_rfl) (by kernel_rfl) (by kernel_rfl) b2 (by omega)) (σ' := [(0, s0 0 a.length), (10, pp 0 (0 * 1))]) (by kernel_rfl) ?_
   refine XR.rd E0_ok [0, 11] rfl (v := ii (List.getD a 0 0)) (v_load1 (encI_ok .i64) (x := (src 25 (.tmp 10))) (b := 0) (off := 0 * 1) (xs := a) (fz := z0) (e := y0) (es := 1) (d := (some (path 12 11))) (by kernel_rfl) (by kernel_rfl) (by kernel_rfl) 0 0 0 (by first | with_reducible rfl | omega | rfl) (row_len (inRow_toNat b2) (by simp)) rfl rfl) (σ' := [(0, s0 0 a.length), (11, ii (List.getD a 0 0))]) (by kernel_rfl) ?_
   refine rS 1 [(0, s0 0 a.length), (3, ii (List.getD a 0 0))] ?_
   refine dQ ?_
   show XQ _ _ _ _ _ _ _ _
   refine sQ ?_
   refine qQ ?_
   refine rS 1 [(0, s0 0 a.length), (3, ii (List.getD a 0 0)), (4, ii 1)] ?_
   refine dQ ?_
   show XQ _ _ _ _ _ _ _ _
   refine XQ.block (id := 0) (by kernel_rfl) ?_
   refine XQ.loop m (by kernel_rfl) ?_
   obtain ⟨o1, o1_h, h⟩ := bS h
   refine XL.ren (σ' := [(0, s0 0 a.length), (3, ii (List.getD a 0 0)), (4, ii 1)]) (h' := [(0, rc (encI .i64) a z0 y0 1)]) (c' := 1) [0] (by decide) rfl ⟨rfl, rfl, rfl, trivial⟩ ⟨⟨_, _, rfl, rfl, .inl ⟨rfl, rwI⟩⟩, trivial⟩ rfl ?_
   refine XL.conv (f97_1_ok m m z0 y0 a (List.getD a 0 0) 1 o1 o1_h _ ?_) (by first | with_reducible rfl | simp | rfl)
   show XQ _ _ _ _ _ _ _ _
   refine qQ ?_
   refine rS 2 [(2, ii o1)] ?_
   refine dQ ?_
   show XQ _ _ _ _ _ _ _ _
   refine XQ.ret (by kernel_rfl) ?_
   have h := Option.some.inj h
   subst h
   exact ⟨fun i q => (by cases q), ii o1, (by kernel_rfl), rfl⟩
noncomputable def f95_C95 : Code := Proofs.Tryd.f95.body.getD .skip
noncomputable def f95_C119 : Code := Proofs.Tryd.f119.body.getD .skip
noncomputable def f95_L1 : Code := lft (lft (rgt (lft (rgt (rgt f95_C95)))))
noncomputable def f95_L2 : Code := lft (lft (rgt (lft (rgt (rgt (rgt (rgt f95_C95)))))))
noncomputable def f95_L3 : Code := lft (lft (rgt (lft (rgt (rgt (rgt (rgt f95_C95)))))))
def f95_1 (m : Nat) : Nat → Nat → Nat → Nat → Nat → Nat → Nat → List Int → Int → Option Int
 | 0, _, _, _, _, _, _, _, _ => none
 | fuel + 1, i1, n1, k1, i2, n2, k2, b, x3_1 =>
  some (x3_1)
theorem f95_1_ok (m : Nat) : ∀ (fuel : Nat) (z0 : Nat) (z1 : Nat) (y1 : Nat) (i1 : Nat) (n1 : Nat) (k1 : Nat) (i2 : Nat) (n2 : Nat) (k2 : Nat) (b : List Int) (x3_1 : Int) (o : Int), f95_1 m fuel i1 n1 k1 i2 n2 k2 b x3_1 = some o → ∀ Q : QP, Q (.exit 0) [(0, s0 0 2), (3, ii o)] [(1, rc (encI .i64) b z1 y1 1), (0, .cells [sl 1 (i1 * 1) n1 k1, sl 1 (i2 * 1) n2 k2] z0 22 1)] 2 → XL E0 36 2 fuel f95_L1 [(0, s0 0 2), (3, ii x3_1), (9, s0 0 2), (10, ii 2), (11, ii 2)] [(1, rc (encI .i64) b z1 y1 1), (0, .cells [sl 1 (i1 * 1) n1 k1, sl 1 (i2 * 1) n2 k2] z0 22 1)] 2 Q
 | 0, z0, z1, y1, i1, n1, k1, i2, n2, k2, b, x3_1, o, h, Q, hQ => by cases h
 | fuel + 1, z0, z1, y1, i1, n1, k1, i2, n2, k2, b, x3_1, o, h, Q, hQ => by
  unfold f95_1 at h
  refine XL.succ E0_ok ?_
  refine qQ ?_
  refine rS 1 [(0, s0 0 2), (3, ii x3_1), (9, s0 0 2), (10, ii 2), (11, ii 2), (12, .bool false)] ?_
  refine dQ ?_
  show XQ _ _ _ _ _ _ _ _
  refine sQ ?_
  refine iF (.tmp 12) ?_
  refine XQ.ren (σ' := [(0, s0 0 2), (3, ii x3_1)]) (h' := [(1, rc (encI .i64) b z1 y1 1), (0, .cells [sl 1 (i1 * 1) n1 k1, sl 1 (i2 * 1) n2 k2] z0 22 1)]) (c' := 2) [0, 1] (by decide) rfl ⟨rfl, rfl, trivial⟩ ⟨⟨_, _, rfl, rfl, .inl ⟨rfl, rwI⟩⟩, ⟨_, _, rfl, rfl, .inr ⟨_, _, _, _, rfl, rfl⟩⟩, trivial⟩ rfl ?_
  refine XQ.exit (i := 0) (by kernel_rfl) ?_
  cases h
  exact hQ
def f95_2 (m : Nat) : Nat → Nat → Nat → Nat → Nat → Nat → Nat → List Int → List Int → Option (List Int)
 | 0, _, _, _, _, _, _, _, _ => none
 | fuel + 1, i1, n1, k1, i2, n2, k2, b, lh2_2 =>
  some (lh2_2)
theorem f95_2_ok (m : Nat) : ∀ (fuel : Nat) (z0 : Nat) (z1 : Nat) (y1 : Nat) (i1 : Nat) (n1 : Nat) (k1 : Nat) (i2 : Nat) (n2 : Nat) (k2 : Nat) (b : List Int) (lh2_2 : List Int) (o : (List Int)), f95_2 m fuel i1 n1 k1 i2 n2 k2 b lh2_2 = some o → ∀ Q : QP, Q (.exit 2) [(6, s0 2 o.length)] [(2, rI o), (1, rc (encI .i64) b z1 y1 1), (0, .cells [sl 1 (i1 * 1) n1 k1, sl 1 (i2 * 1) n2 k2] z0 22 1)] 3 → XL E0 36 2 fuel f95_L2 [(6, s0 2 lh2_2.length), (25, s0 0 2), (26, ii 2), (27, ii 2)] [(2, rI lh2_2), (1, rc (encI .i64) b z1 y1 1), (0, .cells [sl 1 (i1 * 1) n1 k1, sl 1 (i2 * 1) n2 k2] z0 22 1)] 3 Q
 | 0, z0, z1, y1, i1, n1, k1, i2, n2, k2, b, lh2_2, o, h, Q, hQ => by cases h
 | fuel + 1, z0, z1, y1, i1, n1, k1, i2, n2, k2, b, lh2_2, o, h, Q, hQ => by
  unfold f95_2 at h
  refine XL.succ E0_ok ?_
  refine qQ ?_
  refine rS 1 [(6, s0 2 lh2_2.length), (25, s0 0 2), (26, ii 2), (27, ii 2), (28, .bool false)] ?_
  refine dQ ?_
  show XQ _ _ _ _ _ _ _ _
  refine sQ ?_
  refine iF (.tmp 28) ?_
  refine XQ.ren (σ' := [(6, s0 2 lh2_2.length)]) (h' := [(2, rI lh2_2), (1, rc (encI .i64) b z1 y1 1), (0, .cells [sl 1 (i1 * 1) n1 k1, sl 1 (i2 * 1) n2 k2] z0 22 1)]) (c' := 3) [0, 1, 2] (by decide) rfl ⟨rfl, trivial⟩ ⟨⟨_, _, rfl, rfl, .inl ⟨rfl, rwI⟩⟩, ⟨_, _, rfl, rfl, .inl ⟨rfl, rwI⟩⟩, ⟨_, _, rfl, rfl, .inr ⟨_, _, _, _, rfl, rfl⟩⟩, trivial⟩ rfl ?_
  refine XQ.exit (i := 2) (by kernel_rfl) ?_
  cases h
  exact hQ
def f95_3 (m : Nat) : Nat → Nat → Nat → Nat → Nat → Nat → Nat → List Int → List Int → Option (List Int)
 | 0, _, _, _, _, _, _, _, _ => none
 | fuel + 1, i1, n1, k1, i2, n2, k2, b, lh2_3 =>
  some (lh2_3)
theorem f95_3_ok (m : Nat) : ∀ (fuel : Nat) (z0 : Nat) (z1 : Nat) (y1 : Nat) (i1 : Nat) (n1 : Nat) (k1 : Nat) (i2 : Nat) (n2 : Nat) (k2 : Nat) (b : List Int) (lh2_3 : List Int) (o : (List Int)), f95_3 m fuel i1 n1 k1 i2 n2 k2 b lh2_3 = some o → ∀ Q : QP, Q (.exit 2) [(6, s0 2 o.length)] [(2, rI o), (1, rc (encI .i64) b z1 y1 1), (0, .cells [sl 1 (i1 * 1) n1 k1, sl 1 (i2 * 1) n2 k2] z0 22 1)] 3 → XL E0 36 2 fuel f95_L3 [(6, s0 2 lh2_3.length), (25, s0 0 2), (26, ii 2), (27, ii 2)] [(2, rI lh2_3), (1, rc (encI .i64) b z1 y1 1), (0, .cells [sl 1 (i1 * 1) n1 k1, sl 1 (i2 * 1) n2 k2] z0 22 1)] 3 Q
 | 0, z0, z1, y1, i1, n1, k1, i2, n2, k2, b, lh2_3, o, h, Q, hQ => by cases h
 | fuel + 1, z0, z1, y1, i1, n1, k1, i2, n2, k2, b, lh2_3, o, h, Q, hQ => by
  unfold f95_3 at h
  refine XL.succ E0_ok ?_
  refine qQ ?_
  refine rS 1 [(6, s0 2 lh2_3.length), (25, s0 0 2), (26, ii 2), (27, ii 2), (28, .bool false)] ?_
  refine dQ ?_
  show XQ _ _ _ _ _ _ _ _
  refine sQ ?_
  refine iF (.tmp 28) ?_
  refine XQ.ren (σ' := [(6, s0 2 lh2_3.length)]) (h' := [(2, rI lh2_3), (1, rc (encI .i64) b z1 y1 1), (0, .cells [sl 1 (i1 * 1) n1 k1, sl 1 (i2 * 1) n2 k2] z0 22 1)]) (c' := 3) [0, 1, 2] (by decide) rfl ⟨rfl, trivial⟩ ⟨⟨_, _, rfl, rfl, .inl ⟨rfl, rwI⟩⟩, ⟨_, _, rfl, rfl, .inl ⟨rfl, rwI⟩⟩, ⟨_, _, rfl, rfl, .inr ⟨_, _, _, _, rfl, rfl⟩⟩, trivial⟩ rfl ?_
  refine XQ.exit (i := 2) (by kernel_rfl) ?_
  cases h
  exact hQ
def f95 (m : Nat) (i1 : Nat) (n1 : Nat) (k1 : Nat) (i2 : Nat) (n2 : Nat) (k2 : Nat) (b : List Int) : Option (List Int) :=
 cond (decide ((w64 (0 + ((n1 : Nat) : Int))) < 0)) (
  none
 ) (
  cond (decide ((w64 ((w64 (0 + ((n1 : Nat) : Int))) + ((n2 : Nat) : Int))) < 0)) (
   none
  ) (
   (f95_1 m m i1 n1 k1 i2 n2 k2 b (w64 ((w64 (0 + ((n1 : Nat) : Int))) + ((n2 : Nat) : Int)))).bind fun o1 =>
    cond (decide (o1 < 0)) (
     none
    ) (
     cond (decide ((w64 (o1 - 0)) > 0)) (
      cond (decide (0 < w64 (o1 - 0)) && Nat.ble ((Int.toNat (w64 (o1 - 0))) * 8) 1000000000 && Nat.ble (Int.toNat (w64 (o1 - 0))) 1000000000) (
       cond (cutOK 0 0 (((Int.toNat (w64 (o1 - 0))) : Nat) : Int) (Int.toNat (w64 (o1 - 0)))) (
        cond (decide (n1 ≤ k1)) (
         cond (decide (i1 + n1 ≤ b.length)) (
          cond (decide (1 ≤ (List.take n1 (List.drop i1 b)).length)) (
           cond (fitsB n1 8) (
            cond (decide (n2 ≤ k2)) (
             cond (decide (i2 + n2 ≤ b.length)) (
              cond (fitsB ((List.take n1 (List.drop i1 b)).length + n2) 8) (
               (f95_2 m m i1 n1 k1 i2 n2 k2 b ((List.take n1 (List.drop i1 b)) ++ (List.take n2 (List.drop i2 b)))).bind fun o2 =>
                some (o2)
              ) none
             ) none
            ) none
           ) none
          ) none
         ) none
        ) none
       ) none
      ) none
     ) (
      cond (decide (n1 ≤ k1)) (
       cond (decide (i1 + n1 ≤ b.length)) (
        cond (fitsB (0 + n1) 8) (
         cond (decide (n2 ≤ k2)) (
          cond (decide (i2 + n2 ≤ b.length)) (
           cond (fitsB ((List.take n1 (List.drop i1 b)).length + n2) 8) (
            (f95_3 m m i1 n1 k1 i2 n2 k2 b ((List.take n1 (List.drop i1 b)) ++ (List.take n2 (List.drop i2 b)))).bind fun o3 =>
             some (o3)
           ) none
          ) none
         ) none
        ) none
       ) none
      ) none
     )
    )
  )
 )

abbrev qua1 (b : List Int) (i1 : Nat) (i2 : Nat) (k1 : Nat) (k2 : Nat) (n1 : Nat) (n2 : Nat) (y1 : Nat) (z0 : Nat) (z1 : Nat) (t : Heap) : Heap := (1, rc (encI .i64) b z1 y1 1) :: (0, .cells [sl 1 (i1 * 1) n1 k1, sl 1 (i2 * 1) n2 k2] z0 22 1) :: t
theorem f95_ok (m : Nat) (z0 : Nat) (z1 : Nat) (y1 : Nat) (i1 : Nat) (n1 : Nat) (k1 : Nat) (i2 : Nat) (n2 : Nat) (k2 : Nat) (b : List Int) (o : List Int) (h : f95 m i1 n1 k1 i2 n2 k2 b = some o) : KC E0 95 [s0 0 2] (qua1 b i1 i2 k1 k2 n1 n2 y1 z0 z1 []) 2 (fun v h' c' => v = s0 2 o.length ∧ h' = [(2, rI o)] ++ (qua1 b i1 i2 k1 k2 n1 n2 y1 z0 z1 []) ∧ c' = 3) := by
 refine KC.bodyN E0_ok (F := Proofs.Tryd.f95) (by kernel_rfl) (code := f95_C95) (by kernel_rfl) (nt := 36) (by kernel_rfl) (rs := [.tmp 2]) (by kernel_rfl) (by kernel_rfl) (σ := [(0, s0 0 2)]) (by kernel_rfl) ?_
 unfold f95 at h
 refine qQ ?_
 refine rS 1 [(0, s0 0 2)] ?_
 refine nQ id ?_
 refine rS 1 [(0, s0 0 2), (3, ii 0)] ?_
 refine dQ ?_
 show XQ _ _ _ _ _ _ _ _
 refine sQ ?_
 refine qQ ?_
 refine rS 3 [(0, s0 0 2), (3, ii 0), (9, s0 0 2), (10, ii 2), (11, ii 0)] ?_
 refine dQ ?_
 show XQ _ _ _ _ _ _ _ _
 refine XQ.block (id := 0) (by kernel_rfl) ?_
 refine XQ.loop (m + 2) (by kernel_rfl) ?_
 refine XL.succ E0_ok ?_
 refine qQ ?_
 refine rS 1 [(0, s0 0 2), (3, ii 0), (9, s0 0 2), (10, ii 2), (11, ii 0), (12, .bool true)] ?_
 refine dQ ?_
 show XQ _ _ _ _ _ _ _ _
 refine sQ ?_
 refine iT (.tmp 12) ?_
 refine kQ ?_
 show XQ _ _ _ _ _ _ _ _
 refine sQ ?_
 refine XQ.block (id := 1) (by kernel_rfl) ?_
 refine qQ ?_
 refine rS 3 [(0, s0 0 2), (3, ii 0), (5, sl 1 (i1 * 1) n1 k1), (9, s0 0 2), (10, ii 2), (11, ii 0)] ?_
 refine nQ id ?_
 refine rS 5 [(0, s0 0 2), (3, ii (w64 (0 + ((n1 : Nat) : Int)))), (9, s0 0 2), (10, ii 2), (11, ii 0)] ?_
 refine nQ id ?_
 refine rS 2 [(0, s0 0 2), (3, ii (w64 (0 + ((n1 : Nat) : Int)))), (9, s0 0 2), (10, ii 2), (11, ii 0), (20, .bool (decide ((w64 (0 + ((n1 : Nat) : Int))) < 0)))] ?_
 refine dQ ?_
 show XQ _ _ _ _ _ _ _ _
 cases b1 : (decide ((w64 (0 + ((n1 : Nat) : Int))) < 0) : Bool) with
 | true =>
  have h := cT b1 h
  refine iT (.tmp 20) ?_
  refine rQ ?_
  cases h
 | false =>
  have h := cF b1 h
  refine iF (.tmp 20) ?_
  refine kQ ?_
  show XQ _ _ _ _ _ _ _ _
  refine rQ ?_
  refine rS 2 [(0, s0 0 2), (3, ii (w64 (0 + ((n1 : Nat) : Int)))), (9, s0 0 2), (10, ii 2), (11, ii 1)] ?_
  refine dQ ?_
  show XL _ _ _ _ _ _ _ _ _
  refine XL.succ E0_ok ?_
  refine qQ ?_
  refine rS 1 [(0, s0 0 2), (3, ii (w64 (0 + ((n1 : Nat) : Int)))), (9, s0 0 2), (10, ii 2), (11, ii 1), (12, .bool true)] ?_
  refine dQ ?_
  show XQ _ _ _ _ _ _ _ _
  refine sQ ?_
  refine iT (.tmp 12) ?_
  refine kQ ?_
  show XQ _ _ _ _ _ _ _ _
  refine sQ ?_
  refine XQ.block (id := 1) (by kernel_rfl) ?_
  refine qQ ?_
  refine rS 3 [(0, s0 0 2), (3, ii (w64 (0 + ((n1 : Nat) : Int)))), (5, sl 1 (i2 * 1) n2 k2), (9, s0 0 2), (10, ii 2), (11, ii 1)] ?_
  refine nQ id ?_
  refine rS 5 [(0, s0 0 2), (3, ii (w64 ((w64 (0 + ((n1 : Nat) : Int))) + ((n2 : Nat) : Int)))), (9, s0 0 2), (10, ii 2), (11, ii 1)] ?_
  refine nQ id ?_
  refine rS 2 [(0, s0 0 2), (3, ii (w64 ((w64 (0 + ((n1 : Nat) : Int))) + ((n2 : Nat) : Int)))), (9, s0 0 2), (10, ii 2), (11, ii 1), (20, .bool (decide ((w64 ((w64 (0 + ((n1 : Nat) : Int))) + ((n2 : Nat) : Int))) < 0)))] ?_
  refine dQ ?_
  show XQ _ _ _ _ _ _ _ _
  cases b2 : (decide ((w64 ((w64 (0 + ((n1 : Nat) : Int))) + ((n2 : Nat) : Int))) < 0) : Bool) with
  | true =>
   have h := cT b2 h
   refine iT (.tmp 20) ?_
   refine rQ ?_
   cases h
  | false =>
   have h := cF b2 h
   refine iF (.tmp 20) ?_
   refine kQ ?_
   show XQ _ _ _ _ _ _ _ _
   refine rQ ?_
   refine rS 2 [(0, s0 0 2), (3, ii (w64 ((w64 (0 + ((n1 : Nat) : Int))) + ((n2 : Nat) : Int)))), (9, s0 0 2), (10, ii 2), (11, ii 2)] ?_
   refine dQ ?_
   show XL _ _ _ _ _ _ _ _ _
   obtain ⟨o1, o1_h, h⟩ := bS h
   refine XL.ren (σ' := [(0, s0 0 2), (3, ii (w64 ((w64 (0 + ((n1 : Nat) : Int))) + ((n2 : Nat) : Int)))), (9, s0 0 2), (10, ii 2), (11, ii 2)]) (h' := (qua1 b i1 i2 k1 k2 n1 n2 y1 z0 z1 [])) (c' := 2) [0, 1] (by decide) rfl ⟨rfl, rfl, rfl, rfl, rfl, trivial⟩ ⟨⟨_, _, rfl, rfl, .inl ⟨rfl, rwI⟩⟩, ⟨_, _, rfl, rfl, .inr ⟨_, _, _, _, rfl, rfl⟩⟩, trivial⟩ rfl ?_
   refine XL.conv (f95_1_ok m m z0 z1 y1 i1 n1 k1 i2 n2 k2 b (w64 ((w64 (0 + ((n1 : Nat) : Int))) + ((n2 : Nat) : Int))) o1 o1_h _ ?_) (by first | with_reducible rfl | simp | rfl)
   show XQ _ _ _ _ _ _ _ _
   refine qQ ?_
   refine rS 1 [(0, s0 0 2), (23, ii o1)] ?_
   refine XR.callK E0_ok [0, 24] rfl (K := 119) (args := [.slice none 0 0, ii o1]) (d := (some (path 12 24))) (by kernel_rfl) ?_
   refine KC.bodyN E0_ok (F := Proofs.Tryd.f119) (by kernel_rfl) (code := f95_C119) (by kernel_rfl) (nt := 27) (by kernel_rfl) (rs := [.tmp 4]) (by kernel_rfl) (by kernel_rfl) (σ := [(0, .slice none 0 0), (1, ii o1)]) (by kernel_rfl) ?_
   refine qQ ?_
   refine rS 1 [(0, .slice none 0 0), (1, ii o1)] ?_
   refine dQ ?_
   show XQ _ _ _ _ _ _ _ _
   refine sQ ?_
   refine qQ ?_
   refine rS 2 [(0, .slice none 0 0), (1, ii o1), (6, .bool (decide (o1 < 0)))] ?_
   refine dQ ?_
   show XQ _ _ _ _ _ _ _ _
   cases b4 : (decide (o1 < 0) : Bool) with
   | true =>
    have h := cT b4 h
    refine iT (.tmp 6) ?_
    refine rQ ?_
    cases h
   | false =>
    have h := cF b4 h
    refine iF (.tmp 6) ?_
    refine kQ ?_
    show XQ _ _ _ _ _ _ _ _
    refine sQ ?_
    refine qQ ?_
    refine rS 8 [(0, .slice none 0 0), (1, ii (w64 (o1 - 0)))] ?_
    refine nQ id ?_
    refine rS 2 [(0, .slice none 0 0), (1, ii (w64 (o1 - 0))), (16, .bool (decide ((w64 (o1 - 0)) > 0)))] ?_
    refine dQ ?_
    show XQ _ _ _ _ _ _ _ _
    cases b5 : (decide ((w64 (o1 - 0)) > 0) : Bool) with
    | true =>
     have h := cT b5 h
     refine iT (.tmp 16) ?_
     refine rQ ?_
     refine rS 5 [(0, .slice none 0 0), (20, .slice none 0 0), (21, ii (w64 (o1 - 0)))] ?_
     cases b6 : (decide (0 < w64 (o1 - 0)) && Nat.ble ((Int.toNat (w64 (o1 - 0))) * 8) 1000000000 && Nat.ble (Int.toNat (w64 (o1 - 0))) 1000000000 : Bool) with
     | false => cases (cF b6 h)
     | true =>
      have h := cT b6 h
      refine XR.ef E0_ok [0, 22] rfl (e_appendZ (bytes := 8) (e := 3) (k := .i64) (s := (src 27 (.tmp 20))) (x := (src 27 (.tmp 21))) (m := w64 (o1 - 0)) (n := (Int.toNat (w64 (o1 - 0)))) (d := (some (path 12 22))) (h' := ((2, rI (List.replicate (Int.toNat (w64 (o1 - 0))) 0)) :: qua1 b i1 i2 k1 k2 n1 n2 y1 z0 z1 [])) (by kernel_rfl) (by kernel_rfl) (by kernel_rfl) b6 rfl (by kernel_rfl)) (σ' := [(0, .slice none 0 0), (22, s0 2 (Int.toNat (w64 (o1 - 0))))]) (by kernel_rfl) ?_
      refine rS 2 [(22, s0 2 (Int.toNat (w64 (o1 - 0)))), (24, ii 0)] ?_
      cases b7 : (cutOK 0 0 (((Int.toNat (w64 (o1 - 0))) : Nat) : Int) (Int.toNat (w64 (o1 - 0))) : Bool) with
      | false => cases (cF b7 h)
      | true =>
       have h := cT b7 h
       refine XR.rd E0_ok [25] rfl (v := sl 2 0 0 (Int.toNat (w64 (o1 - 0)))) (v_cut (nt := 27) (s := 1) (x := (src 27 (.tmp 22))) (lo := none) (hi := (some (.tmp 24))) (mx := none) (b := 2) (o := 0) (len := (Int.toNat (w64 (o1 - 0)))) (cap := (Int.toNat (w64 (o1 - 0)))) (l := none) (u := (some 0)) (m := none) (cs := rowC (encI .i64) (List.replicate (Int.toNat (w64 (o1 - 0))) 0)) (fz := 0) (e := 3) (es := 1) (o' := 0) (len' := 0) (cap' := (Int.toNat (w64 (o1 - 0)))) (d := (some (path 12 25))) (by kernel_rfl) (by kernel_rfl) (by kernel_rfl) (by kernel_rfl) (by kernel_rfl) (by kernel_rfl) (by kernel_rfl) rfl b7 (by simp only [Option.getD_none, Option.getD_some] <;> omega) (by simp only [Option.getD_none, Option.getD_some] <;> omega) (by simp only [Option.getD_none, Option.getD_some] <;> omega)) (σ' := [(25, sl 2 0 0 (Int.toNat (w64 (o1 - 0))))]) (by kernel_rfl) ?_
       refine rS 1 [(0, sl 2 0 0 (Int.toNat (w64 (o1 - 0))))] ?_
       refine nQ id ?_
       refine rS 2 [(4, sl 2 0 0 (Int.toNat (w64 (o1 - 0))))] ?_
       refine dQ ?_
       show XQ _ _ _ _ _ _ _ _
       refine XQ.ret (by kernel_rfl) ?_
       refine ⟨fun i q => (by cases q), sl 2 0 0 (Int.toNat (w64 (o1 - 0))), (by kernel_rfl), ?_⟩
       refine XR.conv (σ' := [(0, s0 0 2), (24, sl 2 0 0 (Int.toNat (w64 (o1 - 0))))]) (h' := ((2, rI (List.replicate (Int.toNat (w64 (o1 - 0))) 0)) :: qua1 b i1 i2 k1 k2 n1 n2 y1 z0 z1 [])) (c' := 3) ?_ (by kernel_rfl)
       refine rS 1 [(0, s0 0 2), (6, sl 2 0 0 (Int.toNat (w64 (o1 - 0))))] ?_
       refine dQ ?_
       show XQ _ _ _ _ _ _ _ _
       refine sQ ?_
       refine qQ ?_
       refine rS 3 [(6, sl 2 0 0 (Int.toNat (w64 (o1 - 0)))), (25, s0 0 2), (26, ii 2), (27, ii 0)] ?_
       refine dQ ?_
       show XQ _ _ _ _ _ _ _ _
       refine XQ.block (id := 2) (by kernel_rfl) ?_
       refine XQ.loop (m + 2) (by kernel_rfl) ?_
       refine XL.succ E0_ok ?_
       refine qQ ?_
       refine rS 1 [(6, sl 2 0 0 (Int.toNat (w64 (o1 - 0)))), (25, s0 0 2), (26, ii 2), (27, ii 0), (28, .bool true)] ?_
       refine dQ ?_
       show XQ _ _ _ _ _ _ _ _
       refine sQ ?_
       refine iT (.tmp 28) ?_
       refine kQ ?_
       show XQ _ _ _ _ _ _ _ _
       refine sQ ?_
       refine XQ.block (id := 3) (by kernel_rfl) ?_
       refine qQ ?_
       refine rS 3 [(6, sl 2 0 0 (Int.toNat (w64 (o1 - 0)))), (8, sl 1 (i1 * 1) n1 k1), (25, s0 0 2), (26, ii 2), (27, ii 0)] ?_
       refine dQ ?_
       show XQ _ _ _ _ _ _ _ _
       refine rQ ?_
       refine rS 2 [(25, s0 0 2), (26, ii 2), (27, ii 0), (31, sl 2 0 0 (Int.toNat (w64 (o1 - 0)))), (32, sl 1 (i1 * 1) n1 k1)] ?_
       cases b8 : (decide (n1 ≤ k1) : Bool) with
       | false => cases (cF b8 h)
       | true =>
        have h := cT b8 h
        cases b9 : (decide (i1 + n1 ≤ b.length) : Bool) with
        | false => cases (cF b9 h)
        | true =>
         have h := cT b9 h
         cases b10 : (decide (1 ≤ (List.take n1 (List.drop i1 b)).length) : Bool) with
         | false => cases (cF b10 h)
         | true =>
          have h := cT b10 h
          cases b11 : (fitsB n1 8 : Bool) with
          | false => cases (cF b11 h)
          | true =>
           have h := cT b11 h
           refine XR.ef E0_ok [25, 26, 27, 33] rfl (e_appendN (encI_ok .i64) (bytes := 8) (e := 3) (x := (src 36 (.tmp 31))) (y := (src 36 (.tmp 32))) (b := 2) (cap := (Int.toNat (w64 (o1 - 0)))) (xs := List.replicate (Int.toNat (w64 (o1 - 0))) 0) (n := n1) (ys := List.take n1 (List.drop i1 b)) (d := (some (path 12 33))) (h' := ((3, rI (List.take n1 (List.drop i1 b))) :: qua1 b i1 i2 k1 k2 n1 n2 y1 z0 z1 [])) (by kernel_rfl) (by kernel_rfl) (by kernel_rfl) (fetch_row (encI_ok .i64) (ys := b) (fz := z1) (e := y1) (es := 1) (by kernel_rfl) i1 n1 n1 k1 rfl (Nat.ble_eq_true_of_le (of_decide_eq_true b8)) (of_decide_eq_true b9) rfl) (by have := of_decide_eq_true b9; simp only [List.length_take, List.length_drop]; omega) b10 rfl b11 (by kernel_rfl)) (σ' := [(25, s0 0 2), (26, ii 2), (27, ii 0), (33, s0 3 ((List.take n1 (List.drop i1 b)).length))]) (by kernel_rfl) ?_
           refine rS 1 [(6, s0 3 ((List.take n1 (List.drop i1 b)).length)), (25, s0 0 2), (26, ii 2), (27, ii 0)] ?_
           refine dQ ?_
           show XQ _ _ _ _ _ _ _ _
           refine rQ ?_
           refine rS 2 [(6, s0 3 ((List.take n1 (List.drop i1 b)).length)), (25, s0 0 2), (26, ii 2), (27, ii 1)] ?_
           refine dQ ?_
           show XL _ _ _ _ _ _ _ _ _
           refine XL.succ E0_ok ?_
           refine qQ ?_
           refine rS 1 [(6, s0 3 ((List.take n1 (List.drop i1 b)).length)), (25, s0 0 2), (26, ii 2), (27, ii 1), (28, .bool true)] ?_
           refine dQ ?_
           show XQ _ _ _ _ _ _ _ _
           refine sQ ?_
           refine iT (.tmp 28) ?_
           refine kQ ?_
           show XQ _ _ _ _ _ _ _ _
           refine sQ ?_
           refine XQ.block (id := 3) (by kernel_rfl) ?_
           refine qQ ?_
           refine rS 3 [(6, s0 3 ((List.take n1 (List.drop i1 b)).length)), (8, sl 1 (i2 * 1) n2 k2), (25, s0 0 2), (26, ii 2), (27, ii 1)] ?_
           refine dQ ?_
           show XQ _ _ _ _ _ _ _ _
           refine rQ ?_
           refine rS 2 [(25, s0 0 2), (26, ii 2), (27, ii 1), (31, s0 3 ((List.take n1 (List.drop i1 b)).length)), (32, sl 1 (i2 * 1) n2 k2)] ?_
           cases b12 : (decide (n2 ≤ k2) : Bool) with
           | false => cases (cF b12 h)
           | true =>
            have h := cT b12 h
            cases b13 : (decide (i2 + n2 ≤ b.length) : Bool) with
            | false => cases (cF b13 h)
            | true =>
             have h := cT b13 h
             cases b14 : (fitsB ((List.take n1 (List.drop i1 b)).length + n2) 8 : Bool) with
             | false => cases (cF b14 h)
             | true =>
              have h := cT b14 h
              refine XR.efX E0_ok [25, 26, 27, 33] rfl (d := (some (path 12 33))) (f := eAppend false 1 8 3 (src 36 (.tmp 31)) (src 36 (.tmp 32))) (by kernel_rfl) (fun _ => eAppendA_ok) (e_appendA (encI_ok .i64) (bytes := 8) (e := 3) (x := (src 36 (.tmp 31))) (y := (src 36 (.tmp 32))) (b := 3) (len := (List.take n1 (List.drop i1 b)).length) (cap := (List.take n1 (List.drop i1 b)).length) (xs := List.take n1 (List.drop i1 b)) (n := n2) (ys := List.take n2 (List.drop i2 b)) (n' := ((List.take n1 (List.drop i1 b)) ++ (List.take n2 (List.drop i2 b))).length) (h' := ((4, rI ((List.take n1 (List.drop i1 b)) ++ (List.take n2 (List.drop i2 b)))) :: qua1 b i1 i2 k1 k2 n1 n2 y1 z0 z1 [])) (Y := sl 1 (i2 * 1) n2 k2) (by kernel_rfl) (by kernel_rfl) (by kernel_rfl) (fetch_row (encI_ok .i64) (ys := b) (fz := z1) (e := y1) (es := 1) (by kernel_rfl) i2 n2 n2 k2 rfl (Nat.ble_eq_true_of_le (of_decide_eq_true b12)) (of_decide_eq_true b13) rfl) (by have := of_decide_eq_true b13; simp only [List.length_take, List.length_drop]; omega) rfl (by simp) (by simp) b14 (by have := of_decide_eq_true b13; simp; omega) (by kernel_rfl)) (σ' := [(25, s0 0 2), (26, ii 2), (27, ii 1), (33, s0 4 (((List.take n1 (List.drop i1 b)) ++ (List.take n2 (List.drop i2 b))).length))]) (by kernel_rfl) ?_
              refine rS 1 [(6, s0 4 (((List.take n1 (List.drop i1 b)) ++ (List.take n2 (List.drop i2 b))).length)), (25, s0 0 2), (26, ii 2), (27, ii 1)] ?_
              refine dQ ?_
              show XQ _ _ _ _ _ _ _ _
              refine rQ ?_
              refine rS 2 [(6, s0 4 (((List.take n1 (List.drop i1 b)) ++ (List.take n2 (List.drop i2 b))).length)), (25, s0 0 2), (26, ii 2), (27, ii 2)] ?_
              refine dQ ?_
              show XL _ _ _ _ _ _ _ _ _
              obtain ⟨o2, o2_h, h⟩ := bS h
              refine XL.ren (σ' := [(6, s0 2 (((List.take n1 (List.drop i1 b)) ++ (List.take n2 (List.drop i2 b))).length)), (25, s0 0 2), (26, ii 2), (27, ii 2)]) (h' := ((2, rI ((List.take n1 (List.drop i1 b)) ++ (List.take n2 (List.drop i2 b)))) :: qua1 b i1 i2 k1 k2 n1 n2 y1 z0 z1 [])) (c' := 3) [0, 1, 4] (by decide) rfl ⟨rfl, rfl, rfl, rfl, trivial⟩ ⟨⟨_, _, rfl, rfl, .inl ⟨rfl, rwI⟩⟩, ⟨_, _, rfl, rfl, .inl ⟨rfl, rwI⟩⟩, ⟨_, _, rfl, rfl, .inr ⟨_, _, _, _, rfl, rfl⟩⟩, trivial⟩ rfl ?_
              refine XL.conv (f95_2_ok m m z0 z1 y1 i1 n1 k1 i2 n2 k2 b ((List.take n1 (List.drop i1 b)) ++ (List.take n2 (List.drop i2 b))) o2 o2_h _ ?_) (by first | with_reducible rfl | simp | rfl)
              show XQ _ _ _ _ _ _ _ _
              refine qQ ?_
              refine rS 2 [(2, s0 2 o2.length)] ?_
              refine dQ ?_
              show XQ _ _ _ _ _ _ _ _
              refine XQ.ren (σ' := [(2, s0 2 o2.length)]) (h' := ((2, rI o2) :: qua1 b i1 i2 k1 k2 n1 n2 y1 z0 z1 [])) (c' := 3) [0, 1, 2] (by decide) rfl ⟨rfl, trivial⟩ ⟨⟨_, _, rfl, rfl, .inl ⟨rfl, rwI⟩⟩, ⟨_, _, rfl, rfl, .inl ⟨rfl, rwI⟩⟩, ⟨_, _, rfl, rfl, .inr ⟨_, _, _, _, rfl, rfl⟩⟩, trivial⟩ rfl ?_
              refine XQ.ret (by kernel_rfl) ?_
              have h := Option.some.inj h
              subst h
              exact ⟨fun i q => (by cases q), s0 2 o2.length, (by kernel_rfl), (by kernel_rfl), (by kernel_rfl), rfl⟩
    | false =>
     have h := cF b5 h
     refine iF (.tmp 16) ?_
     refine kQ ?_
     show XQ _ _ _ _ _ _ _ _
     refine qQ ?_
     refine rS 2 [(4, .slice none 0 0)] ?_
     refine dQ ?_
     show XQ _ _ _ _ _ _ _ _
     refine XQ.ret (by kernel_rfl) ?_
     refine ⟨fun i q => (by cases q), .slice none 0 0, (by kernel_rfl), ?_⟩
     refine XR.conv (σ' := [(0, s0 0 2), (24, .slice none 0 0)]) (h' := (qua1 b i1 i2 k1 k2 n1 n2 y1 z0 z1 [])) (c' := 2) ?_ (by kernel_rfl)
     refine rS 1 [(0, s0 0 2), (6, .slice none 0 0)] ?_
     refine dQ ?_
     show XQ _ _ _ _ _ _ _ _
     refine XQ.ghost 3 1 rfl (σ' := [(0, s0 0 2), (6, s0 2 0)]) (h' := (qua1 b i1 i2 k1 k2 n1 n2 y1 z0 z1 [])) ⟨rfl, rfl, trivial⟩ ⟨⟨_, rfl, .inl rfl⟩, ⟨_, rfl, .inl rfl⟩, trivial⟩ ?_
     refine XQ.conv (σ' := [(0, s0 0 2), (6, s0 2 0)]) (h' := ((2, rI []) :: qua1 b i1 i2 k1 k2 n1 n2 y1 z0 z1 [])) (c' := 3) ?_ (by kernel_rfl)
     refine sQ ?_
     refine qQ ?_
     refine rS 3 [(6, s0 2 0), (25, s0 0 2), (26, ii 2), (27, ii 0)] ?_
     refine dQ ?_
     show XQ _ _ _ _ _ _ _ _
     refine XQ.block (id := 2) (by kernel_rfl) ?_
     refine XQ.loop (m + 2) (by kernel_rfl) ?_
     refine XL.succ E0_ok ?_
     refine qQ ?_
     refine rS 1 [(6, s0 2 0), (25, s0 0 2), (26, ii 2), (27, ii 0), (28, .bool true)] ?_
     refine dQ ?_
     show XQ _ _ _ _ _ _ _ _
     refine sQ ?_
     refine iT (.tmp 28) ?_
     refine kQ ?_
     show XQ _ _ _ _ _ _ _ _
     refine sQ ?_
     refine XQ.block (id := 3) (by kernel_rfl) ?_
     refine qQ ?_
     refine rS 3 [(6, s0 2 0), (8, sl 1 (i1 * 1) n1 k1), (25, s0 0 2), (26, ii 2), (27, ii 0)] ?_
     refine dQ ?_
     show XQ _ _ _ _ _ _ _ _
     refine rQ ?_
     refine rS 2 [(25, s0 0 2), (26, ii 2), (27, ii 0), (31, s0 2 0), (32, sl 1 (i1 * 1) n1 k1)] ?_
     cases b16 : (decide (n1 ≤ k1) : Bool) with
     | false => cases (cF b16 h)
     | true =>
      have h := cT b16 h
      cases b17 : (decide (i1 + n1 ≤ b.length) : Bool) with
      | false => cases (cF b17 h)
      | true =>
       have h := cT b17 h
       cases b18 : (fitsB (0 + n1) 8 : Bool) with
       | false => cases (cF b18 h)
       | true =>
        have h := cT b18 h
        refine XR.efX E0_ok [25, 26, 27, 33] rfl (d := (some (path 12 33))) (f := eAppend false 1 8 3 (src 36 (.tmp 31)) (src 36 (.tmp 32))) (by kernel_rfl) (fun _ => eAppendA_ok) (e_appendA (encI_ok .i64) (bytes := 8) (e := 3) (x := (src 36 (.tmp 31))) (y := (src 36 (.tmp 32))) (b := 2) (len := 0) (cap := 0) (xs := []) (n := n1) (ys := List.take n1 (List.drop i1 b)) (n' := (List.take n1 (List.drop i1 b)).length) (h' := ((3, rI (List.take n1 (List.drop i1 b))) :: qua1 b i1 i2 k1 k2 n1 n2 y1 z0 z1 [])) (Y := sl 1 (i1 * 1) n1 k1) (by kernel_rfl) (by kernel_rfl) (by kernel_rfl) (fetch_row (encI_ok .i64) (ys := b) (fz := z1) (e := y1) (es := 1) (by kernel_rfl) i1 n1 n1 k1 rfl (Nat.ble_eq_true_of_le (of_decide_eq_true b16)) (of_decide_eq_true b17) rfl) (by have := of_decide_eq_true b17; simp only [List.length_take, List.length_drop]; omega) rfl (by simp) (by simp) b18 (by have := of_decide_eq_true b17; simp; omega) (by kernel_rfl)) (σ' := [(25, s0 0 2), (26, ii 2), (27, ii 0), (33, s0 3 ((List.take n1 (List.drop i1 b)).length))]) (by kernel_rfl) ?_
        refine rS 1 [(6, s0 3 ((List.take n1 (List.drop i1 b)).length)), (25, s0 0 2), (26, ii 2), (27, ii 0)] ?_
        refine dQ ?_
        show XQ _ _ _ _ _ _ _ _
        refine rQ ?_
        refine rS 2 [(6, s0 3 ((List.take n1 (List.drop i1 b)).length)), (25, s0 0 2), (26, ii 2), (27, ii 1)] ?_
        refine dQ ?_
        show XL _ _ _ _ _ _ _ _ _
        refine XL.succ E0_ok ?_
        refine qQ ?_
        refine rS 1 [(6, s0 3 ((List.take n1 (List.drop i1 b)).length)), (25, s0 0 2), (26, ii 2), (27, ii 1), (28, .bool true)] ?_
        refine dQ ?_
        show XQ _ _ _ _ _ _ _ _
        refine sQ ?_
        refine iT (.tmp 28) ?_
        refine kQ ?_
        show XQ _ _ _ _ _ _ _ _
        refine sQ ?_
        refine XQ.block (id := 3) (by kernel_rfl) ?_
        refine qQ ?_
        refine rS 3 [(6, s0 3 ((List.take n1 (List.drop i1 b)).length)), (8, sl 1 (i2 * 1) n2 k2), (25, s0 0 2), (26, ii 2), (27, ii 1)] ?_
        refine dQ ?_
        show XQ _ _ _ _ _ _ _ _
        refine rQ ?_
        refine rS 2 [(25, s0 0 2), (26, ii 2), (27, ii 1), (31, s0 3 ((List.take n1 (List.drop i1 b)).length)), (32, sl 1 (i2 * 1) n2 k2)] ?_
        cases b19 : (decide (n2 ≤ k2) : Bool) with
        | false => cases (cF b19 h)
        | true =>
         have h := cT b19 h
         cases b20 : (decide (i2 + n2 ≤ b.length) : Bool) with
         | false => cases (cF b20 h)
         | true =>
          have h := cT b20 h
          cases b21 : (fitsB ((List.take n1 (List.drop i1 b)).length + n2) 8 : Bool) with
          | false => cases (cF b21 h)
          | true =>
           have h := cT b21 h
           refine XR.efX E0_ok [25, 26, 27, 33] rfl (d := (some (path 12 33))) (f := eAppend false 1 8 3 (src 36 (.tmp 31)) (src 36 (.tmp 32))) (by kernel_rfl) (fun _ => eAppendA_ok) (e_appendA (encI_ok .i64) (bytes := 8) (e := 3) (x := (src 36 (.tmp 31))) (y := (src 36 (.tmp 32))) (b := 3) (len := (List.take n1 (List.drop i1 b)).length) (cap := (List.take n1 (List.drop i1 b)).length) (xs := List.take n1 (List.drop i1 b)) (n := n2) (ys := List.take n2 (List.drop i2 b)) (n' := ((List.take n1 (List.drop i1 b)) ++ (List.take n2 (List.drop i2 b))).length) (h' := ((4, rI ((List.take n1 (List.drop i1 b)) ++ (List.take n2 (List.drop i2 b)))) :: qua1 b i1 i2 k1 k2 n1 n2 y1 z0 z1 [])) (Y := sl 1 (i2 * 1) n2 k2) (by kernel_rfl) (by kernel_rfl) (by kernel_rfl) (fetch_row (encI_ok .i64) (ys := b) (fz := z1) (e := y1) (es := 1) (by kernel_rfl) i2 n2 n2 k2 rfl (Nat.ble_eq_true_of_le (of_decide_eq_true b19)) (of_decide_eq_true b20) rfl) (by have := of_decide_eq_true b20; simp only [List.length_take, List.length_drop]; omega) rfl (by simp) (by simp) b21 (by have := of_decide_eq_true b20; simp; omega) (by kernel_rfl)) (σ' := [(25, s0 0 2), (26, ii 2), (27, ii 1), (33, s0 4 (((List.take n1 (List.drop i1 b)) ++ (List.take n2 (List.drop i2 b))).length))]) (by kernel_rfl) ?_
           refine rS 1 [(6, s0 4 (((List.take n1 (List.drop i1 b)) ++ (List.take n2 (List.drop i2 b))).length)), (25, s0 0 2), (26, ii 2), (27, ii 1)] ?_
           refine dQ ?_
           show XQ _ _ _ _ _ _ _ _
           refine rQ ?_
           refine rS 2 [(6, s0 4 (((List.take n1 (List.drop i1 b)) ++ (List.take n2 (List.drop i2 b))).length)), (25, s0 0 2), (26, ii 2), (27, ii 2)] ?_
           refine dQ ?_
           show XL _ _ _ _ _ _ _ _ _
           obtain ⟨o3, o3_h, h⟩ := bS h
           refine XL.ren (σ' := [(6, s0 2 (((List.take n1 (List.drop i1 b)) ++ (List.take n2 (List.drop i2 b))).length)), (25, s0 0 2), (26, ii 2), (27, ii 2)]) (h' := ((2, rI ((List.take n1 (List.drop i1 b)) ++ (List.take n2 (List.drop i2 b)))) :: qua1 b i1 i2 k1 k2 n1 n2 y1 z0 z1 [])) (c' := 3) [0, 1, 4] (by decide) rfl ⟨rfl, rfl, rfl, rfl, trivial⟩ ⟨⟨_, _, rfl, rfl, .inl ⟨rfl, rwI⟩⟩, ⟨_, _, rfl, rfl, .inl ⟨rfl, rwI⟩⟩, ⟨_, _, rfl, rfl, .inr ⟨_, _, _, _, rfl, rfl⟩⟩, trivial⟩ rfl ?_
           refine XL.conv (f95_3_ok m m z0 z1 y1 i1 n1 k1 i2 n2 k2 b ((List.take n1 (List.drop i1 b)) ++ (List.take n2 (List.drop i2 b))) o3 o3_h _ ?_) (by first | with_reducible rfl | simp | rfl)
           show XQ _ _ _ _ _ _ _ _
           refine qQ ?_
           refine rS 2 [(2, s0 2 o3.length)] ?_
           refine dQ ?_
           show XQ _ _ _ _ _ _ _ _
           refine XQ.ren (σ' := [(2, s0 2 o3.length)]) (h' := ((2, rI o3) :: qua1 b i1 i2 k1 k2 n1 n2 y1 z0 z1 [])) (c' := 3) [0, 1, 2] (by decide) rfl ⟨rfl, trivial⟩ ⟨⟨_, _, rfl, rfl, .inl ⟨rfl, rwI⟩⟩, ⟨_, _, rfl, rfl, .inl ⟨rfl, rwI⟩⟩, ⟨_, _, rfl, rfl, .inr ⟨_, _, _, _, rfl, rfl⟩⟩, trivial⟩ rfl ?_
           refine XQ.ret (by kernel_rfl) ?_
           have h := Option.some.inj h
           subst h
           exact ⟨fun i q => (by cases q), s0 2 o3.length, (by kernel_rfl), (by kernel_rfl), (by kernel_rfl), rfl⟩
noncomputable def f70_C70 : Code := Proofs.Tryd.f70.body.getD .skip
noncomputable def f70_L1 : Code := lft (lft (rgt (lft (rgt (rgt f70_C70)))))
noncomputable def f70_L2 : Code := lft (lft (rgt (lft (rgt (rgt (rgt (lft (lft (rgt (rgt f70_L1))))))))))
def f70_2 (m : Nat) : Nat → Int → Nat → Nat → Nat → List Int → Nat → Nat → Nat → Int → Int → Int → List Int → Option (List Int)
 | 0, _, _, _, _, _, _, _, _, _, _, _, _ => none
 | fuel + 1, a, i1, n1, k1, b, i2, n2, k2, x16_1, x17_1, x9_2, lh1_2 =>
  cond (x9_2 != 0) (
   cond (tzC x9_2) (
    cond (inRow (w64 (((n1 : Nat) : Int) + (tzF x9_2))) lh1_2.length) (
     f70_2 m fuel a i1 n1 k1 b i2 n2 k2 x16_1 x17_1 (andV .u64 x9_2 (IntKind.wrap .u64 (x9_2 - 1))) (List.set lh1_2 (Int.toNat (w64 (((n1 : Nat) : Int) + (tzF x9_2)))) (w64 ((List.getD lh1_2 (Int.toNat (w64 (((n1 : Nat) : Int) + (tzF x9_2)))) 0) - 1)))
    ) none
   ) none
  ) (
   some (lh1_2)
  )

abbrev qua2 (a : Int) (i1 : Nat) (i2 : Nat) (k1 : Nat) (k2 : Nat) (lh1_2 : List Int) (n1 : Nat) (n2 : Nat) (x16_1 : Int) (x17_1 : Int) (x9_2 : Int) (t : St) : St := (0, ii a) :: (1, sl 0 (i1 * 1) n1 k1) :: (2, sl 0 (i2 * 1) n2 k2) :: (8, s0 1 lh1_2.length) :: (9, uu x9_2) :: (16, uu x16_1) :: (17, uu x17_1) :: t
theorem f70_2_ok (m : Nat) : ∀ (fuel : Nat) (a : Int) (z0 : Nat) (y0 : Nat) (i1 : Nat) (n1 : Nat) (k1 : Nat) (b : List Int) (i2 : Nat) (n2 : Nat) (k2 : Nat) (x16_1 : Int) (x17_1 : Int) (x9_2 : Int) (lh1_2 : List Int) (o : (List Int)), f70_2 m fuel a i1 n1 k1 b i2 n2 k2 x16_1 x17_1 x9_2 lh1_2 = some o → ∀ Q : QP, Q (.exit 2) [(0, ii a), (1, sl 0 (i1 * 1) n1 k1), (2, sl 0 (i2 * 1) n2 k2), (8, s0 1 o.length), (16, uu x16_1), (17, uu x17_1)] [(1, rI o), (0, rc (encI .i64) b z0 y0 1)] 2 → XL (keepEnv E0) 55 1 fuel f70_L2 (qua2 a i1 i2 k1 k2 lh1_2 n1 n2 x16_1 x17_1 x9_2 []) [(1, rI lh1_2), (0, rc (encI .i64) b z0 y0 1)] 2 Q
 | 0, a, z0, y0, i1, n1, k1, b, i2, n2, k2, x16_1, x17_1, x9_2, lh1_2, o, h, Q, hQ => by cases h
 | fuel + 1, a, z0, y0, i1, n1, k1, b, i2, n2, k2, x16_1, x17_1, x9_2, lh1_2, o, h, Q, hQ => by
  unfold f70_2 at h
  refine XL.succ kE ?_
  refine sQk ?_
  refine sQk ?_
  refine rQ ?_
  refine rSk 2 (qua2 a i1 i2 k1 k2 lh1_2 n1 n2 x16_1 x17_1 x9_2 [(30, .bool (x9_2 != 0))]) ?_
  refine dQ ?_
  show XQ _ _ _ _ _ _ _ _
  cases b1 : (x9_2 != 0 : Bool) with
  | true =>
   have h := cT b1 h
   refine iT (.tmp 30) ?_
   refine kQ ?_
   show XQ _ _ _ _ _ _ _ _
   refine sQk ?_
   refine XQ.block (id := 3) (by kernel_rfl) ?_
   refine rQ ?_
   refine rSk 4 (qua2 a i1 i2 k1 k2 lh1_2 n1 n2 x16_1 x17_1 x9_2 [(35, s0 1 lh1_2.length), (37, ii ((n1 : Nat) : Int)), (38, uu x9_2)]) ?_
   cases b2 : (tzC x9_2 : Bool) with
   | false => cases (cF b2 h)
   | true =>
    have h := cT b2 h
    refine XR.call kE [0, 1, 2, 8, 9, 16, 17, 35, 37, 39] rfl (K := 96) (args := [uu x9_2]) (d := (some (path 12 39))) (by kernel_rfl) (KC.of_calls kE (F := Proofs.Tryd.f96) (v := ii (tzF x9_2)) (by kernel_rfl) rfl rfl (tzF_ok b2)) ?_
    rintro _ _ _ ⟨rfl, rfl, rfl⟩
    refine XR.conv (σ' := (qua2 a i1 i2 k1 k2 lh1_2 n1 n2 x16_1 x17_1 x9_2 [(35, s0 1 lh1_2.length), (37, ii ((n1 : Nat) : Int)), (39, ii (tzF x9_2))])) (h' := [(1, rI lh1_2), (0, rc (encI .i64) b z0 y0 1)]) (c' := 2) ?_ (by kernel_rfl)
    refine rSk 1 (qua2 a i1 i2 k1 k2 lh1_2 n1 n2 x16_1 x17_1 x9_2 [(35, s0 1 lh1_2.length), (40, ii (w64 (((n1 : Nat) : Int) + (tzF x9_2))))]) ?_
    cases b3 : (inRow (w64 (((n1 : Nat) : Int) + (tzF x9_2))) lh1_2.length : Bool) with
    | false => cases (cF b3 h)
    | true =>
     have h := cT b3 h
     refine XR.rd kE [0, 1, 2, 8, 9, 16, 17, 35, 40, 41] rfl (v := pp 1 ((Int.toNat (w64 (((n1 : Nat) : Int) + (tzF x9_2)))) * 1)) (v_idx (s := 1) (x := (src 55 (.tmp 35))) (y := (src 55 (.tmp 40))) (b := 1) (o := 0) (len := lh1_2.length) (cap := lh1_2.length) (ik := .i64) (i := w64 (((n1 : Nat) : Int) + (tzF x9_2))) (off := (Int.toNat (w64 (((n1 : Nat) : Int) + (tzF x9_2)))) * 1) (d := (some (path 12 41))) (by kernel_rfl) (by kernel_rfl) (by kernel_rfl) b3 (by omega)) (σ' := (qua2 a i1 i2 k1 k2 lh1_2 n1 n2 x16_1 x17_1 x9_2 [(35, s0 1 lh1_2.length), (40, ii (w64 (((n1 : Nat) : Int) + (tzF x9_2)))), (41, pp 1 ((Int.toNat (w64 (((n1 : Nat) : Int) + (tzF x9_2)))) * 1))])) (by kernel_rfl) ?_
     refine XR.rd kE [0, 1, 2, 8, 9, 16, 17, 35, 40, 42] rfl (v := ii (List.getD lh1_2 (Int.toNat (w64 (((n1 : Nat) : Int) + (tzF x9_2)))) 0)) (v_load1 (encI_ok .i64) (x := (src 55 (.tmp 41))) (b := 1) (off := (Int.toNat (w64 (((n1 : Nat) : Int) + (tzF x9_2)))) * 1) (xs := lh1_2) (fz := 0) (e := 3) (es := 1) (d := (some (path 12 42))) (by kernel_rfl) (by kernel_rfl) (by kernel_rfl) (Int.toNat (w64 (((n1 : Nat) : Int) + (tzF x9_2)))) 0 0 (by first | with_reducible rfl | omega | rfl) (row_len (inRow_toNat b3) (by simp)) rfl rfl) (σ' := (qua2 a i1 i2 k1 k2 lh1_2 n1 n2 x16_1 x17_1 x9_2 [(35, s0 1 lh1_2.length), (40, ii (w64 (((n1 : Nat) : Int) + (tzF x9_2)))), (42, ii (List.getD lh1_2 (Int.toNat (w64 (((n1 : Nat) : Int) + (tzF x9_2)))) 0))])) (by kernel_rfl) ?_
     refine rSk 1 (qua2 a i1 i2 k1 k2 lh1_2 n1 n2 x16_1 x17_1 x9_2 [(35, s0 1 lh1_2.length), (40, ii (w64 (((n1 : Nat) : Int) + (tzF x9_2)))), (43, ii (w64 ((List.getD lh1_2 (Int.toNat (w64 (((n1 : Nat) : Int) + (tzF x9_2)))) 0) - 1)))]) ?_
     refine XR.rd kE [0, 1, 2, 8, 9, 16, 17, 43, 44] rfl (v := pp 1 ((Int.toNat (w64 (((n1 : Nat) : Int) + (tzF x9_2)))) * 1)) (v_idx (s := 1) (x := (src 55 (.tmp 35))) (y := (src 55 (.tmp 40))) (b := 1) (o := 0) (len := lh1_2.length) (cap := lh1_2.length) (ik := .i64) (i := w64 (((n1 : Nat) : Int) + (tzF x9_2))) (off := (Int.toNat (w64 (((n1 : Nat) : Int) + (tzF x9_2)))) * 1) (d := (some (path 12 44))) (by kernel_rfl) (by kernel_rfl) (by kernel_rfl) b3 (by omega)) (σ' := (qua2 a i1 i2 k1 k2 lh1_2 n1 n2 x16_1 x17_1 x9_2 [(43, ii (w64 ((List.getD lh1_2 (Int.toNat (w64 (((n1 : Nat) : Int) + (tzF x9_2)))) 0) - 1))), (44, pp 1 ((Int.toNat (w64 (((n1 : Nat) : Int) + (tzF x9_2)))) * 1))])) (by kernel_rfl) ?_
     refine XR.ef kE [0, 1, 2, 8, 9, 16, 17] rfl (e_store (encI_ok .i64) (size := 1) (x := (src 55 (.tmp 44))) (y := (src 55 (.tmp 43))) (b := 1) (off := (Int.toNat (w64 (((n1 : Nat) : Int) + (tzF x9_2)))) * 1) (xs := lh1_2) (e := 3) (es := 1) (d := none) (h' := [(1, rI (List.set lh1_2 (Int.toNat (w64 (((n1 : Nat) : Int) + (tzF x9_2)))) (w64 ((List.getD lh1_2 (Int.toNat (w64 (((n1 : Nat) : Int) + (tzF x9_2)))) 0) - 1)))), (0, rc (encI .i64) b z0 y0 1)]) (w := ii (w64 ((List.getD lh1_2 (Int.toNat (w64 (((n1 : Nat) : Int) + (tzF x9_2)))) 0) - 1))) (ws := [ii (w64 ((List.getD lh1_2 (Int.toNat (w64 (((n1 : Nat) : Int) + (tzF x9_2)))) 0) - 1))]) (a := w64 ((List.getD lh1_2 (Int.toNat (w64 (((n1 : Nat) : Int) + (tzF x9_2)))) 0) - 1)) (by kernel_rfl) (by kernel_rfl) (by kernel_rfl) (Int.toNat (w64 (((n1 : Nat) : Int) + (tzF x9_2)))) 0 0 (by first | with_reducible rfl | omega | rfl) (row_len (inRow_toNat b3) (by simp)) (by kernel_rfl) rfl rfl rfl rfl rfl (by kernel_rfl)) (σ' := (qua2 a i1 i2 k1 k2 lh1_2 n1 n2 x16_1 x17_1 x9_2 [])) (by kernel_rfl) ?_
     refine dQ ?_
     show XQ _ _ _ _ _ _ _ _
     refine rQ ?_
     refine rSk 5 [(0, ii a), (1, sl 0 (i1 * 1) n1 k1), (2, sl 0 (i2 * 1) n2 k2), (8, s0 1 lh1_2.length), (9, uu (andV .u64 x9_2 (IntKind.wrap .u64 (x9_2 - 1)))), (16, uu x16_1), (17, uu x17_1)] ?_
     refine dQ ?_
     show XL _ _ _ _ _ _ _ _ _
     refine XL.ren (σ' := [(0, ii a), (1, sl 0 (i1 * 1) n1 k1), (2, sl 0 (i2 * 1) n2 k2), (8, s0 1 lh1_2.length), (9, uu (andV .u64 x9_2 (IntKind.wrap .u64 (x9_2 - 1)))), (16, uu x16_1), (17, uu x17_1)]) (h' := [(1, rI (List.set lh1_2 (Int.toNat (w64 (((n1 : Nat) : Int) + (tzF x9_2)))) (w64 ((List.getD lh1_2 (Int.toNat (w64 (((n1 : Nat) : Int) + (tzF x9_2)))) 0) - 1)))), (0, rc (encI .i64) b z0 y0 1)]) (c' := 2) [0, 1] (by decide) rfl ⟨rfl, rfl, rfl, rfl, rfl, rfl, rfl, trivial⟩ ⟨⟨_, _, rfl, rfl, .inl ⟨rfl, rwI⟩⟩, ⟨_, _, rfl, rfl, .inl ⟨rfl, rwI⟩⟩, trivial⟩ rfl ?_
     refine XL.conv (f70_2_ok m fuel a z0 y0 i1 n1 k1 b i2 n2 k2 x16_1 x17_1 (andV .u64 x9_2 (IntKind.wrap .u64 (x9_2 - 1))) (List.set lh1_2 (Int.toNat (w64 (((n1 : Nat) : Int) + (tzF x9_2)))) (w64 ((List.getD lh1_2 (Int.toNat (w64 (((n1 : Nat) : Int) + (tzF x9_2)))) 0) - 1))) o h Q hQ) (by first | with_reducible rfl | simp | rfl)
  | false =>
   have h := cF b1 h
   refine iF (.tmp 30) ?_
   refine XQ.ren (σ' := [(0, ii a), (1, sl 0 (i1 * 1) n1 k1), (2, sl 0 (i2 * 1) n2 k2), (8, s0 1 lh1_2.length), (16, uu x16_1), (17, uu x17_1)]) (h' := [(1, rI lh1_2), (0, rc (encI .i64) b z0 y0 1)]) (c' := 2) [0, 1] (by decide) rfl ⟨rfl, rfl, rfl, rfl, rfl, rfl, trivial⟩ ⟨⟨_, _, rfl, rfl, .inl ⟨rfl, rwI⟩⟩, ⟨_, _, rfl, rfl, .inl ⟨rfl, rwI⟩⟩, trivial⟩ rfl ?_
   refine XQ.exit (i := 2) (by kernel_rfl) ?_
   cases h
   exact hQ
inductive Of70_1 where
 | r
 | x0
def f70_1 (m : Nat) : Nat → Int → Nat → Nat → Nat → List Int → Nat → Nat → Nat → Int → Int → Option Of70_1
 | 0, _, _, _, _, _, _, _, _, _, _ => none
 | fuel + 1, a, i1, n1, k1, b, i2, n2, k2, x16_1, x17_1 =>
  cond (decide (x17_1 < x16_1)) (
   (f94 m x17_1).bind fun r9 =>
    cond (r9 != a) (
     f70_1 m fuel a i1 n1 k1 b i2 n2 k2 x16_1 (IntKind.wrap .u64 (x17_1 + 1))
    ) (
     (f95 m i1 n1 k1 i2 n2 k2 b).bind fun r10 =>
      (f70_2 m m a i1 n1 k1 b i2 n2 k2 x16_1 x17_1 x17_1 r10).bind fun o2 =>
       cond (decide (1 ≤ o2.length)) (
        cond (fitsB (o2.length + 1) 8) (
         (f97 m (o2 ++ [0])).bind fun r11 =>
          cond (decide (r11 ≥ 0)) (
           (f59 m o2).bind fun r12 =>
            cond (r12) (
             some (.r)
            ) (
             f70_1 m fuel a i1 n1 k1 b i2 n2 k2 x16_1 (IntKind.wrap .u64 (x17_1 + 1))
            )
          ) (
           f70_1 m fuel a i1 n1 k1 b i2 n2 k2 x16_1 (IntKind.wrap .u64 (x17_1 + 1))
          )
        ) none
       ) none
    )
  ) (
   some (.x0)
  )

abbrev qua3 (a : Int) (i1 : Nat) (i2 : Nat) (k1 : Nat) (k2 : Nat) (n1 : Nat) (n2 : Nat) (t : St) : St := (0, ii a) :: (1, sl 0 (i1 * 1) n1 k1) :: (2, sl 0 (i2 * 1) n2 k2) :: t
theorem f70_1_ok (m : Nat) : ∀ (fuel : Nat) (a : Int) (z0 : Nat) (y0 : Nat) (i1 : Nat) (n1 : Nat) (k1 : Nat) (b : List Int) (i2 : Nat) (n2 : Nat) (k2 : Nat) (x16_1 : Int) (x17_1 : Int) (o : Of70_1), f70_1 m fuel a i1 n1 k1 b i2 n2 k2 x16_1 x17_1 = some o → ∀ Q : QP, (match o with | .r => Q .ret [(6, .bool true)] [(0, rc (encI .i64) b z0 y0 1)] 1 | .x0 => Q (.exit 0) [] [(0, rc (encI .i64) b z0 y0 1)] 1) → XL (keepEnv E0) 55 1 fuel f70_L1 (qua3 a i1 i2 k1 k2 n1 n2 [(16, uu x16_1), (17, uu x17_1)]) [(0, rc (encI .i64) b z0 y0 1)] 1 Q
 | 0, a, z0, y0, i1, n1, k1, b, i2, n2, k2, x16_1, x17_1, o, h, Q, hQ => by cases h
 | fuel + 1, a, z0, y0, i1, n1, k1, b, i2, n2, k2, x16_1, x17_1, o, h, Q, hQ => by
  unfold f70_1 at h
  refine XL.succ kE ?_
  refine sQk ?_
  refine rQ ?_
  refine rSk 1 (qua3 a i1 i2 k1 k2 n1 n2 [(16, uu x16_1), (17, uu x17_1), (18, .bool (decide (x17_1 < x16_1)))]) ?_
  refine dQ ?_
  show XQ _ _ _ _ _ _ _ _
  refine sQk ?_
  cases b1 : (decide (x17_1 < x16_1) : Bool) with
  | true =>
   have h := cT b1 h
   refine iT (.tmp 18) ?_
   refine kQ ?_
   show XQ _ _ _ _ _ _ _ _
   refine sQk ?_
   refine XQ.block (id := 1) (by kernel_rfl) ?_
   refine sQk ?_
   refine rQ ?_
   refine rSk 2 (qua3 a i1 i2 k1 k2 n1 n2 [(7, uu x17_1), (16, uu x16_1), (17, uu x17_1)]) ?_
   refine dQ ?_
   show XQ _ _ _ _ _ _ _ _
   refine sQk ?_
   refine sQk ?_
   refine rQ ?_
   refine rSk 1 (qua3 a i1 i2 k1 k2 n1 n2 [(7, uu x17_1), (16, uu x16_1), (17, uu x17_1), (20, uu x17_1)]) ?_
   obtain ⟨r9, r9_h, h⟩ := bS h
   refine XR.call kE [0, 1, 2, 7, 16, 17, 21] rfl (K := 94) (args := [uu x17_1]) (d := (some (path 12 21))) (by kernel_rfl) (KC.of_calls kE (F := Proofs.Tryd.f94) (v := ii r9) (by kernel_rfl) rfl rfl (fun w hI => f94_ok m x17_1 r9 r9_h w hI)) ?_
   rintro _ _ _ ⟨rfl, rfl, rfl⟩
   refine XR.conv (σ' := (qua3 a i1 i2 k1 k2 n1 n2 [(7, uu x17_1), (16, uu x16_1), (17, uu x17_1), (21, ii r9)])) (h' := [(0, rc (encI .i64) b z0 y0 1)]) (c' := 1) ?_ (by kernel_rfl)
   refine rSk 2 (qua3 a i1 i2 k1 k2 n1 n2 [(7, uu x17_1), (16, uu x16_1), (17, uu x17_1), (23, .bool (r9 != a))]) ?_
   refine dQ ?_
   show XQ _ _ _ _ _ _ _ _
   cases b2 : (r9 != a : Bool) with
   | true =>
    have h := cT b2 h
    refine iT (.tmp 23) ?_
    refine XQ.exit (i := 1) (by kernel_rfl) ?_
    show XQ _ _ _ _ _ _ _ _
    refine rQ ?_
    refine rSk 2 (qua3 a i1 i2 k1 k2 n1 n2 [(16, uu x16_1), (17, uu (IntKind.wrap .u64 (x17_1 + 1)))]) ?_
    refine dQ ?_
    show XL _ _ _ _ _ _ _ _ _
    refine XL.conv (f70_1_ok m fuel a z0 y0 i1 n1 k1 b i2 n2 k2 x16_1 (IntKind.wrap .u64 (x17_1 + 1)) o h Q hQ) (by first | with_reducible rfl | simp | rfl)
   | false =>
    have h := cF b2 h
    refine iF (.tmp 23) ?_
    refine kQ ?_
    show XQ _ _ _ _ _ _ _ _
    refine sQk ?_
    refine rQ ?_
    refine rTk 3 (qua3 a i1 i2 k1 k2 n1 n2 [(7, uu x17_1), (16, uu x16_1), (17, uu x17_1), (26, s0 1 2)]) [(1, .cells [sl 0 (i1 * 1) n1 k1, sl 0 (i2 * 1) n2 k2] 0 22 1), (0, rc (encI .i64) b z0 y0 1)] 2 ?_
    obtain ⟨r10, r10_h, h⟩ := bS h
    refine XR.call kE [0, 1, 2, 7, 16, 17, 27] rfl (K := 95) (args := [s0 1 2]) (d := (some (path 12 27))) (by kernel_rfl) (KC.liftH (n0 := 2) (m := 1) (args0 := [s0 0 2]) (h0 := [(1, rc (encI .i64) b (z0 + ((rowC (encI .i64) b).length + 1)) y0 1), (0, .cells [sl 1 (i1 * 1) n1 k1, sl 1 (i2 * 1) n2 k2] (0 + (2 + 1)) 22 1)]) (V := s0 2 r10.length) (V2 := s0 2 r10.length) (H := [(2, rI r10)]) (H2 := [(2, rI r10)]) [1, 0] [3, 4, 2] (KC.keep (f95_ok m (0 + (2 + 1)) (z0 + ((rowC (encI .i64) b).length + 1)) y0 i1 n1 k1 i2 n2 k2 b r10 r10_h)) (by rfl) (by decide) rfl (by kernel_rfl) ⟨⟨_, _, rfl, rfl, .inl ⟨rfl, rwI⟩⟩, ⟨_, _, rfl, rfl, .inr ⟨_, _, _, _, rfl, rfl⟩⟩, trivial⟩ (by decide) (by decide) (by kernel_rfl) ⟨⟨_, _, rfl, rfl, .inl ⟨rfl, rwI⟩⟩, trivial⟩ (by rfl)) ?_
    rintro _ _ _ ⟨rfl, rfl, rfl⟩
    refine XR.conv (σ' := (qua3 a i1 i2 k1 k2 n1 n2 [(7, uu x17_1), (16, uu x16_1), (17, uu x17_1), (27, s0 2 r10.length)])) (h' := [(2, rI r10), (1, .cells [sl 0 (i1 * 1) n1 k1, sl 0 (i2 * 1) n2 k2] 0 22 1), (0, rc (encI .i64) b z0 y0 1)]) (c' := 3) ?_ (by kernel_rfl)
    refine rSk 1 (qua3 a i1 i2 k1 k2 n1 n2 [(7, uu x17_1), (8, s0 2 r10.length), (16, uu x16_1), (17, uu x17_1)]) ?_
    refine dQ ?_
    show XQ _ _ _ _ _ _ _ _
    refine sQk ?_
    refine sQk ?_
    refine rQ ?_
    refine rSk 2 (qua3 a i1 i2 k1 k2 n1 n2 [(8, s0 2 r10.length), (9, uu x17_1), (16, uu x16_1), (17, uu x17_1)]) ?_
    refine dQ ?_
    show XQ _ _ _ _ _ _ _ _
    refine XQ.block (id := 2) (by kernel_rfl) ?_
    refine XQ.loop m (by kernel_rfl) ?_
    obtain ⟨o2, o2_h, h⟩ := bS h
    refine XL.ren (σ' := (qua3 a i1 i2 k1 k2 n1 n2 [(8, s0 1 r10.length), (9, uu x17_1), (16, uu x16_1), (17, uu x17_1)])) (h' := [(1, rI r10), (0, rc (encI .i64) b z0 y0 1)]) (c' := 2) [0, 2] (by decide) rfl ⟨rfl, rfl, rfl, rfl, rfl, rfl, rfl, trivial⟩ ⟨⟨_, _, rfl, rfl, .inl ⟨rfl, rwI⟩⟩, ⟨_, _, rfl, rfl, .inl ⟨rfl, rwI⟩⟩, trivial⟩ rfl ?_
    refine XL.conv (f70_2_ok m m a z0 y0 i1 n1 k1 b i2 n2 k2 x16_1 x17_1 x17_1 r10 o2 o2_h _ ?_) (by first | with_reducible rfl | simp | rfl)
    show XQ _ _ _ _ _ _ _ _
    refine sQk ?_
    refine rQ ?_
    refine rTk 2 (qua3 a i1 i2 k1 k2 n1 n2 [(8, s0 1 o2.length), (16, uu x16_1), (17, uu x17_1), (45, s0 1 o2.length), (46, s0 2 1)]) [(2, .cells [ii 0] 0 3 1), (1, rI o2), (0, rc (encI .i64) b z0 y0 1)] 3 ?_
    cases b4 : (decide (1 ≤ o2.length) : Bool) with
    | false => cases (cF b4 h)
    | true =>
     have h := cT b4 h
     cases b5 : (fitsB (o2.length + 1) 8 : Bool) with
     | false => cases (cF b5 h)
     | true =>
      have h := cT b5 h
      refine XR.ef kE [0, 1, 2, 8, 16, 17, 47] rfl (e_appendK (encI_ok .i64) (bytes := 8) (e := 3) (x := (src 55 (.tmp 45))) (y := (src 55 (.tmp 46))) (b := 1) (len := o2.length) (cap := o2.length) (xs := o2) (m := 0) (ys := [0]) (d := (some (path 12 47))) (n' := (o2 ++ [0]).length) (h' := [(3, rI (o2 ++ [0])), (2, .cells [ii 0] 0 3 1), (1, .was (rowC (encI .i64) o2) 3 0 3 1), (0, rc (encI .i64) b z0 y0 1)]) (by kernel_rfl) (by kernel_rfl) (by kernel_rfl) (by kernel_rfl) rfl (by simp) (by simp) b4 b5 (by simp) (by kernel_rfl)) (σ' := (qua3 a i1 i2 k1 k2 n1 n2 [(8, s0 1 o2.length), (16, uu x16_1), (17, uu x17_1), (47, s0 3 ((o2 ++ [0]).length))])) (by kernel_rfl) ?_
      obtain ⟨r11, r11_h, h⟩ := bS h
      refine XR.call kE [0, 1, 2, 8, 16, 17, 48] rfl (K := 97) (args := [s0 3 ((o2 ++ [0]).length)]) (d := (some (path 12 48))) (by kernel_rfl) (KQ.call (KC.quiet kE (args0 := [s0 0 ((o2 ++ [0]).length)]) (h0 := [(0, rc (encI .i64) (o2 ++ [0]) (0 + ((rowC (encI .i64) (o2 ++ [0])).length + 1)) 3 1)]) (n := 1) (V := ii r11) [3] (KC.keep (f97_ok m (0 + ((rowC (encI .i64) (o2 ++ [0])).length + 1)) 3 (o2 ++ [0]) r11 r11_h)) rfl (by rfl) (by decide) rfl (by kernel_rfl) ⟨⟨_, _, rfl, rfl, .inl ⟨rfl, rwI⟩⟩, trivial⟩) rfl) ?_
      rintro _ _ _ ⟨rfl, rfl, rfl⟩
      refine XR.conv (σ' := (qua3 a i1 i2 k1 k2 n1 n2 [(8, s0 1 o2.length), (16, uu x16_1), (17, uu x17_1), (48, ii r11)])) (h' := [(3, rI (o2 ++ [0])), (2, .cells [ii 0] 0 3 1), (1, .was (rowC (encI .i64) o2) 3 0 3 1), (0, rc (encI .i64) b z0 y0 1)]) (c' := 4) ?_ (by kernel_rfl)
      refine rSk 2 (qua3 a i1 i2 k1 k2 n1 n2 [(8, s0 1 o2.length), (16, uu x16_1), (17, uu x17_1), (50, .bool (decide (r11 ≥ 0)))]) ?_
      cases b6 : (decide (r11 ≥ 0) : Bool) with
      | true =>
       have h := cT b6 h
       refine rSk 1 (qua3 a i1 i2 k1 k2 n1 n2 [(16, uu x16_1), (17, uu x17_1), (50, .bool true), (51, s0 1 o2.length)]) ?_
       refine XR.backR (encI_ok .i64) rfl 1 3 (xs := o2) (ys := [0]) (e := 3) (h' := [(2, .cells [ii 0] 0 3 1), (1, rI o2), (0, rc (encI .i64) b z0 y0 1)]) (by kernel_rfl) (by kernel_rfl) (by kernel_rfl) ?_
       obtain ⟨r12, r12_h, h⟩ := bS h
       refine XR.call kE [0, 1, 2, 16, 17, 50, 52] rfl (K := 59) (args := [s0 1 o2.length]) (d := (some (path 12 52))) (by kernel_rfl) (KQ.call (KC.quiet kE (args0 := [s0 0 o2.length]) (h0 := [(0, rc (encI .i64) o2 (0 + ((rowC (encI .i64) o2).length + 1)) 3 1)]) (n := 1) (V := .bool r12) [1] (KC.keep (f59_ok m (0 + ((rowC (encI .i64) o2).length + 1)) 3 o2 r12 r12_h)) rfl (by rfl) (by decide) rfl (by kernel_rfl) ⟨⟨_, _, rfl, rfl, .inl ⟨rfl, rwI⟩⟩, trivial⟩) rfl) ?_
       rintro _ _ _ ⟨rfl, rfl, rfl⟩
       refine XR.conv (σ' := (qua3 a i1 i2 k1 k2 n1 n2 [(16, uu x16_1), (17, uu x17_1), (50, .bool true), (52, .bool r12)])) (h' := [(2, .cells [ii 0] 0 3 1), (1, rI o2), (0, rc (encI .i64) b z0 y0 1)]) (c' := 4) ?_ (by kernel_rfl)
       refine rSk 1 (qua3 a i1 i2 k1 k2 n1 n2 [(16, uu x16_1), (17, uu x17_1), (53, .bool r12)]) ?_
       refine dQ ?_
       show XQ _ _ _ _ _ _ _ _
       cases b7 : (r12 : Bool) with
       | true =>
        have h := cT b7 h
        refine iT (.tmp 53) ?_
        refine sQk ?_
        refine rQ ?_
        refine rSk 1 [(6, .bool true)] ?_
        refine dQ ?_
        show XQ _ _ _ _ _ _ _ _
        refine XQ.ren (σ' := [(6, .bool true)]) (h' := [(0, rc (encI .i64) b z0 y0 1)]) (c' := 1) [0] (by decide) rfl ⟨rfl, trivial⟩ ⟨⟨_, _, rfl, rfl, .inl ⟨rfl, rwI⟩⟩, trivial⟩ rfl ?_
        refine XQ.ret (by kernel_rfl) ?_
        cases h
        exact hQ
       | false =>
        have h := cF b7 h
        refine iF (.tmp 53) ?_
        refine kQ ?_
        show XQ _ _ _ _ _ _ _ _
        refine rQ ?_
        refine rSk 2 (qua3 a i1 i2 k1 k2 n1 n2 [(16, uu x16_1), (17, uu (IntKind.wrap .u64 (x17_1 + 1)))]) ?_
        refine dQ ?_
        show XL _ _ _ _ _ _ _ _ _
        refine XL.ren (σ' := (qua3 a i1 i2 k1 k2 n1 n2 [(16, uu x16_1), (17, uu (IntKind.wrap .u64 (x17_1 + 1)))])) (h' := [(0, rc (encI .i64) b z0 y0 1)]) (c' := 1) [0] (by decide) rfl ⟨rfl, rfl, rfl, rfl, rfl, trivial⟩ ⟨⟨_, _, rfl, rfl, .inl ⟨rfl, rwI⟩⟩, trivial⟩ rfl ?_
        refine XL.conv (f70_1_ok m fuel a z0 y0 i1 n1 k1 b i2 n2 k2 x16_1 (IntKind.wrap .u64 (x17_1 + 1)) o h Q hQ) (by first | with_reducible rfl | simp | rfl)
      | false =>
       have h := cF b6 h
       refine rSk 3 (qua3 a i1 i2 k1 k2 n1 n2 [(16, uu x16_1), (17, uu x17_1), (53, .bool false)]) ?_
       refine dQ ?_
       show XQ _ _ _ _ _ _ _ _
       refine iF (.tmp 53) ?_
       refine kQ ?_
       show XQ _ _ _ _ _ _ _ _
       refine rQ ?_
       refine rSk 2 (qua3 a i1 i2 k1 k2 n1 n2 [(16, uu x16_1), (17, uu (IntKind.wrap .u64 (x17_1 + 1)))]) ?_
       refine dQ ?_
       show XL _ _ _ _ _ _ _ _ _
       refine XL.ren (σ' := (qua3 a i1 i2 k1 k2 n1 n2 [(16, uu x16_1), (17, uu (IntKind.wrap .u64 (x17_1 + 1)))])) (h' := [(0, rc (encI .i64) b z0 y0 1)]) (c' := 1) [0] (by decide) rfl ⟨rfl, rfl, rfl, rfl, rfl, trivial⟩ ⟨⟨_, _, rfl, rfl, .inl ⟨rfl, rwI⟩⟩, trivial⟩ rfl ?_
       refine XL.conv (f70_1_ok m fuel a z0 y0 i1 n1 k1 b i2 n2 k2 x16_1 (IntKind.wrap .u64 (x17_1 + 1)) o h Q hQ) (by first | with_reducible rfl | simp | rfl)
  | false =>
   have h := cF b1 h
   refine iF (.tmp 18) ?_
   refine XQ.ren (σ' := []) (h' := [(0, rc (encI .i64) b z0 y0 1)]) (c' := 1) [0] (by decide) rfl trivial ⟨⟨_, _, rfl, rfl, .inl ⟨rfl, rwI⟩⟩, trivial⟩ rfl ?_
   refine XQ.exit (i := 0) (by kernel_rfl) ?_
   cases h
   exact hQ
def f70 (m : Nat) (a : Int) (i1 : Nat) (n1 : Nat) (k1 : Nat) (b : List Int) (i2 : Nat) (n2 : Nat) (k2 : Nat) : Option (Bool) :=
 cond (decide (a > ((n2 : Nat) : Int))) (
  some (false)
 ) (
  cond (decide (0 ≤ ((n2 : Nat) : Int))) (
   (f70_1 m m a i1 n1 k1 b i2 n2 k2 (shV true .u64 1 ((n2 : Nat) : Int)) 0).bind fun o1 =>
    match o1 with
    | .r =>
     some (true)
    | .x0 =>
     some (false)
  ) none
 )
theorem f70_ok (m : Nat) (z0 : Nat) (y0 : Nat) (a : Int) (i1 : Nat) (n1 : Nat) (k1 : Nat) (b : List Int) (i2 : Nat) (n2 : Nat) (k2 : Nat) (o : Bool) (h : f70 m a i1 n1 k1 b i2 n2 k2 = some o) : KC E0 70 [ii a, sl 0 (i1 * 1) n1 k1, sl 0 (i2 * 1) n2 k2] [(0, rc (encI .i64) b z0 y0 1)] 1 (fun v _ _ => v = .bool o) := by
 refine KC.unkeep ?_
 refine KC.bodyN kE (F := Proofs.Tryd.f70) (by kernel_rfl) (code := f70_C70) (by kernel_rfl) (nt := 55) (by kernel_rfl) (rs := [.tmp 6]) (by kernel_rfl) (by kernel_rfl) (σ := [(0, ii a), (1, sl 0 (i1 * 1) n1 k1), (2, sl 0 (i2 * 1) n2 k2)]) (by kernel_rfl) ?_
 unfold f70 at h
 refine sQk ?_
 refine rQ ?_
 refine rSk 1 [(0, ii a), (1, sl 0 (i1 * 1) n1 k1), (2, sl 0 (i2 * 1) n2 k2)] ?_
 refine dQ ?_
 show XQ _ _ _ _ _ _ _ _
 refine sQk ?_
 refine sQk ?_
 refine rQ ?_
 refine rSk 4 [(0, ii a), (1, sl 0 (i1 * 1) n1 k1), (2, sl 0 (i2 * 1) n2 k2), (13, .bool (decide (a > ((n2 : Nat) : Int))))] ?_
 refine dQ ?_
 show XQ _ _ _ _ _ _ _ _
 cases b1 : (decide (a > ((n2 : Nat) : Int)) : Bool) with
 | true =>
  have h := cT b1 h
  refine iT (.tmp 13) ?_
  refine sQk ?_
  refine rQ ?_
  refine rSk 1 [(6, .bool false)] ?_
  refine dQ ?_
  show XQ _ _ _ _ _ _ _ _
  refine XQ.ret (by kernel_rfl) ?_
  have h := Option.some.inj h
  subst h
  exact ⟨fun i q => (by cases q), .bool false, (by kernel_rfl), rfl⟩
 | false =>
  have h := cF b1 h
  refine iF (.tmp 13) ?_
  refine kQ ?_
  show XQ _ _ _ _ _ _ _ _
  refine sQk ?_
  refine sQk ?_
  refine rQ ?_
  refine rSk 2 [(0, ii a), (1, sl 0 (i1 * 1) n1 k1), (2, sl 0 (i2 * 1) n2 k2), (15, ii ((n2 : Nat) : Int))] ?_
  cases b2 : (decide (0 ≤ ((n2 : Nat) : Int)) : Bool) with
  | false => cases (cF b2 h)
  | true =>
   have h := cT b2 h
   have e3 : insV (headI ((gsOf (keepEnv E0) 55 (opsOf (lft (lft (rgt (rgt f70_C70)))))).drop 2) (trS 55 [(0, ii a), (1, sl 0 (i1 * 1) n1 k1), (2, sl 0 (i2 * 1) n2 k2), (15, ii ((n2 : Nat) : Int))])) (trS 55 [(0, ii a), (1, sl 0 (i1 * 1) n1 k1), (2, sl 0 (i2 * 1) n2 k2), (15, ii ((n2 : Nat) : Int))]) [(0, rc (encI .i64) b z0 y0 1)] = (match (decide (0 ≤ ((n2 : Nat) : Int)) : Bool) with | true => some (uu (shV true .u64 1 ((n2 : Nat) : Int))) | false => none) := by kernel_rfl
   refine XR.rd kE [0, 1, 2, 16] rfl (e3.trans (by rw [b2])) (σ' := [(0, ii a), (1, sl 0 (i1 * 1) n1 k1), (2, sl 0 (i2 * 1) n2 k2), (16, uu (shV true .u64 1 ((n2 : Nat) : Int)))]) (by kernel_rfl) ?_
   refine rSk 1 [(0, ii a), (1, sl 0 (i1 * 1) n1 k1), (2, sl 0 (i2 * 1) n2 k2), (16, uu (shV true .u64 1 ((n2 : Nat) : Int))), (17, uu 0)] ?_
   refine dQ ?_
   show XQ _ _ _ _ _ _ _ _
   refine XQ.block (id := 0) (by kernel_rfl) ?_
   refine XQ.loop m (by kernel_rfl) ?_
   obtain ⟨o1, o1_h, h⟩ := bS h
   refine XL.ren (σ' := [(0, ii a), (1, sl 0 (i1 * 1) n1 k1), (2, sl 0 (i2 * 1) n2 k2), (16, uu (shV true .u64 1 ((n2 : Nat) : Int))), (17, uu 0)]) (h' := [(0, rc (encI .i64) b z0 y0 1)]) (c' := 1) [0] (by decide) rfl ⟨rfl, rfl, rfl, rfl, rfl, trivial⟩ ⟨⟨_, _, rfl, rfl, .inl ⟨rfl, rwI⟩⟩, trivial⟩ rfl ?_
   cases o1 with
   | r =>
    dsimp only at h
    refine XL.conv (f70_1_ok m m a z0 y0 i1 n1 k1 b i2 n2 k2 (shV true .u64 1 ((n2 : Nat) : Int)) 0 (.r) o1_h _ ?_) (by first | with_reducible rfl | simp | rfl)
    have h := Option.some.inj h
    subst h
    exact ⟨fun i q => (by cases q), .bool true, (by kernel_rfl), rfl⟩
   | x0 =>
    dsimp only at h
    refine XL.conv (f70_1_ok m m a z0 y0 i1 n1 k1 b i2 n2 k2 (shV true .u64 1 ((n2 : Nat) : Int)) 0 (.x0) o1_h _ ?_) (by first | with_reducible rfl | simp | rfl)
    show XQ _ _ _ _ _ _ _ _
    refine sQk ?_
    refine rQ ?_
    refine rSk 1 [(6, .bool false)] ?_
    refine dQ ?_
    show XQ _ _ _ _ _ _ _ _
    refine XQ.ret (by kernel_rfl) ?_
    have h := Option.some.inj h
    subst h
    exact ⟨fun i q => (by cases q), .bool false, (by kernel_rfl), rfl⟩
end Go.Xm
namespace Go.Xm
open Go.RowKit
set_option linter.unusedVariables false
set_option linter.unusedSimpArgs false
set_option maxRecDepth 20000
noncomputable def f23_C23 : Code := Proofs.Tryd.f23.body.getD .skip
noncomputable def f23_L1 : Code := lft (lft (rgt (lft (rgt (rgt (rgt (rgt (rgt f23_C23))))))))
noncomputable def f23_L2 : Code := lft (lft (rgt (rgt (lft (lft (rgt (rgt f23_L1)))))))
def f23_2 (m : Nat) : Nat → List Int → Int → Int → Int → Int → List Int → List (Int × Int) → Option ((List Int) × (List (Int × Int)))
 | 0, _, _, _, _, _, _, _ => none
 | fuel + 1, a, x27_1, x28_1, xh2_0_1, x8_2, lh3_2, lh5_2 =>
  cond (decide (x8_2 < ((lh3_2.length : Nat) : Int))) (
   cond (inRow x28_1 lh3_2.length) (
    cond ((List.getD lh3_2 (Int.toNat x28_1) 0) == 0) (
     f23_2 m fuel a x27_1 x28_1 xh2_0_1 (w64 (x8_2 + 1)) lh3_2 lh5_2
    ) (
     cond (inRow x8_2 lh3_2.length) (
      cond ((List.getD lh3_2 (Int.toNat x8_2) 0) == 0) (
       f23_2 m fuel a x27_1 x28_1 xh2_0_1 (w64 (x8_2 + 1)) lh3_2 lh5_2
      ) (
       cond (cutOK (w64 (x28_1 + 1)) (w64 (x8_2 + 1)) ((lh3_2.length : Nat) : Int) lh3_2.length) (
        cond (cutOK (w64 (x8_2 + 1)) ((lh3_2.length : Nat) : Int) ((lh3_2.length : Nat) : Int) lh3_2.length) (
         (f70 m (List.getD (List.set (List.set lh3_2 (Int.toNat x28_1) (w64 ((List.getD lh3_2 (Int.toNat x28_1) 0) - 1))) (Int.toNat x8_2) (w64 ((List.getD (List.set lh3_2 (Int.toNat x28_1) (w64 ((List.getD lh3_2 (Int.toNat x28_1) 0) - 1))) (Int.toNat x8_2) 0) - 1))) (Int.toNat x28_1) 0) (Int.toNat (w64 (x28_1 + 1))) (Int.toNat (w64 (x8_2 + 1)) - (Int.toNat (w64 (x28_1 + 1)))) (lh3_2.length - (Int.toNat (w64 (x28_1 + 1)))) (List.set (List.set lh3_2 (Int.toNat x28_1) (w64 ((List.getD lh3_2 (Int.toNat x28_1) 0) - 1))) (Int.toNat x8_2) (w64 ((List.getD (List.set lh3_2 (Int.toNat x28_1) (w64 ((List.getD lh3_2 (Int.toNat x28_1) 0) - 1))) (Int.toNat x8_2) 0) - 1))) (Int.toNat (w64 (x8_2 + 1))) (lh3_2.length - (Int.toNat (w64 (x8_2 + 1)))) (lh3_2.length - (Int.toNat (w64 (x8_2 + 1))))).bind fun r11 =>
          cond (r11) (
           cond (fitsB (lh5_2.length + 1) 16) (
            f23_2 m fuel a x27_1 x28_1 xh2_0_1 (w64 (x8_2 + 1)) (List.set (List.set lh3_2 (Int.toNat x28_1) (w64 ((List.getD lh3_2 (Int.toNat x28_1) 0) - 1))) (Int.toNat x8_2) (w64 ((List.getD (List.set lh3_2 (Int.toNat x28_1) (w64 ((List.getD lh3_2 (Int.toNat x28_1) 0) - 1))) (Int.toNat x8_2) 0) - 1))) (lh5_2 ++ [(x28_1, x8_2)])
           ) none
          ) (
           f23_2 m fuel a x27_1 x28_1 xh2_0_1 (w64 (x8_2 + 1)) (List.set (List.set (List.set (List.set lh3_2 (Int.toNat x28_1) (w64 ((List.getD lh3_2 (Int.toNat x28_1) 0) - 1))) (Int.toNat x8_2) (w64 ((List.getD (List.set lh3_2 (Int.toNat x28_1) (w64 ((List.getD lh3_2 (Int.toNat x28_1) 0) - 1))) (Int.toNat x8_2) 0) - 1))) (Int.toNat x28_1) (w64 ((List.getD (List.set (List.set lh3_2 (Int.toNat x28_1) (w64 ((List.getD lh3_2 (Int.toNat x28_1) 0) - 1))) (Int.toNat x8_2) (w64 ((List.getD (List.set lh3_2 (Int.toNat x28_1) (w64 ((List.getD lh3_2 (Int.toNat x28_1) 0) - 1))) (Int.toNat x8_2) 0) - 1))) (Int.toNat x28_1) 0) + 1))) (Int.toNat x8_2) (w64 ((List.getD (List.set (List.set (List.set lh3_2 (Int.toNat x28_1) (w64 ((List.getD lh3_2 (Int.toNat x28_1) 0) - 1))) (Int.toNat x8_2) (w64 ((List.getD (List.set lh3_2 (Int.toNat x28_1) (w64 ((List.getD lh3_2 (Int.toNat x28_1) 0) - 1))) (Int.toNat x8_2) 0) - 1))) (Int.toNat x28_1) (w64 ((List.getD (List.set (List.set lh3_2 (Int.toNat x28_1) (w64 ((List.getD lh3_2 (Int.toNat x28_1) 0) - 1))) (Int.toNat x8_2) (w64 ((List.getD (List.set lh3_2 (Int.toNat x28_1) (w64 ((List.getD lh3_2 (Int.toNat x28_1) 0) - 1))) (Int.toNat x8_2) 0) - 1))) (Int.toNat x28_1) 0) + 1))) (Int.toNat x8_2) 0) + 1))) lh5_2
          )
        ) none
       ) none
      )
     ) none
    )
   ) none
  ) (
   some (lh3_2, lh5_2)
  )

abbrev qub1 (lh3_2 : List Int) (x27_1 : Int) (x28_1 : Int) (x8_2 : Int) (t : St) : St := (2, pp 1 0) :: (5, pp 2 0) :: (6, s0 3 lh3_2.length) :: (7, ii x28_1) :: (8, ii x8_2) :: (27, ii x27_1) :: (28, ii x28_1) :: t

abbrev qub2 (lh3_2 : List Int) (x28_1 : Int) (x8_2 : Int) (t : St) : St := (66, ii (List.getD (List.set (List.set lh3_2 (Int.toNat x28_1) (w64 ((List.getD lh3_2 (Int.toNat x28_1) 0) - 1))) (Int.toNat x8_2) (w64 ((List.getD (List.set lh3_2 (Int.toNat x28_1) (w64 ((List.getD lh3_2 (Int.toNat x28_1) 0) - 1))) (Int.toNat x8_2) 0) - 1))) (Int.toNat x28_1) 0)) :: t

abbrev qub3 (a : List Int) (lh5_2 : List (Int × Int)) (xh2_0_1 : Int) (y0 : Nat) (z0 : Nat) (t : Heap) : Heap := (2, .cells [ii xh2_0_1, s0 5 lh5_2.length] 0 34 0) :: (1, .cells [ii 0, s0 4 0] 0 34 0) :: (0, rc (encI .i64) a z0 y0 1) :: t

abbrev qub4 (lh3_2 : List Int) (x27_1 : Int) (x28_1 : Int) (x8_2 : Int) (t : St) : St := (2, pp 1 0) :: (5, pp 2 0) :: (6, s0 3 lh3_2.length) :: (7, ii x28_1) :: (8, ii (w64 (x8_2 + 1))) :: (27, ii x27_1) :: (28, ii x28_1) :: t
theorem f23_2_ok (m : Nat) : ∀ (fuel : Nat) (z0 : Nat) (y0 : Nat) (a : List Int) (x27_1 : Int) (x28_1 : Int) (xh2_0_1 : Int) (x8_2 : Int) (lh3_2 : List Int) (lh5_2 : List (Int × Int)) (o : ((List Int) × (List (Int × Int)))), f23_2 m fuel a x27_1 x28_1 xh2_0_1 x8_2 lh3_2 lh5_2 = some o → ∀ Q : QP, Q (.exit 3) [(2, pp 1 0), (5, pp 2 0), (6, s0 3 o.1.length), (27, ii x27_1), (28, ii x28_1)] [(5, rc encP o.2 0 55 2), (4, rc encP [] 0 55 2), (3, rI o.1), (2, .cells [ii xh2_0_1, s0 5 o.2.length] 0 34 0), (1, .cells [ii 0, s0 4 0] 0 34 0), (0, rc (encI .i64) a z0 y0 1)] 6 → XL E0 100 1 fuel f23_L2 (qub1 lh3_2 x27_1 x28_1 x8_2 []) ((5, rc encP lh5_2 0 55 2) :: (4, rc encP [] 0 55 2) :: (3, rI lh3_2) :: qub3 a lh5_2 xh2_0_1 y0 z0 []) 6 Q
 | 0, z0, y0, a, x27_1, x28_1, xh2_0_1, x8_2, lh3_2, lh5_2, o, h, Q, hQ => by cases h
 | fuel + 1, z0, y0, a, x27_1, x28_1, xh2_0_1, x8_2, lh3_2, lh5_2, o, h, Q, hQ => by
  unfold f23_2 at h
  refine XL.succ E0_ok ?_
  refine sQ ?_
  refine qQ ?_
  refine rS 4 (qub1 lh3_2 x27_1 x28_1 x8_2 [(36, .bool (decide (x8_2 < ((lh3_2.length : Nat) : Int))))]) ?_
  refine dQ ?_
  show XQ _ _ _ _ _ _ _ _
  cases b1 : (decide (x8_2 < ((lh3_2.length : Nat) : Int)) : Bool) with
  | true =>
   have h := cT b1 h
   refine iT (.tmp 36) ?_
   refine kQ ?_
   show XQ _ _ _ _ _ _ _ _
   refine sQ ?_
   refine XQ.block (id := 4) (by kernel_rfl) ?_
   refine sQ ?_
   refine qQ ?_
   refine rS 2 (qub1 lh3_2 x27_1 x28_1 x8_2 [(39, s0 3 lh3_2.length), (40, ii x28_1)]) ?_
   cases b2 : (inRow x28_1 lh3_2.length : Bool) with
   | false => cases (cF b2 h)
   | true =>
    have h := cT b2 h
    refine XR.rd E0_ok [2, 5, 6, 7, 8, 27, 28, 41] rfl (v := pp 3 ((Int.toNat x28_1) * 1)) (v_idx (s := 1) (x := (src 100 (.tmp 39))) (y := (src 100 (.tmp 40))) (b := 3) (o := 0) (len := lh3_2.length) (cap := lh3_2.length) (ik := .i64) (i := x28_1) (off := (Int.toNat x28_1) * 1) (d := (some (path 12 41))) (by kernel_rfl) (by kernel_rfl) (by kernel_rfl) b2 (by omega)) (σ' := (qub1 lh3_2 x27_1 x28_1 x8_2 [(41, pp 3 ((Int.toNat x28_1) * 1))])) (by kernel_rfl) ?_
    refine XR.rd E0_ok [2, 5, 6, 7, 8, 27, 28, 42] rfl (v := ii (List.getD lh3_2 (Int.toNat x28_1) 0)) (v_load1 (encI_ok .i64) (x := (src 100 (.tmp 41))) (b := 3) (off := (Int.toNat x28_1) * 1) (xs := lh3_2) (fz := 0) (e := 3) (es := 1) (d := (some (path 12 42))) (by kernel_rfl) (by kernel_rfl) (by kernel_rfl) (Int.toNat x28_1) 0 0 (by first | with_reducible rfl | omega | rfl) (row_len (inRow_toNat b2) (by simp)) rfl rfl) (σ' := (qub1 lh3_2 x27_1 x28_1 x8_2 [(42, ii (List.getD lh3_2 (Int.toNat x28_1) 0))])) (by kernel_rfl) ?_
    refine rS 2 (qub1 lh3_2 x27_1 x28_1 x8_2 [(44, .bool ((List.getD lh3_2 (Int.toNat x28_1) 0) == 0))]) ?_
    cases b3 : ((List.getD lh3_2 (Int.toNat x28_1) 0) == 0 : Bool) with
    | true =>
     have h := cT b3 h
     refine rS 6 (qub1 lh3_2 x27_1 x28_1 x8_2 [(50, .bool true)]) ?_
     refine dQ ?_
     show XQ _ _ _ _ _ _ _ _
     refine iT (.tmp 50) ?_
     refine XQ.exit (i := 4) (by kernel_rfl) ?_
     show XQ _ _ _ _ _ _ _ _
     refine rQ ?_
     refine rS 3 (qub4 lh3_2 x27_1 x28_1 x8_2 []) ?_
     refine dQ ?_
     show XL _ _ _ _ _ _ _ _ _
     refine XL.ren (σ' := (qub4 lh3_2 x27_1 x28_1 x8_2 [])) (h' := ((5, rc encP lh5_2 0 55 2) :: (4, rc encP [] 0 55 2) :: (3, rI lh3_2) :: qub3 a lh5_2 xh2_0_1 y0 z0 [])) (c' := 6) [0, 1, 2, 3, 4, 5] (by decide) rfl ⟨rfl, rfl, rfl, rfl, rfl, rfl, rfl, trivial⟩ ⟨⟨_, _, rfl, rfl, .inl ⟨rfl, rwP⟩⟩, ⟨_, _, rfl, rfl, .inl ⟨rfl, rwP⟩⟩, ⟨_, _, rfl, rfl, .inl ⟨rfl, rwI⟩⟩, ⟨_, _, rfl, rfl, .inr ⟨_, _, _, _, rfl, rfl⟩⟩, ⟨_, _, rfl, rfl, .inr ⟨_, _, _, _, rfl, rfl⟩⟩, ⟨_, _, rfl, rfl, .inl ⟨rfl, rwI⟩⟩, trivial⟩ rfl ?_
     refine XL.conv (f23_2_ok m fuel z0 y0 a x27_1 x28_1 xh2_0_1 (w64 (x8_2 + 1)) lh3_2 lh5_2 o h Q hQ) (by first | with_reducible rfl | simp | rfl)
    | false =>
     have h := cF b3 h
     refine rS 2 (qub1 lh3_2 x27_1 x28_1 x8_2 [(44, .bool false), (45, s0 3 lh3_2.length), (46, ii x8_2)]) ?_
     cases b4 : (inRow x8_2 lh3_2.length : Bool) with
     | false => cases (cF b4 h)
     | true =>
      have h := cT b4 h
      refine XR.rd E0_ok [2, 5, 6, 7, 8, 27, 28, 44, 47] rfl (v := pp 3 ((Int.toNat x8_2) * 1)) (v_idx (s := 1) (x := (src 100 (.tmp 45))) (y := (src 100 (.tmp 46))) (b := 3) (o := 0) (len := lh3_2.length) (cap := lh3_2.length) (ik := .i64) (i := x8_2) (off := (Int.toNat x8_2) * 1) (d := (some (path 12 47))) (by kernel_rfl) (by kernel_rfl) (by kernel_rfl) b4 (by omega)) (σ' := (qub1 lh3_2 x27_1 x28_1 x8_2 [(44, .bool false), (47, pp 3 ((Int.toNat x8_2) * 1))])) (by kernel_rfl) ?_
      refine XR.rd E0_ok [2, 5, 6, 7, 8, 27, 28, 44, 48] rfl (v := ii (List.getD lh3_2 (Int.toNat x8_2) 0)) (v_load1 (encI_ok .i64) (x := (src 100 (.tmp 47))) (b := 3) (off := (Int.toNat x8_2) * 1) (xs := lh3_2) (fz := 0) (e := 3) (es := 1) (d := (some (path 12 48))) (by kernel_rfl) (by kernel_rfl) (by kernel_rfl) (Int.toNat x8_2) 0 0 (by first | with_reducible rfl | omega | rfl) (row_len (inRow_toNat b4) (by simp)) rfl rfl) (σ' := (qub1 lh3_2 x27_1 x28_1 x8_2 [(44, .bool false), (48, ii (List.getD lh3_2 (Int.toNat x8_2) 0))])) (by kernel_rfl) ?_
      refine rS 2 (qub1 lh3_2 x27_1 x28_1 x8_2 [(50, .bool ((List.getD lh3_2 (Int.toNat x8_2) 0) == 0))]) ?_
      refine dQ ?_
      show XQ _ _ _ _ _ _ _ _
      cases b5 : ((List.getD lh3_2 (Int.toNat x8_2) 0) == 0 : Bool) with
      | true =>
       have h := cT b5 h
       refine iT (.tmp 50) ?_
       refine XQ.exit (i := 4) (by kernel_rfl) ?_
       show XQ _ _ _ _ _ _ _ _
       refine rQ ?_
       refine rS 3 (qub4 lh3_2 x27_1 x28_1 x8_2 []) ?_
       refine dQ ?_
       show XL _ _ _ _ _ _ _ _ _
       refine XL.ren (σ' := (qub4 lh3_2 x27_1 x28_1 x8_2 [])) (h' := ((5, rc encP lh5_2 0 55 2) :: (4, rc encP [] 0 55 2) :: (3, rI lh3_2) :: qub3 a lh5_2 xh2_0_1 y0 z0 [])) (c' := 6) [0, 1, 2, 3, 4, 5] (by decide) rfl ⟨rfl, rfl, rfl, rfl, rfl, rfl, rfl, trivial⟩ ⟨⟨_, _, rfl, rfl, .inl ⟨rfl, rwP⟩⟩, ⟨_, _, rfl, rfl, .inl ⟨rfl, rwP⟩⟩, ⟨_, _, rfl, rfl, .inl ⟨rfl, rwI⟩⟩, ⟨_, _, rfl, rfl, .inr ⟨_, _, _, _, rfl, rfl⟩⟩, ⟨_, _, rfl, rfl, .inr ⟨_, _, _, _, rfl, rfl⟩⟩, ⟨_, _, rfl, rfl, .inl ⟨rfl, rwI⟩⟩, trivial⟩ rfl ?_
       refine XL.conv (f23_2_ok m fuel z0 y0 a x27_1 x28_1 xh2_0_1 (w64 (x8_2 + 1)) lh3_2 lh5_2 o h Q hQ) (by first | with_reducible rfl | simp | rfl)
      | false =>
       have h := cF b5 h
       refine iF (.tmp 50) ?_
       refine kQ ?_
       show XQ _ _ _ _ _ _ _ _
       refine qQ ?_
       refine rS 2 (qub1 lh3_2 x27_1 x28_1 x8_2 [(51, s0 3 lh3_2.length), (52, ii x28_1)]) ?_
       refine XR.rd E0_ok [2, 5, 6, 7, 8, 27, 28, 51, 52, 53] rfl (v := pp 3 ((Int.toNat x28_1) * 1)) (v_idx (s := 1) (x := (src 100 (.tmp 51))) (y := (src 100 (.tmp 52))) (b := 3) (o := 0) (len := lh3_2.length) (cap := lh3_2.length) (ik := .i64) (i := x28_1) (off := (Int.toNat x28_1) * 1) (d := (some (path 12 53))) (by kernel_rfl) (by kernel_rfl) (by kernel_rfl) b2 (by omega)) (σ' := (qub1 lh3_2 x27_1 x28_1 x8_2 [(51, s0 3 lh3_2.length), (52, ii x28_1), (53, pp 3 ((Int.toNat x28_1) * 1))])) (by kernel_rfl) ?_
       refine XR.rd E0_ok [2, 5, 6, 7, 8, 27, 28, 51, 52, 54] rfl (v := ii (List.getD lh3_2 (Int.toNat x28_1) 0)) (v_load1 (encI_ok .i64) (x := (src 100 (.tmp 53))) (b := 3) (off := (Int.toNat x28_1) * 1) (xs := lh3_2) (fz := 0) (e := 3) (es := 1) (d := (some (path 12 54))) (by kernel_rfl) (by kernel_rfl) (by kernel_rfl) (Int.toNat x28_1) 0 0 (by first | with_reducible rfl | omega | rfl) (row_len (inRow_toNat b2) (by simp)) rfl rfl) (σ' := (qub1 lh3_2 x27_1 x28_1 x8_2 [(51, s0 3 lh3_2.length), (52, ii x28_1), (54, ii (List.getD lh3_2 (Int.toNat x28_1) 0))])) (by kernel_rfl) ?_
       refine rS 1 (qub1 lh3_2 x27_1 x28_1 x8_2 [(51, s0 3 lh3_2.length), (52, ii x28_1), (55, ii (w64 ((List.getD lh3_2 (Int.toNat x28_1) 0) - 1)))]) ?_
       refine XR.rd E0_ok [2, 5, 6, 7, 8, 27, 28, 55, 56] rfl (v := pp 3 ((Int.toNat x28_1) * 1)) (v_idx (s := 1) (x := (src 100 (.tmp 51))) (y := (src 100 (.tmp 52))) (b := 3) (o := 0) (len := lh3_2.length) (cap := lh3_2.length) (ik := .i64) (i := x28_1) (off := (Int.toNat x28_1) * 1) (d := (some (path 12 56))) (by kernel_rfl) (by kernel_rfl) (by kernel_rfl) b2 (by omega)) (σ' := (qub1 lh3_2 x27_1 x28_1 x8_2 [(55, ii (w64 ((List.getD lh3_2 (Int.toNat x28_1) 0) - 1))), (56, pp 3 ((Int.toNat x28_1) * 1))])) (by kernel_rfl) ?_
       refine XR.ef E0_ok [2, 5, 6, 7, 8, 27, 28] rfl (e_store (encI_ok .i64) (size := 1) (x := (src 100 (.tmp 56))) (y := (src 100 (.tmp 55))) (b := 3) (off := (Int.toNat x28_1) * 1) (xs := lh3_2) (e := 3) (es := 1) (d := none) (h' := ((5, rc encP lh5_2 0 55 2) :: (4, rc encP [] 0 55 2) :: (3, rI (List.set lh3_2 (Int.toNat x28_1) (w64 ((List.getD lh3_2 (Int.toNat x28_1) 0) - 1)))) :: qub3 a lh5_2 xh2_0_1 y0 z0 [])) (w := ii (w64 ((List.getD lh3_2 (Int.toNat x28_1) 0) - 1))) (ws := [ii (w64 ((List.getD lh3_2 (Int.toNat x28_1) 0) - 1))]) (a := w64 ((List.getD lh3_2 (Int.toNat x28_1) 0) - 1)) (by kernel_rfl) (by kernel_rfl) (by kernel_rfl) (Int.toNat x28_1) 0 0 (by first | with_reducible rfl | omega | rfl) (row_len (inRow_toNat b2) (by simp)) (by kernel_rfl) rfl rfl rfl rfl rfl (by kernel_rfl)) (σ' := (qub1 lh3_2 x27_1 x28_1 x8_2 [])) (by kernel_rfl) ?_
       refine nQ id ?_
       refine rS 2 (qub1 lh3_2 x27_1 x28_1 x8_2 [(57, s0 3 lh3_2.length), (58, ii x8_2)]) ?_
       refine XR.rd E0_ok [2, 5, 6, 7, 8, 27, 28, 57, 58, 59] rfl (v := pp 3 ((Int.toNat x8_2) * 1)) (v_idx (s := 1) (x := (src 100 (.tmp 57))) (y := (src 100 (.tmp 58))) (b := 3) (o := 0) (len := lh3_2.length) (cap := lh3_2.length) (ik := .i64) (i := x8_2) (off := (Int.toNat x8_2) * 1) (d := (some (path 12 59))) (by kernel_rfl) (by kernel_rfl) (by kernel_rfl) b4 (by omega)) (σ' := (qub1 lh3_2 x27_1 x28_1 x8_2 [(57, s0 3 lh3_2.length), (58, ii x8_2), (59, pp 3 ((Int.toNat x8_2) * 1))])) (by kernel_rfl) ?_
       refine XR.rd E0_ok [2, 5, 6, 7, 8, 27, 28, 57, 58, 60] rfl (v := ii (List.getD (List.set lh3_2 (Int.toNat x28_1) (w64 ((List.getD lh3_2 (Int.toNat x28_1) 0) - 1))) (Int.toNat x8_2) 0)) (v_load1 (encI_ok .i64) (x := (src 100 (.tmp 59))) (b := 3) (off := (Int.toNat x8_2) * 1) (xs := List.set lh3_2 (Int.toNat x28_1) (w64 ((List.getD lh3_2 (Int.toNat x28_1) 0) - 1))) (fz := 0) (e := 3) (es := 1) (d := (some (path 12 60))) (by kernel_rfl) (by kernel_rfl) (by kernel_rfl) (Int.toNat x8_2) 0 0 (by first | with_reducible rfl | omega | rfl) (row_len (inRow_toNat b4) (by simp)) rfl rfl) (σ' := (qub1 lh3_2 x27_1 x28_1 x8_2 [(57, s0 3 lh3_2.length), (58, ii x8_2), (60, ii (List.getD (List.set lh3_2 (Int.toNat x28_1) (w64 ((List.getD lh3_2 (Int.toNat x28_1) 0) - 1))) (Int.toNat x8_2) 0))])) (by kernel_rfl) ?_
       refine rS 1 (qub1 lh3_2 x27_1 x28_1 x8_2 [(57, s0 3 lh3_2.length), (58, ii x8_2), (61, ii (w64 ((List.getD (List.set lh3_2 (Int.toNat x28_1) (w64 ((List.getD lh3_2 (Int.toNat x28_1) 0) - 1))) (Int.toNat x8_2) 0) - 1)))]) ?_
       refine XR.rd E0_ok [2, 5, 6, 7, 8, 27, 28, 61, 62] rfl (v := pp 3 ((Int.toNat x8_2) * 1)) (v_idx (s := 1) (x := (src 100 (.tmp 57))) (y := (src 100 (.tmp 58))) (b := 3) (o := 0) (len := lh3_2.length) (cap := lh3_2.length) (ik := .i64) (i := x8_2) (off := (Int.toNat x8_2) * 1) (d := (some (path 12 62))) (by kernel_rfl) (by kernel_rfl) (by kernel_rfl) b4 (by omega)) (σ' := (qub1 lh3_2 x27_1 x28_1 x8_2 [(61, ii (w64 ((List.getD (List.set lh3_2 (Int.toNat x28_1) (w64 ((List.getD lh3_2 (Int.toNat x28_1) 0) - 1))) (Int.toNat x8_2) 0) - 1))), (62, pp 3 ((Int.toNat x8_2) * 1))])) (by kernel_rfl) ?_
       refine XR.ef E0_ok [2, 5, 6, 7, 8, 27, 28] rfl (e_store (encI_ok .i64) (size := 1) (x := (src 100 (.tmp 62))) (y := (src 100 (.tmp 61))) (b := 3) (off := (Int.toNat x8_2) * 1) (xs := List.set lh3_2 (Int.toNat x28_1) (w64 ((List.getD lh3_2 (Int.toNat x28_1) 0) - 1))) (e := 3) (es := 1) (d := none) (h' := ((5, rc encP lh5_2 0 55 2) :: (4, rc encP [] 0 55 2) :: (3, rI (List.set (List.set lh3_2 (Int.toNat x28_1) (w64 ((List.getD lh3_2 (Int.toNat x28_1) 0) - 1))) (Int.toNat x8_2) (w64 ((List.getD (List.set lh3_2 (Int.toNat x28_1) (w64 ((List.getD lh3_2 (Int.toNat x28_1) 0) - 1))) (Int.toNat x8_2) 0) - 1)))) :: qub3 a lh5_2 xh2_0_1 y0 z0 [])) (w := ii (w64 ((List.getD (List.set lh3_2 (Int.toNat x28_1) (w64 ((List.getD lh3_2 (Int.toNat x28_1) 0) - 1))) (Int.toNat x8_2) 0) - 1))) (ws := [ii (w64 ((List.getD (List.set lh3_2 (Int.toNat x28_1) (w64 ((List.getD lh3_2 (Int.toNat x28_1) 0) - 1))) (Int.toNat x8_2) 0) - 1))]) (a := w64 ((List.getD (List.set lh3_2 (Int.toNat x28_1) (w64 ((List.getD lh3_2 (Int.toNat x28_1) 0) - 1))) (Int.toNat x8_2) 0) - 1)) (by kernel_rfl) (by kernel_rfl) (by kernel_rfl) (Int.toNat x8_2) 0 0 (by first | with_reducible rfl | omega | rfl) (row_len (inRow_toNat b4) (by simp)) (by kernel_rfl) rfl rfl rfl rfl rfl (by kernel_rfl)) (σ' := (qub1 lh3_2 x27_1 x28_1 x8_2 [])) (by kernel_rfl) ?_
       refine dQ ?_
       show XQ _ _ _ _ _ _ _ _
       refine sQ ?_
       refine sQ ?_
       refine XQ.quiet E0_ok (by kernel_rfl) (by kernel_rfl) ?_
       refine XU.run E0_ok 1 2 [2, 5, 6, 7, 8, 27, 28, 63, 64] rfl (σ' := (qub1 lh3_2 x27_1 x28_1 x8_2 [(63, s0 3 lh3_2.length), (64, ii x28_1)])) (by kernel_rfl) ?_
       refine XU.rd E0_ok [2, 5, 6, 7, 8, 27, 28, 65] rfl (v := pp 3 ((Int.toNat x28_1) * 1)) (v_idx (s := 1) (x := (src 100 (.tmp 63))) (y := (src 100 (.tmp 64))) (b := 3) (o := 0) (len := lh3_2.length) (cap := lh3_2.length) (ik := .i64) (i := x28_1) (off := (Int.toNat x28_1) * 1) (d := (some (path 12 65))) (by kernel_rfl) (by kernel_rfl) (by kernel_rfl) b2 (by omega)) (σ' := (qub1 lh3_2 x27_1 x28_1 x8_2 [(65, pp 3 ((Int.toNat x28_1) * 1))])) (by kernel_rfl) ?_
       refine XU.rd E0_ok [2, 5, 6, 7, 8, 27, 28, 66] rfl (v := ii (List.getD (List.set (List.set lh3_2 (Int.toNat x28_1) (w64 ((List.getD lh3_2 (Int.toNat x28_1) 0) - 1))) (Int.toNat x8_2) (w64 ((List.getD (List.set lh3_2 (Int.toNat x28_1) (w64 ((List.getD lh3_2 (Int.toNat x28_1) 0) - 1))) (Int.toNat x8_2) 0) - 1))) (Int.toNat x28_1) 0)) (v_load1 (encI_ok .i64) (x := (src 100 (.tmp 65))) (b := 3) (off := (Int.toNat x28_1) * 1) (xs := List.set (List.set lh3_2 (Int.toNat x28_1) (w64 ((List.getD lh3_2 (Int.toNat x28_1) 0) - 1))) (Int.toNat x8_2) (w64 ((List.getD (List.set lh3_2 (Int.toNat x28_1) (w64 ((List.getD lh3_2 (Int.toNat x28_1) 0) - 1))) (Int.toNat x8_2) 0) - 1))) (fz := 0) (e := 3) (es := 1) (d := (some (path 12 66))) (by kernel_rfl) (by kernel_rfl) (by kernel_rfl) (Int.toNat x28_1) 0 0 (by first | with_reducible rfl | omega | rfl) (row_len (inRow_toNat b2) (by simp)) rfl rfl) (σ' := (qub1 lh3_2 x27_1 x28_1 x8_2 (qub2 lh3_2 x28_1 x8_2 []))) (by kernel_rfl) ?_
       refine XU.run E0_ok 1 5 [2, 5, 6, 7, 8, 27, 28, 66, 67, 69, 71] rfl (σ' := (qub1 lh3_2 x27_1 x28_1 x8_2 (qub2 lh3_2 x28_1 x8_2 [(67, s0 3 lh3_2.length), (69, ii (w64 (x28_1 + 1))), (71, ii (w64 (x8_2 + 1)))]))) (by kernel_rfl) ?_
       cases b6 : (cutOK (w64 (x28_1 + 1)) (w64 (x8_2 + 1)) ((lh3_2.length : Nat) : Int) lh3_2.length : Bool) with
       | false => cases (cF b6 h)
       | true =>
        have h := cT b6 h
        refine XU.rd E0_ok [2, 5, 6, 7, 8, 27, 28, 66, 72] rfl (v := sl 3 ((Int.toNat (w64 (x28_1 + 1))) * 1) (Int.toNat (w64 (x8_2 + 1)) - (Int.toNat (w64 (x28_1 + 1)))) (lh3_2.length - (Int.toNat (w64 (x28_1 + 1))))) (v_cut (nt := 100) (s := 1) (x := (src 100 (.tmp 67))) (lo := (some (.tmp 69))) (hi := (some (.tmp 71))) (mx := none) (b := 3) (o := 0) (len := lh3_2.length) (cap := lh3_2.length) (l := (some (w64 (x28_1 + 1)))) (u := (some (w64 (x8_2 + 1)))) (m := none) (cs := rowC (encI .i64) (List.set (List.set lh3_2 (Int.toNat x28_1) (w64 ((List.getD lh3_2 (Int.toNat x28_1) 0) - 1))) (Int.toNat x8_2) (w64 ((List.getD (List.set lh3_2 (Int.toNat x28_1) (w64 ((List.getD lh3_2 (Int.toNat x28_1) 0) - 1))) (Int.toNat x8_2) 0) - 1)))) (fz := 0) (e := 3) (es := 1) (o' := (Int.toNat (w64 (x28_1 + 1))) * 1) (len' := Int.toNat (w64 (x8_2 + 1)) - (Int.toNat (w64 (x28_1 + 1)))) (cap' := lh3_2.length - (Int.toNat (w64 (x28_1 + 1)))) (d := (some (path 12 72))) (by kernel_rfl) (by kernel_rfl) (by kernel_rfl) (by kernel_rfl) (by kernel_rfl) (by kernel_rfl) (by kernel_rfl) rfl b6 (by simp only [Option.getD_none, Option.getD_some] <;> omega) (by simp only [Option.getD_none, Option.getD_some] <;> omega) (by simp only [Option.getD_none, Option.getD_some] <;> omega)) (σ' := (qub1 lh3_2 x27_1 x28_1 x8_2 (qub2 lh3_2 x28_1 x8_2 [(72, sl 3 ((Int.toNat (w64 (x28_1 + 1))) * 1) (Int.toNat (w64 (x8_2 + 1)) - (Int.toNat (w64 (x28_1 + 1)))) (lh3_2.length - (Int.toNat (w64 (x28_1 + 1)))))]))) (by kernel_rfl) ?_
        refine XU.run E0_ok 1 3 [2, 5, 6, 7, 8, 27, 28, 66, 72, 73, 75] rfl (σ' := (qub1 lh3_2 x27_1 x28_1 x8_2 (qub2 lh3_2 x28_1 x8_2 [(72, sl 3 ((Int.toNat (w64 (x28_1 + 1))) * 1) (Int.toNat (w64 (x8_2 + 1)) - (Int.toNat (w64 (x28_1 + 1)))) (lh3_2.length - (Int.toNat (w64 (x28_1 + 1))))), (73, s0 3 lh3_2.length), (75, ii (w64 (x8_2 + 1)))]))) (by kernel_rfl) ?_
        cases b7 : (cutOK (w64 (x8_2 + 1)) ((lh3_2.length : Nat) : Int) ((lh3_2.length : Nat) : Int) lh3_2.length : Bool) with
        | false => cases (cF b7 h)
        | true =>
         have h := cT b7 h
         refine XU.rd E0_ok [2, 5, 6, 7, 8, 27, 28, 66, 72, 76] rfl (v := sl 3 ((Int.toNat (w64 (x8_2 + 1))) * 1) (lh3_2.length - (Int.toNat (w64 (x8_2 + 1)))) (lh3_2.length - (Int.toNat (w64 (x8_2 + 1))))) (v_cut (nt := 100) (s := 1) (x := (src 100 (.tmp 73))) (lo := (some (.tmp 75))) (hi := none) (mx := none) (b := 3) (o := 0) (len := lh3_2.length) (cap := lh3_2.length) (l := (some (w64 (x8_2 + 1)))) (u := none) (m := none) (cs := rowC (encI .i64) (List.set (List.set lh3_2 (Int.toNat x28_1) (w64 ((List.getD lh3_2 (Int.toNat x28_1) 0) - 1))) (Int.toNat x8_2) (w64 ((List.getD (List.set lh3_2 (Int.toNat x28_1) (w64 ((List.getD lh3_2 (Int.toNat x28_1) 0) - 1))) (Int.toNat x8_2) 0) - 1)))) (fz := 0) (e := 3) (es := 1) (o' := (Int.toNat (w64 (x8_2 + 1))) * 1) (len' := lh3_2.length - (Int.toNat (w64 (x8_2 + 1)))) (cap' := lh3_2.length - (Int.toNat (w64 (x8_2 + 1)))) (d := (some (path 12 76))) (by kernel_rfl) (by kernel_rfl) (by kernel_rfl) (by kernel_rfl) (by kernel_rfl) (by kernel_rfl) (by kernel_rfl) rfl b7 (by simp only [Option.getD_none, Option.getD_some] <;> omega) (by simp only [Option.getD_none, Option.getD_some] <;> omega) (by simp only [Option.getD_none, Option.getD_some] <;> omega)) (σ' := (qub1 lh3_2 x27_1 x28_1 x8_2 (qub2 lh3_2 x28_1 x8_2 [(72, sl 3 ((Int.toNat (w64 (x28_1 + 1))) * 1) (Int.toNat (w64 (x8_2 + 1)) - (Int.toNat (w64 (x28_1 + 1)))) (lh3_2.length - (Int.toNat (w64 (x28_1 + 1))))), (76, sl 3 ((Int.toNat (w64 (x8_2 + 1))) * 1) (lh3_2.length - (Int.toNat (w64 (x8_2 + 1)))) (lh3_2.length - (Int.toNat (w64 (x8_2 + 1)))))]))) (by kernel_rfl) ?_
         obtain ⟨r11, r11_h, h⟩ := bS h
         refine XU.callH E0_ok [2, 5, 6, 7, 8, 27, 28, 77] rfl (K := 70) (args := [ii (List.getD (List.set (List.set lh3_2 (Int.toNat x28_1) (w64 ((List.getD lh3_2 (Int.toNat x28_1) 0) - 1))) (Int.toNat x8_2) (w64 ((List.getD (List.set lh3_2 (Int.toNat x28_1) (w64 ((List.getD lh3_2 (Int.toNat x28_1) 0) - 1))) (Int.toNat x8_2) 0) - 1))) (Int.toNat x28_1) 0), sl 3 ((Int.toNat (w64 (x28_1 + 1))) * 1) (Int.toNat (w64 (x8_2 + 1)) - (Int.toNat (w64 (x28_1 + 1)))) (lh3_2.length - (Int.toNat (w64 (x28_1 + 1)))), sl 3 ((Int.toNat (w64 (x8_2 + 1))) * 1) (lh3_2.length - (Int.toNat (w64 (x8_2 + 1)))) (lh3_2.length - (Int.toNat (w64 (x8_2 + 1))))]) (d := (some (path 12 77))) (V := .bool r11) (by kernel_rfl) rfl (KC.quiet E0_ok (args0 := [ii (List.getD (List.set (List.set lh3_2 (Int.toNat x28_1) (w64 ((List.getD lh3_2 (Int.toNat x28_1) 0) - 1))) (Int.toNat x8_2) (w64 ((List.getD (List.set lh3_2 (Int.toNat x28_1) (w64 ((List.getD lh3_2 (Int.toNat x28_1) 0) - 1))) (Int.toNat x8_2) 0) - 1))) (Int.toNat x28_1) 0), sl 0 ((Int.toNat (w64 (x28_1 + 1))) * 1) (Int.toNat (w64 (x8_2 + 1)) - (Int.toNat (w64 (x28_1 + 1)))) (lh3_2.length - (Int.toNat (w64 (x28_1 + 1)))), sl 0 ((Int.toNat (w64 (x8_2 + 1))) * 1) (lh3_2.length - (Int.toNat (w64 (x8_2 + 1)))) (lh3_2.length - (Int.toNat (w64 (x8_2 + 1))))]) (h0 := [(0, rc (encI .i64) (List.set (List.set lh3_2 (Int.toNat x28_1) (w64 ((List.getD lh3_2 (Int.toNat x28_1) 0) - 1))) (Int.toNat x8_2) (w64 ((List.getD (List.set lh3_2 (Int.toNat x28_1) (w64 ((List.getD lh3_2 (Int.toNat x28_1) 0) - 1))) (Int.toNat x8_2) 0) - 1))) (0 + ((rowC (encI .i64) (List.set (List.set lh3_2 (Int.toNat x28_1) (w64 ((List.getD lh3_2 (Int.toNat x28_1) 0) - 1))) (Int.toNat x8_2) (w64 ((List.getD (List.set lh3_2 (Int.toNat x28_1) (w64 ((List.getD lh3_2 (Int.toNat x28_1) 0) - 1))) (Int.toNat x8_2) 0) - 1)))).length + 1)) 3 1)]) (n := 1) (V := .bool r11) [3] (f70_ok m (0 + ((rowC (encI .i64) (List.set (List.set lh3_2 (Int.toNat x28_1) (w64 ((List.getD lh3_2 (Int.toNat x28_1) 0) - 1))) (Int.toNat x8_2) (w64 ((List.getD (List.set lh3_2 (Int.toNat x28_1) (w64 ((List.getD lh3_2 (Int.toNat x28_1) 0) - 1))) (Int.toNat x8_2) 0) - 1)))).length + 1)) 3 (List.getD (List.set (List.set lh3_2 (Int.toNat x28_1) (w64 ((List.getD lh3_2 (Int.toNat x28_1) 0) - 1))) (Int.toNat x8_2) (w64 ((List.getD (List.set lh3_2 (Int.toNat x28_1) (w64 ((List.getD lh3_2 (Int.toNat x28_1) 0) - 1))) (Int.toNat x8_2) 0) - 1))) (Int.toNat x28_1) 0) (Int.toNat (w64 (x28_1 + 1))) (Int.toNat (w64 (x8_2 + 1)) - (Int.toNat (w64 (x28_1 + 1)))) (lh3_2.length - (Int.toNat (w64 (x28_1 + 1)))) (List.set (List.set lh3_2 (Int.toNat x28_1) (w64 ((List.getD lh3_2 (Int.toNat x28_1) 0) - 1))) (Int.toNat x8_2) (w64 ((List.getD (List.set lh3_2 (Int.toNat x28_1) (w64 ((List.getD lh3_2 (Int.toNat x28_1) 0) - 1))) (Int.toNat x8_2) 0) - 1))) (Int.toNat (w64 (x8_2 + 1))) (lh3_2.length - (Int.toNat (w64 (x8_2 + 1)))) (lh3_2.length - (Int.toNat (w64 (x8_2 + 1)))) r11 r11_h) rfl (by rfl) (by decide) rfl (by kernel_rfl) ⟨⟨_, _, rfl, rfl, .inl ⟨rfl, rwI⟩⟩, trivial⟩) (σ' := (qub1 lh3_2 x27_1 x28_1 x8_2 [(77, .bool r11)])) (by kernel_rfl) ?_
         refine XU.done (by kernel_rfl) ?_
         show XQ _ _ _ _ _ _ _ _
         cases b8 : (r11 : Bool) with
         | true =>
          have h := cT b8 h
          refine iT (.tmp 77) ?_
          refine qQ ?_
          refine rT 6 (qub1 lh3_2 x27_1 x28_1 x8_2 [(79, s0 5 lh5_2.length), (83, s0 6 1)]) ((6, .cells [ii x28_1, ii x8_2] 0 55 2) :: (5, rc encP lh5_2 0 55 2) :: (4, rc encP [] 0 55 2) :: (3, rI (List.set (List.set lh3_2 (Int.toNat x28_1) (w64 ((List.getD lh3_2 (Int.toNat x28_1) 0) - 1))) (Int.toNat x8_2) (w64 ((List.getD (List.set lh3_2 (Int.toNat x28_1) (w64 ((List.getD lh3_2 (Int.toNat x28_1) 0) - 1))) (Int.toNat x8_2) 0) - 1)))) :: qub3 a lh5_2 xh2_0_1 y0 z0 []) 7 ?_
          cases b9 : (fitsB (lh5_2.length + 1) 16 : Bool) with
          | false => cases (cF b9 h)
          | true =>
           have h := cT b9 h
           refine XR.ef E0_ok [2, 5, 6, 7, 8, 27, 28, 84] rfl (e_append encP_ok (bytes := 16) (e := 55) (x := (src 100 (.tmp 79))) (y := (src 100 (.tmp 83))) (b := 5) (len := lh5_2.length) (cap := lh5_2.length) (xs := lh5_2) (m := 0) (ys := [(x28_1, x8_2)]) (d := (some (path 12 84))) (n' := (lh5_2 ++ [(x28_1, x8_2)]).length) (h' := ((7, rc encP (lh5_2 ++ [(x28_1, x8_2)]) 0 55 2) :: (6, .cells [ii x28_1, ii x8_2] 0 55 2) :: (4, rc encP [] 0 55 2) :: (3, rI (List.set (List.set lh3_2 (Int.toNat x28_1) (w64 ((List.getD lh3_2 (Int.toNat x28_1) 0) - 1))) (Int.toNat x8_2) (w64 ((List.getD (List.set lh3_2 (Int.toNat x28_1) (w64 ((List.getD lh3_2 (Int.toNat x28_1) 0) - 1))) (Int.toNat x8_2) 0) - 1)))) :: qub3 a lh5_2 xh2_0_1 y0 z0 [])) (by kernel_rfl) (by kernel_rfl) (by kernel_rfl) (by kernel_rfl) rfl (by simp) (by simp) b9 (by simp) (by kernel_rfl)) (σ' := (qub1 lh3_2 x27_1 x28_1 x8_2 [(84, s0 7 ((lh5_2 ++ [(x28_1, x8_2)]).length))])) (by kernel_rfl) ?_
           refine rT 2 (qub1 lh3_2 x27_1 x28_1 x8_2 []) [(7, rc encP (lh5_2 ++ [(x28_1, x8_2)]) 0 55 2), (6, .cells [ii x28_1, ii x8_2] 0 55 2), (4, rc encP [] 0 55 2), (3, rI (List.set (List.set lh3_2 (Int.toNat x28_1) (w64 ((List.getD lh3_2 (Int.toNat x28_1) 0) - 1))) (Int.toNat x8_2) (w64 ((List.getD (List.set lh3_2 (Int.toNat x28_1) (w64 ((List.getD lh3_2 (Int.toNat x28_1) 0) - 1))) (Int.toNat x8_2) 0) - 1)))), (2, .cells [ii xh2_0_1, s0 7 ((lh5_2 ++ [(x28_1, x8_2)]).length)] 0 34 0), (1, .cells [ii 0, s0 4 0] 0 34 0), (0, rc (encI .i64) a z0 y0 1)] 8 ?_
           refine dQ ?_
           show XQ _ _ _ _ _ _ _ _
           refine XQ.exit (i := 4) (by kernel_rfl) ?_
           show XQ _ _ _ _ _ _ _ _
           refine rQ ?_
           refine rS 3 (qub4 lh3_2 x27_1 x28_1 x8_2 []) ?_
           refine dQ ?_
           show XL _ _ _ _ _ _ _ _ _
           refine XL.ren (σ' := (qub4 lh3_2 x27_1 x28_1 x8_2 [])) (h' := [(5, rc encP (lh5_2 ++ [(x28_1, x8_2)]) 0 55 2), (4, rc encP [] 0 55 2), (3, rI (List.set (List.set lh3_2 (Int.toNat x28_1) (w64 ((List.getD lh3_2 (Int.toNat x28_1) 0) - 1))) (Int.toNat x8_2) (w64 ((List.getD (List.set lh3_2 (Int.toNat x28_1) (w64 ((List.getD lh3_2 (Int.toNat x28_1) 0) - 1))) (Int.toNat x8_2) 0) - 1)))), (2, .cells [ii xh2_0_1, s0 5 ((lh5_2 ++ [(x28_1, x8_2)]).length)] 0 34 0), (1, .cells [ii 0, s0 4 0] 0 34 0), (0, rc (encI .i64) a z0 y0 1)]) (c' := 6) [0, 1, 2, 3, 4, 7] (by decide) rfl ⟨rfl, rfl, rfl, rfl, rfl, rfl, rfl, trivial⟩ ⟨⟨_, _, rfl, rfl, .inl ⟨rfl, rwP⟩⟩, ⟨_, _, rfl, rfl, .inl ⟨rfl, rwP⟩⟩, ⟨_, _, rfl, rfl, .inl ⟨rfl, rwI⟩⟩, ⟨_, _, rfl, rfl, .inr ⟨_, _, _, _, rfl, rfl⟩⟩, ⟨_, _, rfl, rfl, .inr ⟨_, _, _, _, rfl, rfl⟩⟩, ⟨_, _, rfl, rfl, .inl ⟨rfl, rwI⟩⟩, trivial⟩ rfl ?_
           refine XL.conv (f23_2_ok m fuel z0 y0 a x27_1 x28_1 xh2_0_1 (w64 (x8_2 + 1)) (List.set (List.set lh3_2 (Int.toNat x28_1) (w64 ((List.getD lh3_2 (Int.toNat x28_1) 0) - 1))) (Int.toNat x8_2) (w64 ((List.getD (List.set lh3_2 (Int.toNat x28_1) (w64 ((List.getD lh3_2 (Int.toNat x28_1) 0) - 1))) (Int.toNat x8_2) 0) - 1))) (lh5_2 ++ [(x28_1, x8_2)]) o h Q hQ) (by first | with_reducible rfl | simp | rfl)
         | false =>
          have h := cF b8 h
          refine iF (.tmp 77) ?_
          refine kQ ?_
          show XQ _ _ _ _ _ _ _ _
          refine qQ ?_
          refine rS 2 (qub1 lh3_2 x27_1 x28_1 x8_2 [(86, s0 3 lh3_2.length), (87, ii x28_1)]) ?_
          refine XR.rd E0_ok [2, 5, 6, 7, 8, 27, 28, 86, 87, 88] rfl (v := pp 3 ((Int.toNat x28_1) * 1)) (v_idx (s := 1) (x := (src 100 (.tmp 86))) (y := (src 100 (.tmp 87))) (b := 3) (o := 0) (len := lh3_2.length) (cap := lh3_2.length) (ik := .i64) (i := x28_1) (off := (Int.toNat x28_1) * 1) (d := (some (path 12 88))) (by kernel_rfl) (by kernel_rfl) (by kernel_rfl) b2 (by omega)) (σ' := (qub1 lh3_2 x27_1 x28_1 x8_2 [(86, s0 3 lh3_2.length), (87, ii x28_1), (88, pp 3 ((Int.toNat x28_1) * 1))])) (by kernel_rfl) ?_
          refine XR.rd E0_ok [2, 5, 6, 7, 8, 27, 28, 86, 87, 89] rfl (v := ii (List.getD (List.set (List.set lh3_2 (Int.toNat x28_1) (w64 ((List.getD lh3_2 (Int.toNat x28_1) 0) - 1))) (Int.toNat x8_2) (w64 ((List.getD (List.set lh3_2 (Int.toNat x28_1) (w64 ((List.getD lh3_2 (Int.toNat x28_1) 0) - 1))) (Int.toNat x8_2) 0) - 1))) (Int.toNat x28_1) 0)) (v_load1 (encI_ok .i64) (x := (src 100 (.tmp 88))) (b := 3) (off := (Int.toNat x28_1) * 1) (xs := List.set (List.set lh3_2 (Int.toNat x28_1) (w64 ((List.getD lh3_2 (Int.toNat x28_1) 0) - 1))) (Int.toNat x8_2) (w64 ((List.getD (List.set lh3_2 (Int.toNat x28_1) (w64 ((List.getD lh3_2 (Int.toNat x28_1) 0) - 1))) (Int.toNat x8_2) 0) - 1))) (fz := 0) (e := 3) (es := 1) (d := (some (path 12 89))) (by kernel_rfl) (by kernel_rfl) (by kernel_rfl) (Int.toNat x28_1) 0 0 (by first | with_reducible rfl | omega | rfl) (row_len (inRow_toNat b2) (by simp)) rfl rfl) (σ' := (qub1 lh3_2 x27_1 x28_1 x8_2 [(86, s0 3 lh3_2.length), (87, ii x28_1), (89, ii (List.getD (List.set (List.set lh3_2 (Int.toNat x28_1) (w64 ((List.getD lh3_2 (Int.toNat x28_1) 0) - 1))) (Int.toNat x8_2) (w64 ((List.getD (List.set lh3_2 (Int.toNat x28_1) (w64 ((List.getD lh3_2 (Int.toNat x28_1) 0) - 1))) (Int.toNat x8_2) 0) - 1))) (Int.toNat x28_1) 0))])) (by kernel_rfl) ?_
          refine rS 1 (qub1 lh3_2 x27_1 x28_1 x8_2 [(86, s0 3 lh3_2.length), (87, ii x28_1), (90, ii (w64 ((List.getD (List.set (List.set lh3_2 (Int.toNat x28_1) (w64 ((List.getD lh3_2 (Int.toNat x28_1) 0) - 1))) (Int.toNat x8_2) (w64 ((List.getD (List.set lh3_2 (Int.toNat x28_1) (w64 ((List.getD lh3_2 (Int.toNat x28_1) 0) - 1))) (Int.toNat x8_2) 0) - 1))) (Int.toNat x28_1) 0) + 1)))]) ?_
          refine XR.rd E0_ok [2, 5, 6, 7, 8, 27, 28, 90, 91] rfl (v := pp 3 ((Int.toNat x28_1) * 1)) (v_idx (s := 1) (x := (src 100 (.tmp 86))) (y := (src 100 (.tmp 87))) (b := 3) (o := 0) (len := lh3_2.length) (cap := lh3_2.length) (ik := .i64) (i := x28_1) (off := (Int.toNat x28_1) * 1) (d := (some (path 12 91))) (by kernel_rfl) (by kernel_rfl) (by kernel_rfl) b2 (by omega)) (σ' := (qub1 lh3_2 x27_1 x28_1 x8_2 [(90, ii (w64 ((List.getD (List.set (List.set lh3_2 (Int.toNat x28_1) (w64 ((List.getD lh3_2 (Int.toNat x28_1) 0) - 1))) (Int.toNat x8_2) (w64 ((List.getD (List.set lh3_2 (Int.toNat x28_1) (w64 ((List.getD lh3_2 (Int.toNat x28_1) 0) - 1))) (Int.toNat x8_2) 0) - 1))) (Int.toNat x28_1) 0) + 1))), (91, pp 3 ((Int.toNat x28_1) * 1))])) (by kernel_rfl) ?_
          refine XR.ef E0_ok [2, 5, 6, 7, 8, 27, 28] rfl (e_store (encI_ok .i64) (size := 1) (x := (src 100 (.tmp 91))) (y := (src 100 (.tmp 90))) (b := 3) (off := (Int.toNat x28_1) * 1) (xs := List.set (List.set lh3_2 (Int.toNat x28_1) (w64 ((List.getD lh3_2 (Int.toNat x28_1) 0) - 1))) (Int.toNat x8_2) (w64 ((List.getD (List.set lh3_2 (Int.toNat x28_1) (w64 ((List.getD lh3_2 (Int.toNat x28_1) 0) - 1))) (Int.toNat x8_2) 0) - 1))) (e := 3) (es := 1) (d := none) (h' := ((5, rc encP lh5_2 0 55 2) :: (4, rc encP [] 0 55 2) :: (3, rI (List.set (List.set (List.set lh3_2 (Int.toNat x28_1) (w64 ((List.getD lh3_2 (Int.toNat x28_1) 0) - 1))) (Int.toNat x8_2) (w64 ((List.getD (List.set lh3_2 (Int.toNat x28_1) (w64 ((List.getD lh3_2 (Int.toNat x28_1) 0) - 1))) (Int.toNat x8_2) 0) - 1))) (Int.toNat x28_1) (w64 ((List.getD (List.set (List.set lh3_2 (Int.toNat x28_1) (w64 ((List.getD lh3_2 (Int.toNat x28_1) 0) - 1))) (Int.toNat x8_2) (w64 ((List.getD (List.set lh3_2 (Int.toNat x28_1) (w64 ((List.getD lh3_2 (Int.toNat x28_1) 0) - 1))) (Int.toNat x8_2) 0) - 1))) (Int.toNat x28_1) 0) + 1)))) :: qub3 a lh5_2 xh2_0_1 y0 z0 [])) (w := ii (w64 ((List.getD (List.set (List.set lh3_2 (Int.toNat x28_1) (w64 ((List.getD lh3_2 (Int.toNat x28_1) 0) - 1))) (Int.toNat x8_2) (w64 ((List.getD (List.set lh3_2 (Int.toNat x28_1) (w64 ((List.getD lh3_2 (Int.toNat x28_1) 0) - 1))) (Int.toNat x8_2) 0) - 1))) (Int.toNat x28_1) 0) + 1))) (ws := [ii (w64 ((List.getD (List.set (List.set lh3_2 (Int.toNat x28_1) (w64 ((List.getD lh3_2 (Int.toNat x28_1) 0) - 1))) (Int.toNat x8_2) (w64 ((List.getD (List.set lh3_2 (Int.toNat x28_1) (w64 ((List.getD lh3_2 (Int.toNat x28_1) 0) - 1))) (Int.toNat x8_2) 0) - 1))) (Int.toNat x28_1) 0) + 1))]) (a := w64 ((List.getD (List.set (List.set lh3_2 (Int.toNat x28_1) (w64 ((List.getD lh3_2 (Int.toNat x28_1) 0) - 1))) (Int.toNat x8_2) (w64 ((List.getD (List.set lh3_2 (Int.toNat x28_1) (w64 ((List.getD lh3_2 (Int.toNat x28_1) 0) - 1))) (Int.toNat x8_2) 0) - 1))) (Int.toNat x28_1) 0) + 1)) (by kernel_rfl) (by kernel_rfl) (by kernel_rfl) (Int.toNat x28_1) 0 0 (by first | with_reducible rfl | omega | rfl) (row_len (inRow_toNat b2) (by simp)) (by kernel_rfl) rfl rfl rfl rfl rfl (by kernel_rfl)) (σ' := (qub1 lh3_2 x27_1 x28_1 x8_2 [])) (by kernel_rfl) ?_
          refine dQ ?_
          show XQ _ _ _ _ _ _ _ _
          refine rQ ?_
          refine rS 2 (qub1 lh3_2 x27_1 x28_1 x8_2 [(92, s0 3 lh3_2.length), (93, ii x8_2)]) ?_
          refine XR.rd E0_ok [2, 5, 6, 7, 8, 27, 28, 92, 93, 94] rfl (v := pp 3 ((Int.toNat x8_2) * 1)) (v_idx (s := 1) (x := (src 100 (.tmp 92))) (y := (src 100 (.tmp 93))) (b := 3) (o := 0) (len := lh3_2.length) (cap := lh3_2.length) (ik := .i64) (i := x8_2) (off := (Int.toNat x8_2) * 1) (d := (some (path 12 94))) (by kernel_rfl) (by kernel_rfl) (by kernel_rfl) b4 (by omega)) (σ' := (qub1 lh3_2 x27_1 x28_1 x8_2 [(92, s0 3 lh3_2.length), (93, ii x8_2), (94, pp 3 ((Int.toNat x8_2) * 1))])) (by kernel_rfl) ?_
          refine XR.rd E0_ok [2, 5, 6, 7, 8, 27, 28, 92, 93, 95] rfl (v := ii (List.getD (List.set (List.set (List.set lh3_2 (Int.toNat x28_1) (w64 ((List.getD lh3_2 (Int.toNat x28_1) 0) - 1))) (Int.toNat x8_2) (w64 ((List.getD (List.set lh3_2 (Int.toNat x28_1) (w64 ((List.getD lh3_2 (Int.toNat x28_1) 0) - 1))) (Int.toNat x8_2) 0) - 1))) (Int.toNat x28_1) (w64 ((List.getD (List.set (List.set lh3_2 (Int.toNat x28_1) (w64 ((List.getD lh3_2 (Int.toNat x28_1) 0) - 1))) (Int.toNat x8_2) (w64 ((List.getD (List.set lh3_2 (Int.toNat x28_1) (w64 ((List.getD lh3_2 (Int.toNat x28_1) 0) - 1))) (Int.toNat x8_2) 0) - 1))) (Int.toNat x28_1) 0) + 1))) (Int.toNat x8_2) 0)) (v_load1 (encI_ok .i64) (x := (src 100 (.tmp 94))) (b := 3) (off := (Int.toNat x8_2) * 1) (xs := List.set (List.set (List.set lh3_2 (Int.toNat x28_1) (w64 ((List.getD lh3_2 (Int.toNat x28_1) 0) - 1))) (Int.toNat x8_2) (w64 ((List.getD (List.set lh3_2 (Int.toNat x28_1) (w64 ((List.getD lh3_2 (Int.toNat x28_1) 0) - 1))) (Int.toNat x8_2) 0) - 1))) (Int.toNat x28_1) (w64 ((List.getD (List.set (List.set lh3_2 (Int.toNat x28_1) (w64 ((List.getD lh3_2 (Int.toNat x28_1) 0) - 1))) (Int.toNat x8_2) (w64 ((List.getD (List.set lh3_2 (Int.toNat x28_1) (w64 ((List.getD lh3_2 (Int.toNat x28_1) 0) - 1))) (Int.toNat x8_2) 0) - 1))) (Int.toNat x28_1) 0) + 1))) (fz := 0) (e := 3) (es := 1) (d := (some (path 12 95))) (by kernel_rfl) (by kernel_rfl) (by kernel_rfl) (Int.toNat x8_2) 0 0 (by first | with_reducible rfl | omega | rfl) (row_len (inRow_toNat b4) (by simp)) rfl rfl) (σ' := (qub1 lh3_2 x27_1 x28_1 x8_2 [(92, s0 3 lh3_2.length), (93, ii x8_2), (95, ii (List.getD (List.set (List.set (List.set lh3_2 (Int.toNat x28_1) (w64 ((List.getD lh3_2 (Int.toNat x28_1) 0) - 1))) (Int.toNat x8_2) (w64 ((List.getD (List.set lh3_2 (Int.toNat x28_1) (w64 ((List.getD lh3_2 (Int.toNat x28_1) 0) - 1))) (Int.toNat x8_2) 0) - 1))) (Int.toNat x28_1) (w64 ((List.getD (List.set (List.set lh3_2 (Int.toNat x28_1) (w64 ((List.getD lh3_2 (Int.toNat x28_1) 0) - 1))) (Int.toNat x8_2) (w64 ((List.getD (List.set lh3_2 (Int.toNat x28_1) (w64 ((List.getD lh3_2 (Int.toNat x28_1) 0) - 1))) (Int.toNat x8_2) 0) - 1))) (Int.toNat x28_1) 0) + 1))) (Int.toNat x8_2) 0))])) (by kernel_rfl) ?_
          refine rS 1 (qub1 lh3_2 x27_1 x28_1 x8_2 [(92, s0 3 lh3_2.length), (93, ii x8_2), (96, ii (w64 ((List.getD (List.set (List.set (List.set lh3_2 (Int.toNat x28_1) (w64 ((List.getD lh3_2 (Int.toNat x28_1) 0) - 1))) (Int.toNat x8_2) (w64 ((List.getD (List.set lh3_2 (Int.toNat x28_1) (w64 ((List.getD lh3_2 (Int.toNat x28_1) 0) - 1))) (Int.toNat x8_2) 0) - 1))) (Int.toNat x28_1) (w64 ((List.getD (List.set (List.set lh3_2 (Int.toNat x28_1) (w64 ((List.getD lh3_2 (Int.toNat x28_1) 0) - 1))) (Int.toNat x8_2) (w64 ((List.getD (List.set lh3_2 (Int.toNat x28_1) (w64 ((List.getD lh3_2 (Int.toNat x28_1) 0) - 1))) (Int.toNat x8_2) 0) - 1))) (Int.toNat x28_1) 0) + 1))) (Int.toNat x8_2) 0) + 1)))]) ?_
          refine XR.rd E0_ok [2, 5, 6, 7, 8, 27, 28, 96, 97] rfl (v := pp 3 ((Int.toNat x8_2) * 1)) (v_idx (s := 1) (x := (src 100 (.tmp 92))) (y := (src 100 (.tmp 93))) (b := 3) (o := 0) (len := lh3_2.length) (cap := lh3_2.length) (ik := .i64) (i := x8_2) (off := (Int.toNat x8_2) * 1) (d := (some (path 12 97))) (by kernel_rfl) (by kernel_rfl) (by kernel_rfl) b4 (by omega)) (σ' := (qub1 lh3_2 x27_1 x28_1 x8_2 [(96, ii (w64 ((List.getD (List.set (List.set (List.set lh3_2 (Int.toNat x28_1) (w64 ((List.getD lh3_2 (Int.toNat x28_1) 0) - 1))) (Int.toNat x8_2) (w64 ((List.getD (List.set lh3_2 (Int.toNat x28_1) (w64 ((List.getD lh3_2 (Int.toNat x28_1) 0) - 1))) (Int.toNat x8_2) 0) - 1))) (Int.toNat x28_1) (w64 ((List.getD (List.set (List.set lh3_2 (Int.toNat x28_1) (w64 ((List.getD lh3_2 (Int.toNat x28_1) 0) - 1))) (Int.toNat x8_2) (w64 ((List.getD (List.set lh3_2 (Int.toNat x28_1) (w64 ((List.getD lh3_2 (Int.toNat x28_1) 0) - 1))) (Int.toNat x8_2) 0) - 1))) (Int.toNat x28_1) 0) + 1))) (Int.toNat x8_2) 0) + 1))), (97, pp 3 ((Int.toNat x8_2) * 1))])) (by kernel_rfl) ?_
          refine XR.ef E0_ok [2, 5, 6, 7, 8, 27, 28] rfl (e_store (encI_ok .i64) (size := 1) (x := (src 100 (.tmp 97))) (y := (src 100 (.tmp 96))) (b := 3) (off := (Int.toNat x8_2) * 1) (xs := List.set (List.set (List.set lh3_2 (Int.toNat x28_1) (w64 ((List.getD lh3_2 (Int.toNat x28_1) 0) - 1))) (Int.toNat x8_2) (w64 ((List.getD (List.set lh3_2 (Int.toNat x28_1) (w64 ((List.getD lh3_2 (Int.toNat x28_1) 0) - 1))) (Int.toNat x8_2) 0) - 1))) (Int.toNat x28_1) (w64 ((List.getD (List.set (List.set lh3_2 (Int.toNat x28_1) (w64 ((List.getD lh3_2 (Int.toNat x28_1) 0) - 1))) (Int.toNat x8_2) (w64 ((List.getD (List.set lh3_2 (Int.toNat x28_1) (w64 ((List.getD lh3_2 (Int.toNat x28_1) 0) - 1))) (Int.toNat x8_2) 0) - 1))) (Int.toNat x28_1) 0) + 1))) (e := 3) (es := 1) (d := none) (h' := ((5, rc encP lh5_2 0 55 2) :: (4, rc encP [] 0 55 2) :: (3, rI (List.set (List.set (List.set (List.set lh3_2 (Int.toNat x28_1) (w64 ((List.getD lh3_2 (Int.toNat x28_1) 0) - 1))) (Int.toNat x8_2) (w64 ((List.getD (List.set lh3_2 (Int.toNat x28_1) (w64 ((List.getD lh3_2 (Int.toNat x28_1) 0) - 1))) (Int.toNat x8_2) 0) - 1))) (Int.toNat x28_1) (w64 ((List.getD (List.set (List.set lh3_2 (Int.toNat x28_1) (w64 ((List.getD lh3_2 (Int.toNat x28_1) 0) - 1))) (Int.toNat x8_2) (w64 ((List.getD (List.set lh3_2 (Int.toNat x28_1) (w64 ((List.getD lh3_2 (Int.toNat x28_1) 0) - 1))) (Int.toNat x8_2) 0) - 1))) (Int.toNat x28_1) 0) + 1))) (Int.toNat x8_2) (w64 ((List.getD (List.set (List.set (List.set lh3_2 (Int.toNat x28_1) (w64 ((List.getD lh3_2 (Int.toNat x28_1) 0) - 1))) (Int.toNat x8_2) (w64 ((List.getD (List.set lh3_2 (Int.toNat x28_1) (w64 ((List.getD lh3_2 (Int.toNat x28_1) 0) - 1))) (Int.toNat x8_2) 0) - 1))) (Int.toNat x28_1) (w64 ((List.getD (List.set (List.set lh3_2 (Int.toNat x28_1) (w64 ((List.getD lh3_2 (Int.toNat x28_1) 0) - 1))) (Int.toNat x8_2) (w64 ((List.getD (List.set lh3_2 (Int.toNat x28_1) (w64 ((List.getD lh3_2 (Int.toNat x28_1) 0) - 1))) (Int.toNat x8_2) 0) - 1))) (Int.toNat x28_1) 0) + 1))) (Int.toNat x8_2) 0) + 1)))) :: qub3 a lh5_2 xh2_0_1 y0 z0 [])) (w := ii (w64 ((List.getD (List.set (List.set (List.set lh3_2 (Int.toNat x28_1) (w64 ((List.getD lh3_2 (Int.toNat x28_1) 0) - 1))) (Int.toNat x8_2) (w64 ((List.getD (List.set lh3_2 (Int.toNat x28_1) (w64 ((List.getD lh3_2 (Int.toNat x28_1) 0) - 1))) (Int.toNat x8_2) 0) - 1))) (Int.toNat x28_1) (w64 ((List.getD (List.set (List.set lh3_2 (Int.toNat x28_1) (w64 ((List.getD lh3_2 (Int.toNat x28_1) 0) - 1))) (Int.toNat x8_2) (w64 ((List.getD (List.set lh3_2 (Int.toNat x28_1) (w64 ((List.getD lh3_2 (Int.toNat x28_1) 0) - 1))) (Int.toNat x8_2) 0) - 1))) (Int.toNat x28_1) 0) + 1))) (Int.toNat x8_2) 0) + 1))) (ws := [ii (w64 ((List.getD (List.set (List.set (List.set lh3_2 (Int.toNat x28_1) (w64 ((List.getD lh3_2 (Int.toNat x28_1) 0) - 1))) (Int.toNat x8_2) (w64 ((List.getD (List.set lh3_2 (Int.toNat x28_1) (w64 ((List.getD lh3_2 (Int.toNat x28_1) 0) - 1))) (Int.toNat x8_2) 0) - 1))) (Int.toNat x28_1) (w64 ((List.getD (List.set (List.set lh3_2 (Int.toNat x28_1) (w64 ((List.getD lh3_2 (Int.toNat x28_1) 0) - 1))) (Int.toNat x8_2) (w64 ((List.getD (List.set lh3_2 (Int.toNat x28_1) (w64 ((List.getD lh3_2 (Int.toNat x28_1) 0) - 1))) (Int.toNat x8_2) 0) - 1))) (Int.toNat x28_1) 0) + 1))) (Int.toNat x8_2) 0) + 1))]) (a := w64 ((List.getD (List.set (List.set (List.set lh3_2 (Int.toNat x28_1) (w64 ((List.getD lh3_2 (Int.toNat x28_1) 0) - 1))) (Int.toNat x8_2) (w64 ((List.getD (List.set lh3_2 (Int.toNat x28_1) (w64 ((List.getD lh3_2 (Int.toNat x28_1) 0) - 1))) (Int.toNat x8_2) 0) - 1))) (Int.toNat x28_1) (w64 ((List.getD (List.set (List.set lh3_2 (Int.toNat x28_1) (w64 ((List.getD lh3_2 (Int.toNat x28_1) 0) - 1))) (Int.toNat x8_2) (w64 ((List.getD (List.set lh3_2 (Int.toNat x28_1) (w64 ((List.getD lh3_2 (Int.toNat x28_1) 0) - 1))) (Int.toNat x8_2) 0) - 1))) (Int.toNat x28_1) 0) + 1))) (Int.toNat x8_2) 0) + 1)) (by kernel_rfl) (by kernel_rfl) (by kernel_rfl) (Int.toNat x8_2) 0 0 (by first | with_reducible rfl | omega | rfl) (row_len (inRow_toNat b4) (by simp)) (by kernel_rfl) rfl rfl rfl rfl rfl (by kernel_rfl)) (σ' := (qub1 lh3_2 x27_1 x28_1 x8_2 [])) (by kernel_rfl) ?_
          refine dQ ?_
          show XQ _ _ _ _ _ _ _ _
          refine rQ ?_
          refine rS 3 (qub4 lh3_2 x27_1 x28_1 x8_2 []) ?_
          refine dQ ?_
          show XL _ _ _ _ _ _ _ _ _
          refine XL.ren (σ' := (qub4 lh3_2 x27_1 x28_1 x8_2 [])) (h' := ((5, rc encP lh5_2 0 55 2) :: (4, rc encP [] 0 55 2) :: (3, rI (List.set (List.set (List.set (List.set lh3_2 (Int.toNat x28_1) (w64 ((List.getD lh3_2 (Int.toNat x28_1) 0) - 1))) (Int.toNat x8_2) (w64 ((List.getD (List.set lh3_2 (Int.toNat x28_1) (w64 ((List.getD lh3_2 (Int.toNat x28_1) 0) - 1))) (Int.toNat x8_2) 0) - 1))) (Int.toNat x28_1) (w64 ((List.getD (List.set (List.set lh3_2 (Int.toNat x28_1) (w64 ((List.getD lh3_2 (Int.toNat x28_1) 0) - 1))) (Int.toNat x8_2) (w64 ((List.getD (List.set lh3_2 (Int.toNat x28_1) (w64 ((List.getD lh3_2 (Int.toNat x28_1) 0) - 1))) (Int.toNat x8_2) 0) - 1))) (Int.toNat x28_1) 0) + 1))) (Int.toNat x8_2) (w64 ((List.getD (List.set (List.set (List.set lh3_2 (Int.toNat x28_1) (w64 ((List.getD lh3_2 (Int.toNat x28_1) 0) - 1))) (Int.toNat x8_2) (w64 ((List.getD (List.set lh3_2 (Int.toNat x28_1) (w64 ((List.getD lh3_2 (Int.toNat x28_1) 0) - 1))) (Int.toNat x8_2) 0) - 1))) (Int.toNat x28_1) (w64 ((List.getD (List.set (List.set lh3_2 (Int.toNat x28_1) (w64 ((List.getD lh3_2 (Int.toNat x28_1) 0) - 1))) (Int.toNat x8_2) (w64 ((List.getD (List.set lh3_2 (Int.toNat x28_1) (w64 ((List.getD lh3_2 (Int.toNat x28_1) 0) - 1))) (Int.toNat x8_2) 0) - 1))) (Int.toNat x28_1) 0) + 1))) (Int.toNat x8_2) 0) + 1)))) :: qub3 a lh5_2 xh2_0_1 y0 z0 [])) (c' := 6) [0, 1, 2, 3, 4, 5] (by decide) rfl ⟨rfl, rfl, rfl, rfl, rfl, rfl, rfl, trivial⟩ ⟨⟨_, _, rfl, rfl, .inl ⟨rfl, rwP⟩⟩, ⟨_, _, rfl, rfl, .inl ⟨rfl, rwP⟩⟩, ⟨_, _, rfl, rfl, .inl ⟨rfl, rwI⟩⟩, ⟨_, _, rfl, rfl, .inr ⟨_, _, _, _, rfl, rfl⟩⟩, ⟨_, _, rfl, rfl, .inr ⟨_, _, _, _, rfl, rfl⟩⟩, ⟨_, _, rfl, rfl, .inl ⟨rfl, rwI⟩⟩, trivial⟩ rfl ?_
          refine XL.conv (f23_2_ok m fuel z0 y0 a x27_1 x28_1 xh2_0_1 (w64 (x8_2 + 1)) (List.set (List.set (List.set (List.set lh3_2 (Int.toNat x28_1) (w64 ((List.getD lh3_2 (Int.toNat x28_1) 0) - 1))) (Int.toNat x8_2) (w64 ((List.getD (List.set lh3_2 (Int.toNat x28_1) (w64 ((List.getD lh3_2 (Int.toNat x28_1) 0) - 1))) (Int.toNat x8_2) 0) - 1))) (Int.toNat x28_1) (w64 ((List.getD (List.set (List.set lh3_2 (Int.toNat x28_1) (w64 ((List.getD lh3_2 (Int.toNat x28_1) 0) - 1))) (Int.toNat x8_2) (w64 ((List.getD (List.set lh3_2 (Int.toNat x28_1) (w64 ((List.getD lh3_2 (Int.toNat x28_1) 0) - 1))) (Int.toNat x8_2) 0) - 1))) (Int.toNat x28_1) 0) + 1))) (Int.toNat x8_2) (w64 ((List.getD (List.set (List.set (List.set lh3_2 (Int.toNat x28_1) (w64 ((List.getD lh3_2 (Int.toNat x28_1) 0) - 1))) (Int.toNat x8_2) (w64 ((List.getD (List.set lh3_2 (Int.toNat x28_1) (w64 ((List.getD lh3_2 (Int.toNat x28_1) 0) - 1))) (Int.toNat x8_2) 0) - 1))) (Int.toNat x28_1) (w64 ((List.getD (List.set (List.set lh3_2 (Int.toNat x28_1) (w64 ((List.getD lh3_2 (Int.toNat x28_1) 0) - 1))) (Int.toNat x8_2) (w64 ((List.getD (List.set lh3_2 (Int.toNat x28_1) (w64 ((List.getD lh3_2 (Int.toNat x28_1) 0) - 1))) (Int.toNat x8_2) 0) - 1))) (Int.toNat x28_1) 0) + 1))) (Int.toNat x8_2) 0) + 1))) lh5_2 o h Q hQ) (by first | with_reducible rfl | simp | rfl)
  | false =>
   have h := cF b1 h
   refine iF (.tmp 36) ?_
   refine XQ.ren (σ' := [(2, pp 1 0), (5, pp 2 0), (6, s0 3 lh3_2.length), (27, ii x27_1), (28, ii x28_1)]) (h' := ((5, rc encP lh5_2 0 55 2) :: (4, rc encP [] 0 55 2) :: (3, rI lh3_2) :: qub3 a lh5_2 xh2_0_1 y0 z0 [])) (c' := 6) [0, 1, 2, 3, 4, 5] (by decide) rfl ⟨rfl, rfl, rfl, rfl, rfl, trivial⟩ ⟨⟨_, _, rfl, rfl, .inl ⟨rfl, rwP⟩⟩, ⟨_, _, rfl, rfl, .inl ⟨rfl, rwP⟩⟩, ⟨_, _, rfl, rfl, .inl ⟨rfl, rwI⟩⟩, ⟨_, _, rfl, rfl, .inr ⟨_, _, _, _, rfl, rfl⟩⟩, ⟨_, _, rfl, rfl, .inr ⟨_, _, _, _, rfl, rfl⟩⟩, ⟨_, _, rfl, rfl, .inl ⟨rfl, rwI⟩⟩, trivial⟩ rfl ?_
   refine XQ.exit (i := 3) (by kernel_rfl) ?_
   cases h
   exact hQ
def f23_1 (m : Nat) : Nat → List Int → Int → Int → Int → List Int → List (Int × Int) → Option (Int × (List (Int × Int)))
 | 0, _, _, _, _, _, _ => none
 | fuel + 1, a, x27_1, x28_1, xh2_0_1, lh3_1, lh5_1 =>
  cond (decide (x28_1 < x27_1)) (
   (f23_2 m m a x27_1 x28_1 xh2_0_1 (w64 (x28_1 + 1)) lh3_1 lh5_1).bind fun o2 =>
    f23_1 m fuel a x27_1 (w64 (x28_1 + 1)) xh2_0_1 o2.1 o2.2
  ) (
   some (xh2_0_1, lh5_1)
  )
theorem f23_1_ok (m : Nat) : ∀ (fuel : Nat) (z0 : Nat) (y0 : Nat) (a : List Int) (x27_1 : Int) (x28_1 : Int) (xh2_0_1 : Int) (lh3_1 : List Int) (lh5_1 : List (Int × Int)) (o : (Int × (List (Int × Int)))), f23_1 m fuel a x27_1 x28_1 xh2_0_1 lh3_1 lh5_1 = some o → ∀ Q : QP, Q (.exit 1) [(2, pp 1 0), (5, pp 2 0)] [(4, rc encP o.2 0 55 2), (3, rc encP [] 0 55 2), (2, .cells [ii o.1, s0 4 o.2.length] 0 34 0), (1, .cells [ii 0, s0 3 0] 0 34 0), (0, rc (encI .i64) a z0 y0 1)] 5 → XL E0 100 1 fuel f23_L1 [(2, pp 1 0), (5, pp 2 0), (6, s0 3 lh3_1.length), (27, ii x27_1), (28, ii x28_1)] [(5, rc encP lh5_1 0 55 2), (4, rc encP [] 0 55 2), (3, rI lh3_1), (2, .cells [ii xh2_0_1, s0 5 lh5_1.length] 0 34 0), (1, .cells [ii 0, s0 4 0] 0 34 0), (0, rc (encI .i64) a z0 y0 1)] 6 Q
 | 0, z0, y0, a, x27_1, x28_1, xh2_0_1, lh3_1, lh5_1, o, h, Q, hQ => by cases h
 | fuel + 1, z0, y0, a, x27_1, x28_1, xh2_0_1, lh3_1, lh5_1, o, h, Q, hQ => by
  unfold f23_1 at h
  refine XL.succ E0_ok ?_
  refine qQ ?_
  refine rS 1 [(2, pp 1 0), (5, pp 2 0), (6, s0 3 lh3_1.length), (27, ii x27_1), (28, ii x28_1), (29, .bool (decide (x28_1 < x27_1)))] ?_
  refine dQ ?_
  show XQ _ _ _ _ _ _ _ _
  refine sQ ?_
  cases b1 : (decide (x28_1 < x27_1) : Bool) with
  | true =>
   have h := cT b1 h
   refine iT (.tmp 29) ?_
   refine kQ ?_
   show XQ _ _ _ _ _ _ _ _
   refine sQ ?_
   refine XQ.block (id := 2) (by kernel_rfl) ?_
   refine qQ ?_
   refine rS 2 [(2, pp 1 0), (5, pp 2 0), (6, s0 3 lh3_1.length), (7, ii x28_1), (27, ii x27_1), (28, ii x28_1)] ?_
   refine nQ id ?_
   refine rS 3 [(2, pp 1 0), (5, pp 2 0), (6, s0 3 lh3_1.length), (7, ii x28_1), (8, ii (w64 (x28_1 + 1))), (27, ii x27_1), (28, ii x28_1)] ?_
   refine dQ ?_
   show XQ _ _ _ _ _ _ _ _
   refine XQ.block (id := 3) (by kernel_rfl) ?_
   refine XQ.loop m (by kernel_rfl) ?_
   obtain ⟨o2, o2_h, h⟩ := bS h
   refine XL.ren (σ' := [(2, pp 1 0), (5, pp 2 0), (6, s0 3 lh3_1.length), (7, ii x28_1), (8, ii (w64 (x28_1 + 1))), (27, ii x27_1), (28, ii x28_1)]) (h' := [(5, rc encP lh5_1 0 55 2), (4, rc encP [] 0 55 2), (3, rI lh3_1), (2, .cells [ii xh2_0_1, s0 5 lh5_1.length] 0 34 0), (1, .cells [ii 0, s0 4 0] 0 34 0), (0, rc (encI .i64) a z0 y0 1)]) (c' := 6) [0, 1, 2, 3, 4, 5] (by decide) rfl ⟨rfl, rfl, rfl, rfl, rfl, rfl, rfl, trivial⟩ ⟨⟨_, _, rfl, rfl, .inl ⟨rfl, rwP⟩⟩, ⟨_, _, rfl, rfl, .inl ⟨rfl, rwP⟩⟩, ⟨_, _, rfl, rfl, .inl ⟨rfl, rwI⟩⟩, ⟨_, _, rfl, rfl, .inr ⟨_, _, _, _, rfl, rfl⟩⟩, ⟨_, _, rfl, rfl, .inr ⟨_, _, _, _, rfl, rfl⟩⟩, ⟨_, _, rfl, rfl, .inl ⟨rfl, rwI⟩⟩, trivial⟩ rfl ?_
   refine XL.conv (f23_2_ok m m z0 y0 a x27_1 x28_1 xh2_0_1 (w64 (x28_1 + 1)) lh3_1 lh5_1 o2 o2_h _ ?_) (by first | with_reducible rfl | simp | rfl)
   show XQ _ _ _ _ _ _ _ _
   refine rQ ?_
   refine rS 2 [(2, pp 1 0), (5, pp 2 0), (6, s0 3 o2.1.length), (27, ii x27_1), (28, ii (w64 (x28_1 + 1)))] ?_
   refine dQ ?_
   show XL _ _ _ _ _ _ _ _ _
   refine XL.ren (σ' := [(2, pp 1 0), (5, pp 2 0), (6, s0 3 o2.1.length), (27, ii x27_1), (28, ii (w64 (x28_1 + 1)))]) (h' := [(5, rc encP o2.2 0 55 2), (4, rc encP [] 0 55 2), (3, rI o2.1), (2, .cells [ii xh2_0_1, s0 5 o2.2.length] 0 34 0), (1, .cells [ii 0, s0 4 0] 0 34 0), (0, rc (encI .i64) a z0 y0 1)]) (c' := 6) [0, 1, 2, 3, 4, 5] (by decide) rfl ⟨rfl, rfl, rfl, rfl, rfl, trivial⟩ ⟨⟨_, _, rfl, rfl, .inl ⟨rfl, rwP⟩⟩, ⟨_, _, rfl, rfl, .inl ⟨rfl, rwP⟩⟩, ⟨_, _, rfl, rfl, .inl ⟨rfl, rwI⟩⟩, ⟨_, _, rfl, rfl, .inr ⟨_, _, _, _, rfl, rfl⟩⟩, ⟨_, _, rfl, rfl, .inr ⟨_, _, _, _, rfl, rfl⟩⟩, ⟨_, _, rfl, rfl, .inl ⟨rfl, rwI⟩⟩, trivial⟩ rfl ?_
   refine XL.conv (f23_1_ok m fuel z0 y0 a x27_1 (w64 (x28_1 + 1)) xh2_0_1 o2.1 o2.2 o h Q hQ) (by first | with_reducible rfl | simp | rfl)
  | false =>
   have h := cF b1 h
   refine iF (.tmp 29) ?_
   refine XQ.ren (σ' := [(2, pp 1 0), (5, pp 2 0)]) (h' := [(4, rc encP lh5_1 0 55 2), (3, rc encP [] 0 55 2), (2, .cells [ii xh2_0_1, s0 4 lh5_1.length] 0 34 0), (1, .cells [ii 0, s0 3 0] 0 34 0), (0, rc (encI .i64) a z0 y0 1)]) (c' := 5) [0, 1, 2, 4, 5] (by decide) rfl ⟨rfl, rfl, trivial⟩ ⟨⟨_, _, rfl, rfl, .inl ⟨rfl, rwP⟩⟩, ⟨_, _, rfl, rfl, .inl ⟨rfl, rwP⟩⟩, ⟨_, _, rfl, rfl, .inr ⟨_, _, _, _, rfl, rfl⟩⟩, ⟨_, _, rfl, rfl, .inr ⟨_, _, _, _, rfl, rfl⟩⟩, ⟨_, _, rfl, rfl, .inl ⟨rfl, rwI⟩⟩, trivial⟩ rfl ?_
   refine XQ.exit (i := 1) (by kernel_rfl) ?_
   cases h
   exact hQ
def f23 (m : Nat) (a : List Int) : Option (Int × (List (Int × Int)) × Int) :=
 (f21 m a).bind fun r1 =>
  cond (r1 != 0) (
   some (0, [], r1)
  ) (
   (f59 m a).bind fun r2 =>
    cond (!r2) (
     some (0, [], 12)
    ) (
     cond (fitsB a.length 8) (
      (f23_1 m m a ((a.length : Nat) : Int) 0 ((a.length : Nat) : Int) a []).bind fun o1 =>
       some (o1.1, o1.2, 0)
     ) none
    )
  )
theorem f23_ok (m : Nat) (z0 : Nat) (y0 : Nat) (a : List Int) (o : Int × (List (Int × Int)) × Int) (h : f23 m a = some o) : KC E0 23 [s0 0 a.length] [(0, rc (encI .i64) a z0 y0 1)] 1 (fun v h' c' => v = .tuple #[.agg #[ii o.1, s0 1 o.2.1.length], ii o.2.2] ∧ h' = [(1, rc encP o.2.1 0 55 2)] ++ [(0, rc (encI .i64) a z0 y0 1)] ∧ c' = 2) := by
 refine KC.renO ?_
 refine KC.bodyN E0_ok (F := Proofs.Tryd.f23) (by kernel_rfl) (code := f23_C23) (by kernel_rfl) (nt := 100) (by kernel_rfl) (rs := [.cell 2 34, .tmp 3]) (by kernel_rfl) (by kernel_rfl) (σ := [(0, s0 0 a.length)]) (by kernel_rfl) ?_
 unfold f23 at h
 refine qQ ?_
 refine rT 2 [(0, s0 0 a.length), (2, pp 1 0)] [(1, .cells [ii 0, .slice none 0 0] 0 34 0), (0, rc (encI .i64) a z0 y0 1)] 2 ?_
 refine dQ ?_
 show XQ _ _ _ _ _ _ _ _
 refine XQ.ghost 55 2 rfl (σ' := [(0, s0 0 a.length), (2, pp 1 0)]) (h' := [(1, .cells [ii 0, s0 2 0] 0 34 0), (0, rc (encI .i64) a z0 y0 1)]) ⟨rfl, rfl, trivial⟩ ⟨⟨_, rfl, .inr ⟨_, _, _, _, rfl, rfl⟩⟩, ⟨_, rfl, .inl rfl⟩, trivial⟩ ?_
 refine XQ.conv (σ' := [(0, s0 0 a.length), (2, pp 1 0)]) (h' := [(2, rc encP [] 0 55 2), (1, .cells [ii 0, s0 2 0] 0 34 0), (0, rc (encI .i64) a z0 y0 1)]) (c' := 3) ?_ (by kernel_rfl)
 refine qQ ?_
 refine rS 1 [(0, s0 0 a.length), (2, pp 1 0), (9, s0 0 a.length)] ?_
 obtain ⟨r1, r1_h, h⟩ := bS h
 refine XR.call E0_ok [0, 2, 10] rfl (K := 21) (args := [s0 0 a.length]) (d := (some (path 12 10))) (by kernel_rfl) (KQ.call (KC.quiet E0_ok (args0 := [s0 0 a.length]) (h0 := [(0, rc (encI .i64) a (z0 + ((rowC (encI .i64) a).length + 1)) y0 1)]) (n := 1) (V := ii r1) [0] (f21_ok m (z0 + ((rowC (encI .i64) a).length + 1)) y0 a r1 r1_h) rfl (by rfl) (by decide) rfl (by kernel_rfl) ⟨⟨_, _, rfl, rfl, .inl ⟨rfl, rwI⟩⟩, trivial⟩) rfl) ?_
 rintro _ _ _ ⟨rfl, rfl, rfl⟩
 refine XR.conv (σ' := [(0, s0 0 a.length), (2, pp 1 0), (10, ii r1)]) (h' := [(2, rc encP [] 0 55 2), (1, .cells [ii 0, s0 2 0] 0 34 0), (0, rc (encI .i64) a z0 y0 1)]) (c' := 3) ?_ (by kernel_rfl)
 refine rS 1 [(0, s0 0 a.length), (2, pp 1 0), (4, ii r1)] ?_
 refine dQ ?_
 show XQ _ _ _ _ _ _ _ _
 refine sQ ?_
 refine XQ.block (id := 0) (by kernel_rfl) ?_
 refine qQ ?_
 refine rS 3 [(0, s0 0 a.length), (2, pp 1 0), (4, ii r1), (11, .bool (r1 != 0))] ?_
 refine dQ ?_
 show XQ _ _ _ _ _ _ _ _
 cases b1 : (r1 != 0 : Bool) with
 | true =>
  have h := cT b1 h
  refine iT (.tmp 11) ?_
  refine qQ ?_
  refine rT 4 [(2, pp 1 0), (3, ii r1)] [(2, rc encP [] 0 55 2), (1, .cells [ii 0, .slice none 0 0] 0 34 0), (0, rc (encI .i64) a z0 y0 1)] 3 ?_
  refine dQ ?_
  show XQ _ _ _ _ _ _ _ _
  refine XQ.ghost 55 2 rfl (σ' := [(2, pp 1 0), (3, ii r1)]) (h' := [(2, rc encP [] 0 55 2), (1, .cells [ii 0, s0 3 0] 0 34 0), (0, rc (encI .i64) a z0 y0 1)]) ⟨rfl, rfl, trivial⟩ ⟨⟨_, rfl, .inl rfl⟩, ⟨_, rfl, .inr ⟨_, _, _, _, rfl, rfl⟩⟩, ⟨_, rfl, .inl rfl⟩, trivial⟩ ?_
  refine XQ.conv (σ' := [(2, pp 1 0), (3, ii r1)]) (h' := [(3, rc encP [] 0 55 2), (2, rc encP [] 0 55 2), (1, .cells [ii 0, s0 3 0] 0 34 0), (0, rc (encI .i64) a z0 y0 1)]) (c' := 4) ?_ (by kernel_rfl)
  refine XQ.ren (σ' := [(2, pp 1 0), (3, ii r1)]) (h' := [(2, rc encP [] 0 55 2), (1, .cells [ii 0, s0 2 0] 0 34 0), (0, rc (encI .i64) a z0 y0 1)]) (c' := 3) [0, 1, 3] (by decide) rfl ⟨rfl, rfl, trivial⟩ ⟨⟨_, _, rfl, rfl, .inl ⟨rfl, rwP⟩⟩, ⟨_, _, rfl, rfl, .inr ⟨_, _, _, _, rfl, rfl⟩⟩, ⟨_, _, rfl, rfl, .inl ⟨rfl, rwI⟩⟩, trivial⟩ rfl ?_
  refine XQ.ret (by kernel_rfl) ?_
  have h := Option.some.inj h
  subst h
  exact ⟨fun i q => (by cases q), .tuple #[.agg #[ii 0, s0 2 0], ii r1], (by kernel_rfl), [0, 2], .tuple #[.agg #[ii 0, s0 1 0], ii r1], [(1, rc encP [] 0 55 2), (0, rc (encI .i64) a z0 y0 1)], (by decide), rfl, (by kernel_rfl), ⟨⟨_, _, rfl, rfl, .inl ⟨rfl, rwP⟩⟩, ⟨_, _, rfl, rfl, .inl ⟨rfl, rwI⟩⟩, trivial⟩, (by kernel_rfl), (by kernel_rfl), rfl⟩
 | false =>
  have h := cF b1 h
  refine iF (.tmp 11) ?_
  refine qQ ?_
  refine rS 1 [(0, s0 0 a.length), (2, pp 1 0), (17, s0 0 a.length)] ?_
  obtain ⟨r2, r2_h, h⟩ := bS h
  refine XR.call E0_ok [0, 2, 18] rfl (K := 59) (args := [s0 0 a.length]) (d := (some (path 12 18))) (by kernel_rfl) (KQ.call (KC.quiet E0_ok (args0 := [s0 0 a.length]) (h0 := [(0, rc (encI .i64) a (z0 + ((rowC (encI .i64) a).length + 1)) y0 1)]) (n := 1) (V := .bool r2) [0] (f59_ok m (z0 + ((rowC (encI .i64) a).length + 1)) y0 a r2 r2_h) rfl (by rfl) (by decide) rfl (by kernel_rfl) ⟨⟨_, _, rfl, rfl, .inl ⟨rfl, rwI⟩⟩, trivial⟩) rfl) ?_
  rintro _ _ _ ⟨rfl, rfl, rfl⟩
  refine XR.conv (σ' := [(0, s0 0 a.length), (2, pp 1 0), (18, .bool r2)]) (h' := [(2, rc encP [] 0 55 2), (1, .cells [ii 0, s0 2 0] 0 34 0), (0, rc (encI .i64) a z0 y0 1)]) (c' := 3) ?_ (by kernel_rfl)
  refine rS 2 [(0, s0 0 a.length), (2, pp 1 0), (16, .bool (!r2))] ?_
  refine dQ ?_
  show XQ _ _ _ _ _ _ _ _
  cases b2 : (!r2 : Bool) with
  | true =>
   have h := cT b2 h
   refine iT (.tmp 16) ?_
   refine qQ ?_
   refine rT 3 [(2, pp 1 0), (3, ii 12)] [(2, rc encP [] 0 55 2), (1, .cells [ii 0, .slice none 0 0] 0 34 0), (0, rc (encI .i64) a z0 y0 1)] 3 ?_
   refine dQ ?_
   show XQ _ _ _ _ _ _ _ _
   refine XQ.ghost 55 2 rfl (σ' := [(2, pp 1 0), (3, ii 12)]) (h' := [(2, rc encP [] 0 55 2), (1, .cells [ii 0, s0 3 0] 0 34 0), (0, rc (encI .i64) a z0 y0 1)]) ⟨rfl, rfl, trivial⟩ ⟨⟨_, rfl, .inl rfl⟩, ⟨_, rfl, .inr ⟨_, _, _, _, rfl, rfl⟩⟩, ⟨_, rfl, .inl rfl⟩, trivial⟩ ?_
   refine XQ.conv (σ' := [(2, pp 1 0), (3, ii 12)]) (h' := [(3, rc encP [] 0 55 2), (2, rc encP [] 0 55 2), (1, .cells [ii 0, s0 3 0] 0 34 0), (0, rc (encI .i64) a z0 y0 1)]) (c' := 4) ?_ (by kernel_rfl)
   refine XQ.ren (σ' := [(2, pp 1 0), (3, ii 12)]) (h' := [(2, rc encP [] 0 55 2), (1, .cells [ii 0, s0 2 0] 0 34 0), (0, rc (encI .i64) a z0 y0 1)]) (c' := 3) [0, 1, 3] (by decide) rfl ⟨rfl, rfl, trivial⟩ ⟨⟨_, _, rfl, rfl, .inl ⟨rfl, rwP⟩⟩, ⟨_, _, rfl, rfl, .inr ⟨_, _, _, _, rfl, rfl⟩⟩, ⟨_, _, rfl, rfl, .inl ⟨rfl, rwI⟩⟩, trivial⟩ rfl ?_
   refine XQ.ret (by kernel_rfl) ?_
   have h := Option.some.inj h
   subst h
   exact ⟨fun i q => (by cases q), .tuple #[.agg #[ii 0, s0 2 0], ii 12], (by kernel_rfl), [0, 2], .tuple #[.agg #[ii 0, s0 1 0], ii 12], [(1, rc encP [] 0 55 2), (0, rc (encI .i64) a z0 y0 1)], (by decide), rfl, (by kernel_rfl), ⟨⟨_, _, rfl, rfl, .inl ⟨rfl, rwP⟩⟩, ⟨_, _, rfl, rfl, .inl ⟨rfl, rwI⟩⟩, trivial⟩, (by kernel_rfl), (by kernel_rfl), rfl⟩
  | false =>
   have h := cF b2 h
   refine iF (.tmp 16) ?_
   refine kQ ?_
   show XQ _ _ _ _ _ _ _ _
   refine qQ ?_
   refine rT 5 [(0, s0 0 a.length), (2, pp 1 0), (5, pp 3 0)] [(3, .cells [ii ((a.length : Nat) : Int), .slice none 0 0] 0 34 0), (2, rc encP [] 0 55 2), (1, .cells [ii 0, s0 2 0] 0 34 0), (0, rc (encI .i64) a z0 y0 1)] 4 ?_
   refine dQ ?_
   show XQ _ _ _ _ _ _ _ _
   refine XQ.ghost 55 2 rfl (σ' := [(0, s0 0 a.length), (2, pp 1 0), (5, pp 3 0)]) (h' := [(3, .cells [ii ((a.length : Nat) : Int), s0 4 0] 0 34 0), (2, rc encP [] 0 55 2), (1, .cells [ii 0, s0 2 0] 0 34 0), (0, rc (encI .i64) a z0 y0 1)]) ⟨rfl, rfl, rfl, trivial⟩ ⟨⟨_, rfl, .inr ⟨_, _, _, _, rfl, rfl⟩⟩, ⟨_, rfl, .inl rfl⟩, ⟨_, rfl, .inl rfl⟩, ⟨_, rfl, .inl rfl⟩, trivial⟩ ?_
   refine XQ.conv (σ' := [(0, s0 0 a.length), (2, pp 1 0), (5, pp 3 0)]) (h' := [(4, rc encP [] 0 55 2), (3, .cells [ii ((a.length : Nat) : Int), s0 4 0] 0 34 0), (2, rc encP [] 0 55 2), (1, .cells [ii 0, s0 2 0] 0 34 0), (0, rc (encI .i64) a z0 y0 1)]) (c' := 5) ?_ (by kernel_rfl)
   refine qQ ?_
   refine rS 1 [(2, pp 1 0), (5, pp 3 0), (24, s0 0 a.length)] ?_
   cases b3 : (fitsB a.length 8 : Bool) with
   | false => cases (cF b3 h)
   | true =>
    have h := cT b3 h
    refine XR.call E0_ok [2, 5, 25] rfl (K := 55) (args := [s0 0 a.length]) (d := (some (path 12 25))) (by kernel_rfl) (clone55_all (xs := a) (fz := z0) (e0 := y0) (es0 := 1) (c := 5) (by kernel_rfl) (by simp) (Nat.le_refl _) b3) ?_
    rintro _ _ _ ⟨rfl, rfl, rfl⟩
    refine XR.conv (σ' := [(2, pp 1 0), (5, pp 3 0), (25, s0 6 a.length)]) (h' := [(6, rI a), (4, rc encP [] 0 55 2), (3, .cells [ii ((a.length : Nat) : Int), s0 4 0] 0 34 0), (2, rc encP [] 0 55 2), (1, .cells [ii 0, s0 2 0] 0 34 0), (0, rc (encI .i64) a z0 y0 1)]) (c' := 7) ?_ (by kernel_rfl)
    refine rS 1 [(2, pp 1 0), (5, pp 3 0), (6, s0 6 a.length)] ?_
    refine dQ ?_
    show XQ _ _ _ _ _ _ _ _
    refine sQ ?_
    refine qQ ?_
    refine rS 3 [(2, pp 1 0), (5, pp 3 0), (6, s0 6 a.length), (27, ii ((a.length : Nat) : Int)), (28, ii 0)] ?_
    refine dQ ?_
    show XQ _ _ _ _ _ _ _ _
    refine XQ.block (id := 1) (by kernel_rfl) ?_
    refine XQ.loop m (by kernel_rfl) ?_
    obtain ⟨o1, o1_h, h⟩ := bS h
    refine XL.ren (σ' := [(2, pp 1 0), (5, pp 2 0), (6, s0 3 a.length), (27, ii ((a.length : Nat) : Int)), (28, ii 0)]) (h' := [(5, rc encP [] 0 55 2), (4, rc encP [] 0 55 2), (3, rI a), (2, .cells [ii ((a.length : Nat) : Int), s0 5 0] 0 34 0), (1, .cells [ii 0, s0 4 0] 0 34 0), (0, rc (encI .i64) a z0 y0 1)]) (c' := 6) [0, 1, 3, 6, 2, 4] (by decide) rfl ⟨rfl, rfl, rfl, rfl, rfl, trivial⟩ ⟨⟨_, _, rfl, rfl, .inl ⟨rfl, rwP⟩⟩, ⟨_, _, rfl, rfl, .inl ⟨rfl, rwP⟩⟩, ⟨_, _, rfl, rfl, .inl ⟨rfl, rwI⟩⟩, ⟨_, _, rfl, rfl, .inr ⟨_, _, _, _, rfl, rfl⟩⟩, ⟨_, _, rfl, rfl, .inr ⟨_, _, _, _, rfl, rfl⟩⟩, ⟨_, _, rfl, rfl, .inl ⟨rfl, rwI⟩⟩, trivial⟩ rfl ?_
    refine XL.conv (f23_1_ok m m z0 y0 a ((a.length : Nat) : Int) 0 ((a.length : Nat) : Int) a [] o1 o1_h _ ?_) (by first | with_reducible rfl | simp | rfl)
    show XQ _ _ _ _ _ _ _ _
    refine qQ ?_
    refine rT 3 [(2, pp 1 0), (3, ii 0)] [(4, rc encP o1.2 0 55 2), (3, rc encP [] 0 55 2), (2, .cells [ii o1.1, s0 4 o1.2.length] 0 34 0), (1, .cells [ii o1.1, s0 4 o1.2.length] 0 34 0), (0, rc (encI .i64) a z0 y0 1)] 5 ?_
    refine dQ ?_
    show XQ _ _ _ _ _ _ _ _
    refine XQ.ren (σ' := [(2, pp 1 0), (3, ii 0)]) (h' := [(2, rc encP o1.2 0 55 2), (1, .cells [ii o1.1, s0 2 o1.2.length] 0 34 0), (0, rc (encI .i64) a z0 y0 1)]) (c' := 3) [0, 1, 4] (by decide) rfl ⟨rfl, rfl, trivial⟩ ⟨⟨_, _, rfl, rfl, .inl ⟨rfl, rwP⟩⟩, ⟨_, _, rfl, rfl, .inr ⟨_, _, _, _, rfl, rfl⟩⟩, ⟨_, _, rfl, rfl, .inl ⟨rfl, rwI⟩⟩, trivial⟩ rfl ?_
    refine XQ.ret (by kernel_rfl) ?_
    have h := Option.some.inj h
    subst h
    exact ⟨fun i q => (by cases q), .tuple #[.agg #[ii o1.1, s0 2 o1.2.length], ii 0], (by kernel_rfl), [0, 2], .tuple #[.agg #[ii o1.1, s0 1 o1.2.length], ii 0], [(1, rc encP o1.2 0 55 2), (0, rc (encI .i64) a z0 y0 1)], (by decide), rfl, (by kernel_rfl), ⟨⟨_, _, rfl, rfl, .inl ⟨rfl, rwP⟩⟩, ⟨_, _, rfl, rfl, .inl ⟨rfl, rwI⟩⟩, trivial⟩, (by kernel_rfl), (by kernel_rfl), rfl⟩
end Go.Xm
namespace Go.Xm
open Go.RowKit
set_option linter.unusedVariables false
set_option linter.unusedSimpArgs false
set_option maxRecDepth 20000
noncomputable def f72_C72 : Code := Proofs.Tryd.f72.body.getD .skip
noncomputable def f72_C61 : Code := Proofs.Tryd.f61.body.getD .skip
noncomputable def f72_C82 : Code := Proofs.Tryd.f82.body.getD .skip
noncomputable def f72_C83 : Code := Proofs.Tryd.f83.body.getD .skip
noncomputable def f72_L1 : Code := lft (lft (rgt (lft (rgt (rgt (rgt (rgt f72_C72)))))))
noncomputable def f72_L2 : Code := lft (lft (rgt (lft (rgt (rgt (rgt (rgt (rgt (rgt (rgt f72_C72))))))))))
noncomputable def f72_L3 : Code := lft (lft (rgt (lft (rgt (rgt (rgt (lft (lft (rgt (rgt f72_L2))))))))))
noncomputable def f72_L5 : Code := lft (lft (rgt f72_C83))
def f72_1 (m : Nat) : Nat → List (List Int × Int) → List Int → Int → Int → List Int → List Int → Option ((List Int) × (List Int))
 | 0, _, _, _, _, _, _ => none
 | fuel + 1, a, b, x21_1, x22_1, lh2_1, lh3_1 =>
  cond (decide (x22_1 < x21_1)) (
   cond (inRow x22_1 lh2_1.length) (
    cond (inRow x22_1 8) (
     cond (decide (Int.toNat x22_1 < lh3_1.length)) (
      f72_1 m fuel a b x21_1 (w64 (x22_1 + 1)) lh2_1 (List.set lh3_1 (Int.toNat x22_1) (w64 ((List.getD lh2_1 (Int.toNat x22_1) 0) + 1)))
     ) none
    ) none
   ) none
  ) (
   some (lh2_1, lh3_1)
  )

abbrev que1 (lh2_1 : List Int) (x21_1 : Int) (t : St) : St := (0, .map (some 0)) :: (5, s0 2 lh2_1.length) :: (6, pp 3 0) :: (20, s0 2 lh2_1.length) :: (21, ii x21_1) :: t
theorem f72_1_ok (m : Nat) : ∀ (fuel : Nat) (a : List (List Int × Int)) (z1 : Nat) (y1 : Nat) (b : List Int) (x21_1 : Int) (x22_1 : Int) (lh2_1 : List Int) (lh3_1 : List Int) (o : ((List Int) × (List Int))), f72_1 m fuel a b x21_1 x22_1 lh2_1 lh3_1 = some o → ∀ Q : QP, Q (.exit 0) [(0, .map (some 0)), (5, s0 2 o.1.length), (6, pp 3 0)] [(3, rK o.2), (2, rI o.1), (1, rc (encI .i64) b z1 y1 1), (0, iM a)] 4 → XL (keepEnv E0) 85 2 fuel f72_L1 (que1 lh2_1 x21_1 [(22, ii x22_1)]) [(3, rK lh3_1), (2, rI lh2_1), (1, rc (encI .i64) b z1 y1 1), (0, iM a)] 4 Q
 | 0, a, z1, y1, b, x21_1, x22_1, lh2_1, lh3_1, o, h, Q, hQ => by cases h
 | fuel + 1, a, z1, y1, b, x21_1, x22_1, lh2_1, lh3_1, o, h, Q, hQ => by
  unfold f72_1 at h
  refine XL.succ kE ?_
  refine sQk ?_
  refine rQ ?_
  refine rSk 1 (que1 lh2_1 x21_1 [(22, ii x22_1), (23, .bool (decide (x22_1 < x21_1)))]) ?_
  refine dQ ?_
  show XQ _ _ _ _ _ _ _ _
  refine sQk ?_
  cases b1 : (decide (x22_1 < x21_1) : Bool) with
  | true =>
   have h := cT b1 h
   refine iT (.tmp 23) ?_
   refine kQ ?_
   show XQ _ _ _ _ _ _ _ _
   refine sQk ?_
   refine XQ.block (id := 1) (by kernel_rfl) ?_
   refine sQk ?_
   refine rQ ?_
   refine rSk 1 (que1 lh2_1 x21_1 [(22, ii x22_1), (24, ii x22_1)]) ?_
   cases b2 : (inRow x22_1 lh2_1.length : Bool) with
   | false => cases (cF b2 h)
   | true =>
    have h := cT b2 h
    refine XR.rd kE [0, 5, 6, 20, 21, 22, 24, 25] rfl (v := pp 2 ((Int.toNat x22_1) * 1)) (v_idx (s := 1) (x := (src 85 (.tmp 20))) (y := (src 85 (.tmp 22))) (b := 2) (o := 0) (len := lh2_1.length) (cap := lh2_1.length) (ik := .i64) (i := x22_1) (off := (Int.toNat x22_1) * 1) (d := (some (path 12 25))) (by kernel_rfl) (by kernel_rfl) (by kernel_rfl) b2 (by omega)) (σ' := (que1 lh2_1 x21_1 [(22, ii x22_1), (24, ii x22_1), (25, pp 2 ((Int.toNat x22_1) * 1))])) (by kernel_rfl) ?_
    refine XR.rd kE [0, 5, 6, 20, 21, 22, 24, 26] rfl (v := ii (List.getD lh2_1 (Int.toNat x22_1) 0)) (v_load1 (encI_ok .i64) (x := (src 85 (.tmp 25))) (b := 2) (off := (Int.toNat x22_1) * 1) (xs := lh2_1) (fz := 0) (e := 3) (es := 1) (d := (some (path 12 26))) (by kernel_rfl) (by kernel_rfl) (by kernel_rfl) (Int.toNat x22_1) 0 0 (by first | with_reducible rfl | omega | rfl) (row_len (inRow_toNat b2) (by simp)) rfl rfl) (σ' := (que1 lh2_1 x21_1 [(22, ii x22_1), (24, ii x22_1), (26, ii (List.getD lh2_1 (Int.toNat x22_1) 0))])) (by kernel_rfl) ?_
    refine rSk 2 [(0, .map (some 0)), (5, s0 2 lh2_1.length), (6, pp 3 0), (7, ii x22_1), (8, ii (List.getD lh2_1 (Int.toNat x22_1) 0)), (20, s0 2 lh2_1.length), (21, ii x21_1), (22, ii x22_1)] ?_
    refine dQ ?_
    show XQ _ _ _ _ _ _ _ _
    refine rQ ?_
    refine rSk 3 (que1 lh2_1 x21_1 [(22, ii x22_1), (27, ii x22_1), (29, ii (w64 ((List.getD lh2_1 (Int.toNat x22_1) 0) + 1)))]) ?_
    cases b3 : (inRow x22_1 8 : Bool) with
    | false => cases (cF b3 h)
    | true =>
     have h := cT b3 h
     refine XR.rd kE [0, 5, 6, 20, 21, 22, 29, 30] rfl (v := pp 3 ((Int.toNat x22_1) * 1)) (v_idxA (s := 1) (len := 8) (x := (src 85 (.tmp 6))) (y := (src 85 (.tmp 27))) (b := 3) (o := 0) (ik := .i64) (i := x22_1) (off := (Int.toNat x22_1) * 1) (d := (some (path 12 30))) (by kernel_rfl) (by kernel_rfl) (by kernel_rfl) b3 (by omega)) (σ' := (que1 lh2_1 x21_1 [(22, ii x22_1), (29, ii (w64 ((List.getD lh2_1 (Int.toNat x22_1) 0) + 1))), (30, pp 3 ((Int.toNat x22_1) * 1))])) (by kernel_rfl) ?_
     cases b4 : (decide (Int.toNat x22_1 < lh3_1.length) : Bool) with
     | false => cases (cF b4 h)
     | true =>
      have h := cT b4 h
      refine XR.ef kE [0, 5, 6, 20, 21, 22] rfl (e_store (encI_ok .i64) (size := 1) (x := (src 85 (.tmp 30))) (y := (src 85 (.tmp 29))) (b := 3) (off := (Int.toNat x22_1) * 1) (xs := lh3_1) (e := 123) (es := 0) (d := none) (h' := [(3, rK (List.set lh3_1 (Int.toNat x22_1) (w64 ((List.getD lh2_1 (Int.toNat x22_1) 0) + 1)))), (2, rI lh2_1), (1, rc (encI .i64) b z1 y1 1), (0, iM a)]) (w := ii (w64 ((List.getD lh2_1 (Int.toNat x22_1) 0) + 1))) (ws := [ii (w64 ((List.getD lh2_1 (Int.toNat x22_1) 0) + 1))]) (a := w64 ((List.getD lh2_1 (Int.toNat x22_1) 0) + 1)) (by kernel_rfl) (by kernel_rfl) (by kernel_rfl) (Int.toNat x22_1) 0 0 (by first | with_reducible rfl | omega | rfl) (row_len b4 (by simp)) (by kernel_rfl) rfl rfl rfl rfl rfl (by kernel_rfl)) (σ' := (que1 lh2_1 x21_1 [(22, ii x22_1)])) (by kernel_rfl) ?_
      refine dQ ?_
      show XQ _ _ _ _ _ _ _ _
      refine rQ ?_
      refine rSk 2 (que1 lh2_1 x21_1 [(22, ii (w64 (x22_1 + 1)))]) ?_
      refine dQ ?_
      show XL _ _ _ _ _ _ _ _ _
      refine XL.ren (σ' := (que1 lh2_1 x21_1 [(22, ii (w64 (x22_1 + 1)))])) (h' := [(3, rK (List.set lh3_1 (Int.toNat x22_1) (w64 ((List.getD lh2_1 (Int.toNat x22_1) 0) + 1)))), (2, rI lh2_1), (1, rc (encI .i64) b z1 y1 1), (0, iM a)]) (c' := 4) [0, 1, 2, 3] (by decide) rfl ⟨rfl, rfl, rfl, rfl, rfl, rfl, trivial⟩ ⟨⟨_, _, rfl, rfl, .inl ⟨rfl, rwI⟩⟩, ⟨_, _, rfl, rfl, .inl ⟨rfl, rwI⟩⟩, ⟨_, _, rfl, rfl, .inl ⟨rfl, rwI⟩⟩, ⟨_, _, rfl, rfl, .inl ⟨rfl, trivial⟩⟩, trivial⟩ rfl ?_
      refine XL.conv (f72_1_ok m fuel a z1 y1 b x21_1 (w64 (x22_1 + 1)) lh2_1 (List.set lh3_1 (Int.toNat x22_1) (w64 ((List.getD lh2_1 (Int.toNat x22_1) 0) + 1))) o h Q hQ) (by first | with_reducible rfl | simp | rfl)
  | false =>
   have h := cF b1 h
   refine iF (.tmp 23) ?_
   refine XQ.ren (σ' := [(0, .map (some 0)), (5, s0 2 lh2_1.length), (6, pp 3 0)]) (h' := [(3, rK lh3_1), (2, rI lh2_1), (1, rc (encI .i64) b z1 y1 1), (0, iM a)]) (c' := 4) [0, 1, 2, 3] (by decide) rfl ⟨rfl, rfl, rfl, trivial⟩ ⟨⟨_, _, rfl, rfl, .inl ⟨rfl, rwI⟩⟩, ⟨_, _, rfl, rfl, .inl ⟨rfl, rwI⟩⟩, ⟨_, _, rfl, rfl, .inl ⟨rfl, rwI⟩⟩, ⟨_, _, rfl, rfl, .inl ⟨rfl, trivial⟩⟩, trivial⟩ rfl ?_
   refine XQ.exit (i := 0) (by kernel_rfl) ?_
   cases h
   exact hQ
def f72_3 (m : Nat) : Nat → List Int → Int → Int → Int → List (List Int × Int) → List Int → List Int → Int → List Int → Option (List Int)
 | 0, _, _, _, _, _, _, _, _, _ => none
 | fuel + 1, b, x11_2, x43_2, x44_2, mh0_2, lh2_2, lh3_2, x14_3, lh4_3 =>
  cond (x14_3 != 0) (
   cond (tzC x14_3) (
    cond (inRow (tzF x14_3) lh4_3.length) (
     f72_3 m fuel b x11_2 x43_2 x44_2 mh0_2 lh2_2 lh3_2 (andV .u64 x14_3 (IntKind.wrap .u64 (x14_3 - 1))) (List.set lh4_3 (Int.toNat (tzF x14_3)) (w64 ((List.getD lh4_3 (Int.toNat (tzF x14_3)) 0) - 1)))
    ) none
   ) none
  ) (
   some (lh4_3)
  )

abbrev que2 (lh2_2 : List Int) (lh4_3 : List Int) (x11_2 : Int) (x14_3 : Int) (x43_2 : Int) (x44_2 : Int) (t : St) : St := (0, .map (some 0)) :: (5, s0 2 lh2_2.length) :: (6, pp 3 0) :: (11, ii x11_2) :: (13, s0 4 lh4_3.length) :: (14, uu x14_3) :: (43, uu x43_2) :: (44, uu x44_2) :: t
theorem f72_3_ok (m : Nat) : ∀ (fuel : Nat) (z1 : Nat) (y1 : Nat) (b : List Int) (x11_2 : Int) (x43_2 : Int) (x44_2 : Int) (mh0_2 : List (List Int × Int)) (lh2_2 : List Int) (lh3_2 : List Int) (x14_3 : Int) (lh4_3 : List Int) (o : (List Int)), f72_3 m fuel b x11_2 x43_2 x44_2 mh0_2 lh2_2 lh3_2 x14_3 lh4_3 = some o → ∀ Q : QP, Q (.exit 4) [(0, .map (some 0)), (5, s0 2 lh2_2.length), (6, pp 3 0), (11, ii x11_2), (13, s0 4 o.length), (43, uu x43_2), (44, uu x44_2)] [(4, rI o), (3, rK lh3_2), (2, rI lh2_2), (1, rc (encI .i64) b z1 y1 1), (0, iM mh0_2)] 5 → XL (keepEnv E0) 85 2 fuel f72_L3 (que2 lh2_2 lh4_3 x11_2 x14_3 x43_2 x44_2 []) [(4, rI lh4_3), (3, rK lh3_2), (2, rI lh2_2), (1, rc (encI .i64) b z1 y1 1), (0, iM mh0_2)] 5 Q
 | 0, z1, y1, b, x11_2, x43_2, x44_2, mh0_2, lh2_2, lh3_2, x14_3, lh4_3, o, h, Q, hQ => by cases h
 | fuel + 1, z1, y1, b, x11_2, x43_2, x44_2, mh0_2, lh2_2, lh3_2, x14_3, lh4_3, o, h, Q, hQ => by
  unfold f72_3 at h
  refine XL.succ kE ?_
  refine sQk ?_
  refine sQk ?_
  refine rQ ?_
  refine rSk 2 (que2 lh2_2 lh4_3 x11_2 x14_3 x43_2 x44_2 [(58, .bool (x14_3 != 0))]) ?_
  refine dQ ?_
  show XQ _ _ _ _ _ _ _ _
  cases b1 : (x14_3 != 0 : Bool) with
  | true =>
   have h := cT b1 h
   refine iT (.tmp 58) ?_
   refine kQ ?_
   show XQ _ _ _ _ _ _ _ _
   refine sQk ?_
   refine XQ.block (id := 5) (by kernel_rfl) ?_
   refine rQ ?_
   refine rSk 2 (que2 lh2_2 lh4_3 x11_2 x14_3 x43_2 x44_2 [(63, s0 4 lh4_3.length), (64, uu x14_3)]) ?_
   cases b2 : (tzC x14_3 : Bool) with
   | false => cases (cF b2 h)
   | true =>
    have h := cT b2 h
    refine XR.call kE [0, 5, 6, 11, 13, 14, 43, 44, 63, 65] rfl (K := 96) (args := [uu x14_3]) (d := (some (path 12 65))) (by kernel_rfl) (KC.of_calls kE (F := Proofs.Tryd.f96) (v := ii (tzF x14_3)) (by kernel_rfl) rfl rfl (tzF_ok b2)) ?_
    rintro _ _ _ ⟨rfl, rfl, rfl⟩
    refine XR.conv (σ' := (que2 lh2_2 lh4_3 x11_2 x14_3 x43_2 x44_2 [(63, s0 4 lh4_3.length), (65, ii (tzF x14_3))])) (h' := [(4, rI lh4_3), (3, rK lh3_2), (2, rI lh2_2), (1, rc (encI .i64) b z1 y1 1), (0, iM mh0_2)]) (c' := 5) ?_ (by kernel_rfl)
    cases b3 : (inRow (tzF x14_3) lh4_3.length : Bool) with
    | false => cases (cF b3 h)
    | true =>
     have h := cT b3 h
     refine XR.rd kE [0, 5, 6, 11, 13, 14, 43, 44, 63, 65, 66] rfl (v := pp 4 ((Int.toNat (tzF x14_3)) * 1)) (v_idx (s := 1) (x := (src 85 (.tmp 63))) (y := (src 85 (.tmp 65))) (b := 4) (o := 0) (len := lh4_3.length) (cap := lh4_3.length) (ik := .i64) (i := tzF x14_3) (off := (Int.toNat (tzF x14_3)) * 1) (d := (some (path 12 66))) (by kernel_rfl) (by kernel_rfl) (by kernel_rfl) b3 (by omega)) (σ' := (que2 lh2_2 lh4_3 x11_2 x14_3 x43_2 x44_2 [(63, s0 4 lh4_3.length), (65, ii (tzF x14_3)), (66, pp 4 ((Int.toNat (tzF x14_3)) * 1))])) (by kernel_rfl) ?_
     refine XR.rd kE [0, 5, 6, 11, 13, 14, 43, 44, 63, 65, 67] rfl (v := ii (List.getD lh4_3 (Int.toNat (tzF x14_3)) 0)) (v_load1 (encI_ok .i64) (x := (src 85 (.tmp 66))) (b := 4) (off := (Int.toNat (tzF x14_3)) * 1) (xs := lh4_3) (fz := 0) (e := 3) (es := 1) (d := (some (path 12 67))) (by kernel_rfl) (by kernel_rfl) (by kernel_rfl) (Int.toNat (tzF x14_3)) 0 0 (by first | with_reducible rfl | omega | rfl) (row_len (inRow_toNat b3) (by simp)) rfl rfl) (σ' := (que2 lh2_2 lh4_3 x11_2 x14_3 x43_2 x44_2 [(63, s0 4 lh4_3.length), (65, ii (tzF x14_3)), (67, ii (List.getD lh4_3 (Int.toNat (tzF x14_3)) 0))])) (by kernel_rfl) ?_
     refine rSk 1 (que2 lh2_2 lh4_3 x11_2 x14_3 x43_2 x44_2 [(63, s0 4 lh4_3.length), (65, ii (tzF x14_3)), (68, ii (w64 ((List.getD lh4_3 (Int.toNat (tzF x14_3)) 0) - 1)))]) ?_
     refine XR.rd kE [0, 5, 6, 11, 13, 14, 43, 44, 68, 69] rfl (v := pp 4 ((Int.toNat (tzF x14_3)) * 1)) (v_idx (s := 1) (x := (src 85 (.tmp 63))) (y := (src 85 (.tmp 65))) (b := 4) (o := 0) (len := lh4_3.length) (cap := lh4_3.length) (ik := .i64) (i := tzF x14_3) (off := (Int.toNat (tzF x14_3)) * 1) (d := (some (path 12 69))) (by kernel_rfl) (by kernel_rfl) (by kernel_rfl) b3 (by omega)) (σ' := (que2 lh2_2 lh4_3 x11_2 x14_3 x43_2 x44_2 [(68, ii (w64 ((List.getD lh4_3 (Int.toNat (tzF x14_3)) 0) - 1))), (69, pp 4 ((Int.toNat (tzF x14_3)) * 1))])) (by kernel_rfl) ?_
     refine XR.ef kE [0, 5, 6, 11, 13, 14, 43, 44] rfl (e_store (encI_ok .i64) (size := 1) (x := (src 85 (.tmp 69))) (y := (src 85 (.tmp 68))) (b := 4) (off := (Int.toNat (tzF x14_3)) * 1) (xs := lh4_3) (e := 3) (es := 1) (d := none) (h' := [(4, rI (List.set lh4_3 (Int.toNat (tzF x14_3)) (w64 ((List.getD lh4_3 (Int.toNat (tzF x14_3)) 0) - 1)))), (3, rK lh3_2), (2, rI lh2_2), (1, rc (encI .i64) b z1 y1 1), (0, iM mh0_2)]) (w := ii (w64 ((List.getD lh4_3 (Int.toNat (tzF x14_3)) 0) - 1))) (ws := [ii (w64 ((List.getD lh4_3 (Int.toNat (tzF x14_3)) 0) - 1))]) (a := w64 ((List.getD lh4_3 (Int.toNat (tzF x14_3)) 0) - 1)) (by kernel_rfl) (by kernel_rfl) (by kernel_rfl) (Int.toNat (tzF x14_3)) 0 0 (by first | with_reducible rfl | omega | rfl) (row_len (inRow_toNat b3) (by simp)) (by kernel_rfl) rfl rfl rfl rfl rfl (by kernel_rfl)) (σ' := (que2 lh2_2 lh4_3 x11_2 x14_3 x43_2 x44_2 [])) (by kernel_rfl) ?_
     refine dQ ?_
     show XQ _ _ _ _ _ _ _ _
     refine rQ ?_
     refine rSk 5 [(0, .map (some 0)), (5, s0 2 lh2_2.length), (6, pp 3 0), (11, ii x11_2), (13, s0 4 lh4_3.length), (14, uu (andV .u64 x14_3 (IntKind.wrap .u64 (x14_3 - 1)))), (43, uu x43_2), (44, uu x44_2)] ?_
     refine dQ ?_
     show XL _ _ _ _ _ _ _ _ _
     refine XL.ren (σ' := [(0, .map (some 0)), (5, s0 2 lh2_2.length), (6, pp 3 0), (11, ii x11_2), (13, s0 4 lh4_3.length), (14, uu (andV .u64 x14_3 (IntKind.wrap .u64 (x14_3 - 1)))), (43, uu x43_2), (44, uu x44_2)]) (h' := [(4, rI (List.set lh4_3 (Int.toNat (tzF x14_3)) (w64 ((List.getD lh4_3 (Int.toNat (tzF x14_3)) 0) - 1)))), (3, rK lh3_2), (2, rI lh2_2), (1, rc (encI .i64) b z1 y1 1), (0, iM mh0_2)]) (c' := 5) [0, 1, 2, 3, 4] (by decide) rfl ⟨rfl, rfl, rfl, rfl, rfl, rfl, rfl, rfl, trivial⟩ ⟨⟨_, _, rfl, rfl, .inl ⟨rfl, rwI⟩⟩, ⟨_, _, rfl, rfl, .inl ⟨rfl, rwI⟩⟩, ⟨_, _, rfl, rfl, .inl ⟨rfl, rwI⟩⟩, ⟨_, _, rfl, rfl, .inl ⟨rfl, rwI⟩⟩, ⟨_, _, rfl, rfl, .inl ⟨rfl, trivial⟩⟩, trivial⟩ rfl ?_
     refine XL.conv (f72_3_ok m fuel z1 y1 b x11_2 x43_2 x44_2 mh0_2 lh2_2 lh3_2 (andV .u64 x14_3 (IntKind.wrap .u64 (x14_3 - 1))) (List.set lh4_3 (Int.toNat (tzF x14_3)) (w64 ((List.getD lh4_3 (Int.toNat (tzF x14_3)) 0) - 1))) o h Q hQ) (by first | with_reducible rfl | simp | rfl)
  | false =>
   have h := cF b1 h
   refine iF (.tmp 58) ?_
   refine XQ.ren (σ' := [(0, .map (some 0)), (5, s0 2 lh2_2.length), (6, pp 3 0), (11, ii x11_2), (13, s0 4 lh4_3.length), (43, uu x43_2), (44, uu x44_2)]) (h' := [(4, rI lh4_3), (3, rK lh3_2), (2, rI lh2_2), (1, rc (encI .i64) b z1 y1 1), (0, iM mh0_2)]) (c' := 5) [0, 1, 2, 3, 4] (by decide) rfl ⟨rfl, rfl, rfl, rfl, rfl, rfl, rfl, trivial⟩ ⟨⟨_, _, rfl, rfl, .inl ⟨rfl, rwI⟩⟩, ⟨_, _, rfl, rfl, .inl ⟨rfl, rwI⟩⟩, ⟨_, _, rfl, rfl, .inl ⟨rfl, rwI⟩⟩, ⟨_, _, rfl, rfl, .inl ⟨rfl, rwI⟩⟩, ⟨_, _, rfl, rfl, .inl ⟨rfl, trivial⟩⟩, trivial⟩ rfl ?_
   refine XQ.exit (i := 4) (by kernel_rfl) ?_
   cases h
   exact hQ
def f72_4 (m : Nat) : Nat → List Int → List (List Int × Int) → List Int → List Int → List Int → Option (List Int)
 | 0, _, _, _, _, _ => none
 | fuel + 1, b, mh0_2, lh2_2, lh3_2, lh6_4 =>
  some (lh6_4)
theorem f72_4_ok (m : Nat) : ∀ (fuel : Nat) (z1 : Nat) (y1 : Nat) (b : List Int) (mh0_2 : List (List Int × Int)) (lh2_2 : List Int) (lh3_2 : List Int) (lh6_4 : List Int) (o : (List Int)), f72_4 m fuel b mh0_2 lh2_2 lh3_2 lh6_4 = some o → ∀ Q : QP, Q (.exit 0) [] [(8, rI []), (7, .cells [s0 4 0] 0 22 0), (6, rI o), (5, .cells [ii 0] 0 3 1), (3, rK lh3_2), (2, rI lh2_2), (1, rc (encI .i64) b z1 y1 1), (0, iM mh0_2)] 9 → XL (keepEnv E0) 28 9 fuel f72_L5 [(0, s0 8 0), (2, ii 0), (3, ii (-1))] [(8, rI []), (7, .cells [s0 4 0] 0 22 0), (6, rI lh6_4), (5, .cells [ii 0] 0 3 1), (3, rK lh3_2), (2, rI lh2_2), (1, rc (encI .i64) b z1 y1 1), (0, iM mh0_2)] 9 Q
 | 0, z1, y1, b, mh0_2, lh2_2, lh3_2, lh6_4, o, h, Q, hQ => by cases h
 | fuel + 1, z1, y1, b, mh0_2, lh2_2, lh3_2, lh6_4, o, h, Q, hQ => by
  unfold f72_4 at h
  refine XL.succ kE ?_
  refine sQk ?_
  refine sQk ?_
  refine rQ ?_
  refine rSk 3 [(0, s0 8 0), (2, ii 0), (3, ii (-1)), (9, .bool false)] ?_
  refine dQ ?_
  show XQ _ _ _ _ _ _ _ _
  refine iF (.tmp 9) ?_
  refine XQ.ren (σ' := []) (h' := [(8, rI []), (7, .cells [s0 4 0] 0 22 0), (6, rI lh6_4), (5, .cells [ii 0] 0 3 1), (3, rK lh3_2), (2, rI lh2_2), (1, rc (encI .i64) b z1 y1 1), (0, iM mh0_2)]) (c' := 9) [0, 1, 2, 3, 4, 5, 6, 7, 8] (by decide) rfl trivial ⟨⟨_, _, rfl, rfl, .inl ⟨rfl, rwI⟩⟩, ⟨_, _, rfl, rfl, .inr ⟨_, _, _, _, rfl, rfl⟩⟩, ⟨_, _, rfl, rfl, .inl ⟨rfl, rwI⟩⟩, ⟨_, _, rfl, rfl, .inr ⟨_, _, _, _, rfl, rfl⟩⟩, ⟨_, _, rfl, rfl, .inl ⟨rfl, rwI⟩⟩, ⟨_, _, rfl, rfl, .inl ⟨rfl, rwI⟩⟩, ⟨_, _, rfl, rfl, .inl ⟨rfl, rwI⟩⟩, ⟨_, _, rfl, rfl, .inl ⟨rfl, trivial⟩⟩, trivial⟩ rfl ?_
  refine XQ.exit (i := 0) (by kernel_rfl) ?_
  cases h
  exact hQ
def f72_2 (m : Nat) (F : (List (List Int × Int)) → (List Int) → Option (Int × (List (List Int × Int)))) : Nat → List Int → Int → Int → Int → List (List Int × Int) → List Int → List Int → Option (Int × (List (List Int × Int)) × (List Int))
 | 0, _, _, _, _, _, _, _ => none
 | fuel + 1, b, x11_2, x43_2, x44_2, mh0_2, lh2_2, lh3_2 =>
  cond (decide (x44_2 < x43_2)) (
   (f94 m x44_2).bind fun r20 =>
    cond (inRow 0 lh2_2.length) (
     cond (r20 != (List.getD lh2_2 0 0)) (
      f72_2 m F fuel b x11_2 x43_2 (IntKind.wrap .u64 (x44_2 + 1)) mh0_2 lh2_2 lh3_2
     ) (
      cond (cutOK 1 ((lh2_2.length : Nat) : Int) ((lh2_2.length : Nat) : Int) lh2_2.length) (
       cond (decide (1 + (lh2_2.length - 1) ≤ lh2_2.length)) (
        cond (decide ((lh2_2.length - 1) ≤ (lh2_2.length - 1))) (
         cond (fitsB (lh2_2.length - 1) 8) (
          (f72_3 m m b x11_2 x43_2 x44_2 mh0_2 lh2_2 lh3_2 x44_2 (List.take (lh2_2.length - 1) (List.drop 1 lh2_2))).bind fun o3 =>
           cond (decide (1 ≤ o3.length)) (
            cond (fitsB (o3.length + 1) 8) (
             (f97 m (o3 ++ [0])).bind fun r21 =>
              cond (decide (r21 ≥ 0)) (
               (F mh0_2 o3).bind fun r23 =>
                f72_2 m F fuel b (w64 (x11_2 + r23.1)) x43_2 (IntKind.wrap .u64 (x44_2 + 1)) r23.2 lh2_2 lh3_2
              ) (
               f72_2 m F fuel b x11_2 x43_2 (IntKind.wrap .u64 (x44_2 + 1)) mh0_2 lh2_2 lh3_2
              )
            ) none
           ) (
            (f97 m [0]).bind fun r24 =>
             cond (decide (r24 ≥ 0)) (
              (f72_4 m m b mh0_2 lh2_2 lh3_2 [0]).bind fun o4 =>
               f72_2 m F fuel b (w64 (x11_2 + 1)) x43_2 (IntKind.wrap .u64 (x44_2 + 1)) mh0_2 lh2_2 lh3_2
             ) (
              f72_2 m F fuel b x11_2 x43_2 (IntKind.wrap .u64 (x44_2 + 1)) mh0_2 lh2_2 lh3_2
             )
           )
         ) none
        ) none
       ) none
      ) none
     )
    ) none
  ) (
   some (x11_2, mh0_2, lh3_2)
  )
theorem f72_2_ok (m : Nat) (F : (List (List Int × Int)) → (List Int) → Option (Int × (List (List Int × Int)))) (hF : ∀ (z1 : Nat) (y1 : Nat) (a : List (List Int × Int)) (b : List Int) (o : Int × (List (List Int × Int))), F a b = some o → KC E0 72 [.map (some 0), s0 1 b.length] [(1, rc (encI .i64) b z1 y1 1), (0, iM a)] 2 (fun v h' _ => v = ii o.1 ∧ hget h' 0 = some (iM o.2))) : ∀ (fuel : Nat) (z1 : Nat) (y1 : Nat) (b : List Int) (x11_2 : Int) (x43_2 : Int) (x44_2 : Int) (mh0_2 : List (List Int × Int)) (lh2_2 : List Int) (lh3_2 : List Int) (o : (Int × (List (List Int × Int)) × (List Int))), f72_2 m F fuel b x11_2 x43_2 x44_2 mh0_2 lh2_2 lh3_2 = some o → ∀ Q : QP, Q (.exit 2) [(0, .map (some 0)), (6, pp 2 0), (11, ii o.1)] [(2, rK o.2.2), (1, rc (encI .i64) b z1 y1 1), (0, iM o.2.1)] 3 → XL (keepEnv E0) 85 2 fuel f72_L2 [(0, .map (some 0)), (5, s0 2 lh2_2.length), (6, pp 3 0), (11, ii x11_2), (43, uu x43_2), (44, uu x44_2)] [(3, rK lh3_2), (2, rI lh2_2), (1, rc (encI .i64) b z1 y1 1), (0, iM mh0_2)] 4 Q
 | 0, z1, y1, b, x11_2, x43_2, x44_2, mh0_2, lh2_2, lh3_2, o, h, Q, hQ => by cases h
 | fuel + 1, z1, y1, b, x11_2, x43_2, x44_2, mh0_2, lh2_2, lh3_2, o, h, Q, hQ => by
  unfold f72_2 at h
  refine XL.succ kE ?_
  refine sQk ?_
  refine rQ ?_
  refine rSk 1 [(0, .map (some 0)), (5, s0 2 lh2_2.length), (6, pp 3 0), (11, ii x11_2), (43, uu x43_2), (44, uu x44_2), (45, .bool (decide (x44_2 < x43_2)))] ?_
  refine dQ ?_
  show XQ _ _ _ _ _ _ _ _
  refine sQk ?_
  cases b1 : (decide (x44_2 < x43_2) : Bool) with
  | true =>
   have h := cT b1 h
   refine iT (.tmp 45) ?_
   refine kQ ?_
   show XQ _ _ _ _ _ _ _ _
   refine sQk ?_
   refine XQ.block (id := 3) (by kernel_rfl) ?_
   refine sQk ?_
   refine rQ ?_
   refine rSk 2 [(0, .map (some 0)), (5, s0 2 lh2_2.length), (6, pp 3 0), (11, ii x11_2), (12, uu x44_2), (43, uu x43_2), (44, uu x44_2)] ?_
   refine dQ ?_
   show XQ _ _ _ _ _ _ _ _
   refine sQk ?_
   refine sQk ?_
   refine XQ.quiet kE (by kernel_rfl) (by kernel_rfl) ?_
   refine XU.run kE 1 1 [0, 5, 6, 11, 12, 43, 44, 47] rfl (σ' := [(0, .map (some 0)), (5, s0 2 lh2_2.length), (6, pp 3 0), (11, ii x11_2), (12, uu x44_2), (43, uu x43_2), (44, uu x44_2), (47, uu x44_2)]) (by kernel_rfl) ?_
   obtain ⟨r20, r20_h, h⟩ := bS h
   refine XU.call kE [0, 5, 6, 11, 12, 43, 44, 48] rfl (K := 94) (F := Proofs.Tryd.f94) (args := [uu x44_2]) (d := (some (path 12 48))) (v := ii r20) (by kernel_rfl) (by kernel_rfl) rfl rfl (fun w hI => f94_ok m x44_2 r20 r20_h w hI) (σ' := [(0, .map (some 0)), (5, s0 2 lh2_2.length), (6, pp 3 0), (11, ii x11_2), (12, uu x44_2), (43, uu x43_2), (44, uu x44_2), (48, ii r20)]) (by kernel_rfl) ?_
   refine XU.run kE 1 1 [0, 5, 6, 11, 12, 43, 44, 48, 49] rfl (σ' := [(0, .map (some 0)), (5, s0 2 lh2_2.length), (6, pp 3 0), (11, ii x11_2), (12, uu x44_2), (43, uu x43_2), (44, uu x44_2), (48, ii r20), (49, s0 2 lh2_2.length)]) (by kernel_rfl) ?_
   cases b2 : (inRow 0 lh2_2.length : Bool) with
   | false => cases (cF b2 h)
   | true =>
    have h := cT b2 h
    refine XU.rd kE [0, 5, 6, 11, 12, 43, 44, 48, 50] rfl (v := pp 2 (0 * 1)) (v_idx (s := 1) (x := (src 85 (.tmp 49))) (y := (src 85 (.const (ii 0)))) (b := 2) (o := 0) (len := lh2_2.length) (cap := lh2_2.length) (ik := .i64) (i := 0) (off := 0 * 1) (d := (some (path 12 50))) (by kernel_rfl) (by kernel_rfl) (by kernel_rfl) b2 (by omega)) (σ' := [(0, .map (some 0)), (5, s0 2 lh2_2.length), (6, pp 3 0), (11, ii x11_2), (12, uu x44_2), (43, uu x43_2), (44, uu x44_2), (48, ii r20), (50, pp 2 (0 * 1))]) (by kernel_rfl) ?_
    refine XU.rd kE [0, 5, 6, 11, 12, 43, 44, 48, 51] rfl (v := ii (List.getD lh2_2 0 0)) (v_load1 (encI_ok .i64) (x := (src 85 (.tmp 50))) (b := 2) (off := 0 * 1) (xs := lh2_2) (fz := 0) (e := 3) (es := 1) (d := (some (path 12 51))) (by kernel_rfl) (by kernel_rfl) (by kernel_rfl) 0 0 0 (by first | with_reducible rfl | omega | rfl) (row_len (inRow_toNat b2) (by simp)) rfl rfl) (σ' := [(0, .map (some 0)), (5, s0 2 lh2_2.length), (6, pp 3 0), (11, ii x11_2), (12, uu x44_2), (43, uu x43_2), (44, uu x44_2), (48, ii r20), (51, ii (List.getD lh2_2 0 0))]) (by kernel_rfl) ?_
    refine XU.run kE 1 1 [0, 5, 6, 11, 12, 43, 44, 52] rfl (σ' := [(0, .map (some 0)), (5, s0 2 lh2_2.length), (6, pp 3 0), (11, ii x11_2), (12, uu x44_2), (43, uu x43_2), (44, uu x44_2), (52, .bool (r20 != (List.getD lh2_2 0 0)))]) (by kernel_rfl) ?_
    refine XU.done (by kernel_rfl) ?_
    show XQ _ _ _ _ _ _ _ _
    cases b3 : (r20 != (List.getD lh2_2 0 0) : Bool) with
    | true =>
     have h := cT b3 h
     refine iT (.tmp 52) ?_
     refine XQ.exit (i := 3) (by kernel_rfl) ?_
     show XQ _ _ _ _ _ _ _ _
     refine rQ ?_
     refine rSk 2 [(0, .map (some 0)), (5, s0 2 lh2_2.length), (6, pp 3 0), (11, ii x11_2), (43, uu x43_2), (44, uu (IntKind.wrap .u64 (x44_2 + 1)))] ?_
     refine dQ ?_
     show XL _ _ _ _ _ _ _ _ _
     refine XL.conv (f72_2_ok m F hF fuel z1 y1 b x11_2 x43_2 (IntKind.wrap .u64 (x44_2 + 1)) mh0_2 lh2_2 lh3_2 o h Q hQ) (by first | with_reducible rfl | simp | rfl)
    | false =>
     have h := cF b3 h
     refine iF (.tmp 52) ?_
     refine kQ ?_
     show XQ _ _ _ _ _ _ _ _
     refine sQk ?_
     refine rQ ?_
     refine rSk 1 [(0, .map (some 0)), (5, s0 2 lh2_2.length), (6, pp 3 0), (11, ii x11_2), (12, uu x44_2), (43, uu x43_2), (44, uu x44_2), (53, s0 2 lh2_2.length)] ?_
     cases b4 : (cutOK 1 ((lh2_2.length : Nat) : Int) ((lh2_2.length : Nat) : Int) lh2_2.length : Bool) with
     | false => cases (cF b4 h)
     | true =>
      have h := cT b4 h
      refine XR.rd kE [0, 5, 6, 11, 12, 43, 44, 54] rfl (v := sl 2 (1 * 1) (lh2_2.length - 1) (lh2_2.length - 1)) (v_cut (nt := 85) (s := 1) (x := (src 85 (.tmp 53))) (lo := (some (.const (ii 1)))) (hi := none) (mx := none) (b := 2) (o := 0) (len := lh2_2.length) (cap := lh2_2.length) (l := (some 1)) (u := none) (m := none) (cs := rowC (encI .i64) lh2_2) (fz := 0) (e := 3) (es := 1) (o' := 1 * 1) (len' := lh2_2.length - 1) (cap' := lh2_2.length - 1) (d := (some (path 12 54))) (by kernel_rfl) (by kernel_rfl) (by kernel_rfl) (by kernel_rfl) (by kernel_rfl) (by kernel_rfl) (by kernel_rfl) rfl b4 (by simp only [Option.getD_none, Option.getD_some] <;> omega) (by simp only [Option.getD_none, Option.getD_some] <;> omega) (by simp only [Option.getD_none, Option.getD_some] <;> omega)) (σ' := [(0, .map (some 0)), (5, s0 2 lh2_2.length), (6, pp 3 0), (11, ii x11_2), (12, uu x44_2), (43, uu x43_2), (44, uu x44_2), (54, sl 2 (1 * 1) (lh2_2.length - 1) (lh2_2.length - 1))]) (by kernel_rfl) ?_
      cases b5 : (decide (1 + (lh2_2.length - 1) ≤ lh2_2.length) : Bool) with
      | false => cases (cF b5 h)
      | true =>
       have h := cT b5 h
       cases b6 : (decide ((lh2_2.length - 1) ≤ (lh2_2.length - 1)) : Bool) with
       | false => cases (cF b6 h)
       | true =>
        have h := cT b6 h
        cases b7 : (fitsB (lh2_2.length - 1) 8 : Bool) with
        | false => cases (cF b7 h)
        | true =>
         have h := cT b7 h
         refine XR.call kE [0, 5, 6, 11, 12, 43, 44, 55] rfl (K := 55) (args := [sl 2 (1 * 1) (lh2_2.length - 1) (lh2_2.length - 1)]) (d := (some (path 12 55))) (by kernel_rfl) (clone55_part (xs := lh2_2) (fz := 0) (e0 := 3) (es0 := 1) (c := 4) 1 (by kernel_rfl) (by simp) b5 b6 b7) ?_
         rintro _ _ _ ⟨rfl, rfl, rfl⟩
         refine XR.conv (σ' := [(0, .map (some 0)), (5, s0 2 lh2_2.length), (6, pp 3 0), (11, ii x11_2), (12, uu x44_2), (43, uu x43_2), (44, uu x44_2), (55, s0 5 ((List.take (lh2_2.length - 1) (List.drop 1 lh2_2)).length))]) (h' := [(5, rI (List.take (lh2_2.length - 1) (List.drop 1 lh2_2))), (3, rK lh3_2), (2, rI lh2_2), (1, rc (encI .i64) b z1 y1 1), (0, iM mh0_2)]) (c' := 6) ?_ (by kernel_rfl)
         refine rSk 1 [(0, .map (some 0)), (5, s0 2 lh2_2.length), (6, pp 3 0), (11, ii x11_2), (12, uu x44_2), (13, s0 5 ((List.take (lh2_2.length - 1) (List.drop 1 lh2_2)).length)), (43, uu x43_2), (44, uu x44_2)] ?_
         refine dQ ?_
         show XQ _ _ _ _ _ _ _ _
         refine sQk ?_
         refine sQk ?_
         refine rQ ?_
         refine rSk 2 [(0, .map (some 0)), (5, s0 2 lh2_2.length), (6, pp 3 0), (11, ii x11_2), (13, s0 5 ((List.take (lh2_2.length - 1) (List.drop 1 lh2_2)).length)), (14, uu x44_2), (43, uu x43_2), (44, uu x44_2)] ?_
         refine dQ ?_
         show XQ _ _ _ _ _ _ _ _
         refine XQ.block (id := 4) (by kernel_rfl) ?_
         refine XQ.loop m (by kernel_rfl) ?_
         obtain ⟨o3, o3_h, h⟩ := bS h
         refine XL.ren (σ' := [(0, .map (some 0)), (5, s0 2 lh2_2.length), (6, pp 3 0), (11, ii x11_2), (13, s0 4 ((List.take (lh2_2.length - 1) (List.drop 1 lh2_2)).length)), (14, uu x44_2), (43, uu x43_2), (44, uu x44_2)]) (h' := [(4, rI (List.take (lh2_2.length - 1) (List.drop 1 lh2_2))), (3, rK lh3_2), (2, rI lh2_2), (1, rc (encI .i64) b z1 y1 1), (0, iM mh0_2)]) (c' := 5) [0, 1, 2, 3, 5] (by decide) rfl ⟨rfl, rfl, rfl, rfl, rfl, rfl, rfl, rfl, trivial⟩ ⟨⟨_, _, rfl, rfl, .inl ⟨rfl, rwI⟩⟩, ⟨_, _, rfl, rfl, .inl ⟨rfl, rwI⟩⟩, ⟨_, _, rfl, rfl, .inl ⟨rfl, rwI⟩⟩, ⟨_, _, rfl, rfl, .inl ⟨rfl, rwI⟩⟩, ⟨_, _, rfl, rfl, .inl ⟨rfl, trivial⟩⟩, trivial⟩ rfl ?_
         refine XL.conv (f72_3_ok m m z1 y1 b x11_2 x43_2 x44_2 mh0_2 lh2_2 lh3_2 x44_2 (List.take (lh2_2.length - 1) (List.drop 1 lh2_2)) o3 o3_h _ ?_) (by first | with_reducible rfl | simp | rfl)
         show XQ _ _ _ _ _ _ _ _
         refine sQk ?_
         refine rQ ?_
         refine rTk 2 [(0, .map (some 0)), (5, s0 2 lh2_2.length), (6, pp 3 0), (11, ii x11_2), (13, s0 4 o3.length), (43, uu x43_2), (44, uu x44_2), (70, s0 4 o3.length), (71, s0 5 1)] [(5, .cells [ii 0] 0 3 1), (4, rI o3), (3, rK lh3_2), (2, rI lh2_2), (1, rc (encI .i64) b z1 y1 1), (0, iM mh0_2)] 6 ?_
         cases b9 : (decide (1 ≤ o3.length) : Bool) with
         | true =>
          have h := cT b9 h
          cases b10 : (fitsB (o3.length + 1) 8 : Bool) with
          | false => cases (cF b10 h)
          | true =>
           have h := cT b10 h
           refine XR.ef kE [0, 5, 6, 11, 13, 43, 44, 72] rfl (e_appendK (encI_ok .i64) (bytes := 8) (e := 3) (x := (src 85 (.tmp 70))) (y := (src 85 (.tmp 71))) (b := 4) (len := o3.length) (cap := o3.length) (xs := o3) (m := 0) (ys := [0]) (d := (some (path 12 72))) (n' := (o3 ++ [0]).length) (h' := [(6, rI (o3 ++ [0])), (5, .cells [ii 0] 0 3 1), (4, .was (rowC (encI .i64) o3) 6 0 3 1), (3, rK lh3_2), (2, rI lh2_2), (1, rc (encI .i64) b z1 y1 1), (0, iM mh0_2)]) (by kernel_rfl) (by kernel_rfl) (by kernel_rfl) (by kernel_rfl) rfl (by simp) (by simp) b9 b10 (by simp) (by kernel_rfl)) (σ' := [(0, .map (some 0)), (5, s0 2 lh2_2.length), (6, pp 3 0), (11, ii x11_2), (13, s0 4 o3.length), (43, uu x43_2), (44, uu x44_2), (72, s0 6 ((o3 ++ [0]).length))]) (by kernel_rfl) ?_
           obtain ⟨r21, r21_h, h⟩ := bS h
           refine XR.call kE [0, 5, 6, 11, 13, 43, 44, 73] rfl (K := 97) (args := [s0 6 ((o3 ++ [0]).length)]) (d := (some (path 12 73))) (by kernel_rfl) (KQ.call (KC.quiet kE (args0 := [s0 0 ((o3 ++ [0]).length)]) (h0 := [(0, rc (encI .i64) (o3 ++ [0]) (0 + ((rowC (encI .i64) (o3 ++ [0])).length + 1)) 3 1)]) (n := 1) (V := ii r21) [6] (KC.keep (f97_ok m (0 + ((rowC (encI .i64) (o3 ++ [0])).length + 1)) 3 (o3 ++ [0]) r21 r21_h)) rfl (by rfl) (by decide) rfl (by kernel_rfl) ⟨⟨_, _, rfl, rfl, .inl ⟨rfl, rwI⟩⟩, trivial⟩) rfl) ?_
           rintro _ _ _ ⟨rfl, rfl, rfl⟩
           refine XR.conv (σ' := [(0, .map (some 0)), (5, s0 2 lh2_2.length), (6, pp 3 0), (11, ii x11_2), (13, s0 4 o3.length), (43, uu x43_2), (44, uu x44_2), (73, ii r21)]) (h' := [(6, rI (o3 ++ [0])), (5, .cells [ii 0] 0 3 1), (4, .was (rowC (encI .i64) o3) 6 0 3 1), (3, rK lh3_2), (2, rI lh2_2), (1, rc (encI .i64) b z1 y1 1), (0, iM mh0_2)]) (c' := 7) ?_ (by kernel_rfl)
           refine rSk 1 [(0, .map (some 0)), (5, s0 2 lh2_2.length), (6, pp 3 0), (11, ii x11_2), (13, s0 4 o3.length), (43, uu x43_2), (44, uu x44_2), (74, .bool (decide (r21 ≥ 0)))] ?_
           refine dQ ?_
           show XQ _ _ _ _ _ _ _ _
           refine XQ.backR (encI_ok .i64) rfl 4 6 (xs := o3) (ys := [0]) (e := 3) (h' := [(5, .cells [ii 0] 0 3 1), (4, rI o3), (3, rK lh3_2), (2, rI lh2_2), (1, rc (encI .i64) b z1 y1 1), (0, iM mh0_2)]) (by kernel_rfl) (by kernel_rfl) (by kernel_rfl) ?_
           cases b11 : (decide (r21 ≥ 0) : Bool) with
           | true =>
            have h := cT b11 h
            refine iT (.tmp 74) ?_
            refine rQ ?_
            refine rSk 3 [(0, .map (some 0)), (5, s0 2 lh2_2.length), (6, pp 3 0), (43, uu x43_2), (44, uu x44_2), (75, ii x11_2), (76, .map (some 0)), (77, s0 4 o3.length)] ?_
            obtain ⟨r23, r23_h, h⟩ := bS h
            refine XR.call kE [0, 5, 6, 43, 44, 75, 78] rfl (K := 72) (args := [.map (some 0), s0 4 o3.length]) (d := (some (path 12 78))) (by kernel_rfl) (KC.liftM (n0 := 2) (b := 0) (i0 := 0) (args0 := [.map (some 0), s0 1 o3.length]) (h0 := [(1, rc (encI .i64) o3 (0 + ((rowC (encI .i64) o3).length + 1)) 3 1), (0, iM mh0_2)]) (V := ii r23.1) (h2 := [(5, .cells [ii 0] 0 3 1), (4, rI o3), (3, rK lh3_2), (2, rI lh2_2), (1, rc (encI .i64) b z1 y1 1), (0, iM r23.2)]) [0, 4] (KC.keep (hF (0 + ((rowC (encI .i64) o3).length + 1)) 3 mh0_2 o3 r23 r23_h)) rfl (by rfl) (by decide) rfl (by kernel_rfl) (by kernel_rfl) rfl ⟨⟨_, _, rfl, rfl, .inl ⟨rfl, rwI⟩⟩, ⟨_, _, rfl, rfl, .inl ⟨rfl, trivial⟩⟩, trivial⟩ (by kernel_rfl)) ?_
            rintro _ _ _ ⟨rfl, rfl, rfl⟩
            refine XR.conv (σ' := [(0, .map (some 0)), (5, s0 2 lh2_2.length), (6, pp 3 0), (43, uu x43_2), (44, uu x44_2), (75, ii x11_2), (78, ii r23.1)]) (h' := [(5, .cells [ii 0] 0 3 1), (4, rI o3), (3, rK lh3_2), (2, rI lh2_2), (1, rc (encI .i64) b z1 y1 1), (0, iM r23.2)]) (c' := 7) ?_ (by kernel_rfl)
            refine rSk 2 [(0, .map (some 0)), (5, s0 2 lh2_2.length), (6, pp 3 0), (11, ii (w64 (x11_2 + r23.1))), (43, uu x43_2), (44, uu x44_2)] ?_
            refine dQ ?_
            show XQ _ _ _ _ _ _ _ _
            refine rQ ?_
            refine rSk 2 [(0, .map (some 0)), (5, s0 2 lh2_2.length), (6, pp 3 0), (11, ii (w64 (x11_2 + r23.1))), (43, uu x43_2), (44, uu (IntKind.wrap .u64 (x44_2 + 1)))] ?_
            refine dQ ?_
            show XL _ _ _ _ _ _ _ _ _
            refine XL.ren (σ' := [(0, .map (some 0)), (5, s0 2 lh2_2.length), (6, pp 3 0), (11, ii (w64 (x11_2 + r23.1))), (43, uu x43_2), (44, uu (IntKind.wrap .u64 (x44_2 + 1)))]) (h' := [(3, rK lh3_2), (2, rI lh2_2), (1, rc (encI .i64) b z1 y1 1), (0, iM r23.2)]) (c' := 4) [0, 1, 2, 3] (by decide) rfl ⟨rfl, rfl, rfl, rfl, rfl, rfl, trivial⟩ ⟨⟨_, _, rfl, rfl, .inl ⟨rfl, rwI⟩⟩, ⟨_, _, rfl, rfl, .inl ⟨rfl, rwI⟩⟩, ⟨_, _, rfl, rfl, .inl ⟨rfl, rwI⟩⟩, ⟨_, _, rfl, rfl, .inl ⟨rfl, trivial⟩⟩, trivial⟩ rfl ?_
            refine XL.conv (f72_2_ok m F hF fuel z1 y1 b (w64 (x11_2 + r23.1)) x43_2 (IntKind.wrap .u64 (x44_2 + 1)) r23.2 lh2_2 lh3_2 o h Q hQ) (by first | with_reducible rfl | simp | rfl)
           | false =>
            have h := cF b11 h
            refine iF (.tmp 74) ?_
            refine kQ ?_
            show XQ _ _ _ _ _ _ _ _
            refine rQ ?_
            refine rSk 2 [(0, .map (some 0)), (5, s0 2 lh2_2.length), (6, pp 3 0), (11, ii x11_2), (43, uu x43_2), (44, uu (IntKind.wrap .u64 (x44_2 + 1)))] ?_
            refine dQ ?_
            show XL _ _ _ _ _ _ _ _ _
            refine XL.ren (σ' := [(0, .map (some 0)), (5, s0 2 lh2_2.length), (6, pp 3 0), (11, ii x11_2), (43, uu x43_2), (44, uu (IntKind.wrap .u64 (x44_2 + 1)))]) (h' := [(3, rK lh3_2), (2, rI lh2_2), (1, rc (encI .i64) b z1 y1 1), (0, iM mh0_2)]) (c' := 4) [0, 1, 2, 3] (by decide) rfl ⟨rfl, rfl, rfl, rfl, rfl, rfl, trivial⟩ ⟨⟨_, _, rfl, rfl, .inl ⟨rfl, rwI⟩⟩, ⟨_, _, rfl, rfl, .inl ⟨rfl, rwI⟩⟩, ⟨_, _, rfl, rfl, .inl ⟨rfl, rwI⟩⟩, ⟨_, _, rfl, rfl, .inl ⟨rfl, trivial⟩⟩, trivial⟩ rfl ?_
            refine XL.conv (f72_2_ok m F hF fuel z1 y1 b x11_2 x43_2 (IntKind.wrap .u64 (x44_2 + 1)) mh0_2 lh2_2 lh3_2 o h Q hQ) (by first | with_reducible rfl | simp | rfl)
         | false =>
          have h := cF b9 h
          have hz := nil_of_len b9
          subst hz
          refine XR.conv (σ' := [(0, .map (some 0)), (5, s0 2 lh2_2.length), (6, pp 3 0), (11, ii x11_2), (13, s0 4 0), (43, uu x43_2), (44, uu x44_2), (70, s0 4 0), (71, s0 5 1)]) (h' := [(5, .cells [ii 0] 0 3 1), (4, rI []), (3, rK lh3_2), (2, rI lh2_2), (1, rc (encI .i64) b z1 y1 1), (0, iM mh0_2)]) (c' := 6) ?_ (by kernel_rfl)
          refine rTk 1 [(0, .map (some 0)), (5, s0 2 lh2_2.length), (6, pp 3 0), (11, ii x11_2), (13, s0 4 0), (43, uu x43_2), (44, uu x44_2), (72, s0 6 1)] [(6, .cells [ii 0] 0 3 1), (5, .cells [ii 0] 0 3 1), (3, rK lh3_2), (2, rI lh2_2), (1, rc (encI .i64) b z1 y1 1), (0, iM mh0_2)] 7 ?_
          obtain ⟨r24, r24_h, h⟩ := bS h
          refine XR.call kE [0, 5, 6, 11, 13, 43, 44, 73] rfl (K := 97) (args := [s0 6 1]) (d := (some (path 12 73))) (by kernel_rfl) (KQ.call (KC.quiet kE (args0 := [s0 0 1]) (h0 := [(0, rc (encI .i64) [0] (0 + ((rowC (encI .i64) [0]).length + 1)) 3 1)]) (n := 1) (V := ii r24) [6] (KC.keep (f97_ok m (0 + ((rowC (encI .i64) [0]).length + 1)) 3 [0] r24 r24_h)) rfl (by rfl) (by decide) rfl (by kernel_rfl) ⟨⟨_, _, rfl, rfl, .inl ⟨rfl, rwI⟩⟩, trivial⟩) rfl) ?_
          rintro _ _ _ ⟨rfl, rfl, rfl⟩
          refine XR.conv (σ' := [(0, .map (some 0)), (5, s0 2 lh2_2.length), (6, pp 3 0), (11, ii x11_2), (13, s0 4 0), (43, uu x43_2), (44, uu x44_2), (73, ii r24)]) (h' := [(6, rI [0]), (5, .cells [ii 0] 0 3 1), (3, rK lh3_2), (2, rI lh2_2), (1, rc (encI .i64) b z1 y1 1), (0, iM mh0_2)]) (c' := 7) ?_ (by kernel_rfl)
          refine rSk 1 [(0, .map (some 0)), (5, s0 2 lh2_2.length), (6, pp 3 0), (11, ii x11_2), (13, s0 4 0), (43, uu x43_2), (44, uu x44_2), (74, .bool (decide (r24 ≥ 0)))] ?_
          refine dQ ?_
          show XQ _ _ _ _ _ _ _ _
          cases b12 : (decide (r24 ≥ 0) : Bool) with
          | true =>
           have h := cT b12 h
           refine iT (.tmp 74) ?_
           refine rQ ?_
           refine rSk 3 [(0, .map (some 0)), (5, s0 2 lh2_2.length), (6, pp 3 0), (43, uu x43_2), (44, uu x44_2), (75, ii x11_2), (76, .map (some 0)), (77, s0 4 0)] ?_
           refine XR.callK kE [0, 5, 6, 43, 44, 75, 78] rfl (K := 72) (args := [.map (some 0), s0 4 0]) (d := (some (path 12 78))) (by kernel_rfl) ?_
           refine KC.bodyN kE (F := Proofs.Tryd.f72) (by kernel_rfl) (code := f72_C72) (by kernel_rfl) (nt := 85) (by kernel_rfl) (rs := [.tmp 4]) (by kernel_rfl) (by kernel_rfl) (σ := [(0, .map (some 0)), (1, s0 4 0)]) (by kernel_rfl) ?_
           refine sQk ?_
           refine rQ ?_
           refine rSk 1 [(0, .map (some 0)), (1, s0 4 0)] ?_
           refine dQ ?_
           show XQ _ _ _ _ _ _ _ _
           refine sQk ?_
           refine rQ ?_
           refine rSk 1 [(0, .map (some 0)), (15, s0 4 0)] ?_
           refine XR.callK kE [0, 16] rfl (K := 61) (args := [s0 4 0]) (d := (some (path 12 16))) (by kernel_rfl) ?_
           refine KC.bodyN kE (F := Proofs.Tryd.f61) (by kernel_rfl) (code := f72_C61) (by kernel_rfl) (nt := 10) (by kernel_rfl) (rs := [.tmp 2]) (by kernel_rfl) (by kernel_rfl) (σ := [(0, s0 4 0)]) (by kernel_rfl) ?_
           refine sQk ?_
           refine rQ ?_
           refine rSk 1 [(0, s0 4 0)] ?_
           refine dQ ?_
           show XQ _ _ _ _ _ _ _ _
           refine sQk ?_
           refine rQ ?_
           refine rSk 1 [(4, s0 4 0)] ?_
           refine XR.callK kE [5] rfl (K := 82) (args := [s0 4 0]) (d := (some (path 12 5))) (by kernel_rfl) ?_
           refine KC.bodyN kE (F := Proofs.Tryd.f82) (by kernel_rfl) (code := f72_C82) (by kernel_rfl) (nt := 4) (by kernel_rfl) (rs := [.tmp 2]) (by kernel_rfl) (by kernel_rfl) (σ := [(0, s0 4 0)]) (by kernel_rfl) ?_
           refine sQk ?_
           refine rQ ?_
           refine rTk 2 [(1, pp 7 0)] [(7, .cells [s0 4 0] 0 22 0), (6, rI [0]), (5, .cells [ii 0] 0 3 1), (3, rK lh3_2), (2, rI lh2_2), (1, rc (encI .i64) b z1 y1 1), (0, iM mh0_2)] 8 ?_
           refine dQ ?_
           show XQ _ _ _ _ _ _ _ _
           refine sQk ?_
           refine rQ ?_
           refine rSk 2 [(2, .func (.func 105) #[] #[pp 7 0])] ?_
           refine dQ ?_
           show XQ _ _ _ _ _ _ _ _
           refine XQ.ret (by kernel_rfl) ?_
           refine ⟨fun i q => (by cases q), .func (.func 105) #[] #[pp 7 0], (by kernel_rfl), ?_⟩
           refine XR.conv (σ' := [(5, .func (.func 105) #[] #[pp 7 0])]) (h' := [(7, .cells [s0 4 0] 0 22 0), (6, rI [0]), (5, .cells [ii 0] 0 3 1), (3, rK lh3_2), (2, rI lh2_2), (1, rc (encI .i64) b z1 y1 1), (0, iM mh0_2)]) (c' := 8) ?_ (by kernel_rfl)
           refine XR.call kE [6] rfl (K := 81) (args := [.func (.func 105) #[] #[pp 7 0]]) (d := (some (path 12 6))) (by kernel_rfl) (KC.keep <| sorted_row (c := 8) (b := 7) (V := s0 4 0) (ys := []) (n := 0) (fz1 := 0) (e1 := 22) (es1 := 0) (by kernel_rfl) rfl (by kernel_rfl) (by kernel_rfl)) ?_
           rintro _ _ _ ⟨rfl, rfl, rfl⟩
           refine XR.conv (σ' := [(6, s0 8 0)]) (h' := [(8, rI []), (7, .cells [s0 4 0] 0 22 0), (6, rI [0]), (5, .cells [ii 0] 0 3 1), (3, rK lh3_2), (2, rI lh2_2), (1, rc (encI .i64) b z1 y1 1), (0, iM mh0_2)]) (c' := 9) ?_ (by kernel_rfl)
           refine rSk 1 [(3, s0 8 0)] ?_
           refine dQ ?_
           show XQ _ _ _ _ _ _ _ _
           refine sQk ?_
           refine rQ ?_
           refine rSk 1 [(3, s0 8 0), (7, s0 8 0)] ?_
           refine XR.callK kE [3] rfl (K := 83) (args := [s0 8 0]) (d := (some (path 12 8))) (by kernel_rfl) ?_
           refine KC.bodyN kE (F := Proofs.Tryd.f83) (by kernel_rfl) (code := f72_C83) (by kernel_rfl) (nt := 28) (by kernel_rfl) (rs := []) (by kernel_rfl) (by kernel_rfl) (σ := [(0, s0 8 0)]) (by kernel_rfl) ?_
           refine sQk ?_
           refine rQ ?_
           refine rSk 5 [(0, s0 8 0), (2, ii 0), (3, ii (-1))] ?_
           refine dQ ?_
           show XQ _ _ _ _ _ _ _ _
           refine XQ.block (id := 0) (by kernel_rfl) ?_
           refine XQ.loop m (by kernel_rfl) ?_
           obtain ⟨o4, o4_h, h⟩ := bS h
           refine XL.conv (f72_4_ok m m z1 y1 b mh0_2 lh2_2 lh3_2 [0] o4 o4_h _ ?_) (by first | with_reducible rfl | simp | rfl)
           refine ⟨fun i q => (by cases q), .tuple #[], (by kernel_rfl), ?_⟩
           refine XR.conv (σ' := [(3, s0 8 0)]) (h' := [(8, rI []), (7, .cells [s0 4 0] 0 22 0), (6, rI o4), (5, .cells [ii 0] 0 3 1), (3, rK lh3_2), (2, rI lh2_2), (1, rc (encI .i64) b z1 y1 1), (0, iM mh0_2)]) (c' := 9) ?_ (by kernel_rfl)
           refine dQ ?_
           show XQ _ _ _ _ _ _ _ _
           refine sQk ?_
           refine rQ ?_
           refine rSk 2 [(2, s0 8 0)] ?_
           refine dQ ?_
           show XQ _ _ _ _ _ _ _ _
           refine XQ.ret (by kernel_rfl) ?_
           refine ⟨fun i q => (by cases q), s0 8 0, (by kernel_rfl), ?_⟩
           refine XR.conv (σ' := [(0, .map (some 0)), (16, s0 8 0)]) (h' := [(8, rI []), (7, .cells [s0 4 0] 0 22 0), (6, rI o4), (5, .cells [ii 0] 0 3 1), (3, rK lh3_2), (2, rI lh2_2), (1, rc (encI .i64) b z1 y1 1), (0, iM mh0_2)]) (c' := 9) ?_ (by kernel_rfl)
           refine rSk 1 [(0, .map (some 0)), (5, s0 8 0)] ?_
           refine dQ ?_
           show XQ _ _ _ _ _ _ _ _
           refine sQk ?_
           refine sQk ?_
           refine rQ ?_
           refine rSk 3 [(0, .map (some 0)), (5, s0 8 0), (19, .bool true)] ?_
           refine dQ ?_
           show XQ _ _ _ _ _ _ _ _
           refine iT (.tmp 19) ?_
           refine sQk ?_
           refine rQ ?_
           refine rSk 1 [(4, ii 1)] ?_
           refine dQ ?_
           show XQ _ _ _ _ _ _ _ _
           refine XQ.ret (by kernel_rfl) ?_
           refine ⟨fun i q => (by cases q), ii 1, (by kernel_rfl), ?_⟩
           refine XR.conv (σ' := [(0, .map (some 0)), (5, s0 2 lh2_2.length), (6, pp 3 0), (43, uu x43_2), (44, uu x44_2), (75, ii x11_2), (78, ii 1)]) (h' := [(8, rI []), (7, .cells [s0 4 0] 0 22 0), (6, rI o4), (5, .cells [ii 0] 0 3 1), (3, rK lh3_2), (2, rI lh2_2), (1, rc (encI .i64) b z1 y1 1), (0, iM mh0_2)]) (c' := 9) ?_ (by kernel_rfl)
           refine rSk 2 [(0, .map (some 0)), (5, s0 2 lh2_2.length), (6, pp 3 0), (11, ii (w64 (x11_2 + 1))), (43, uu x43_2), (44, uu x44_2)] ?_
           refine dQ ?_
           show XQ _ _ _ _ _ _ _ _
           refine rQ ?_
           refine rSk 2 [(0, .map (some 0)), (5, s0 2 lh2_2.length), (6, pp 3 0), (11, ii (w64 (x11_2 + 1))), (43, uu x43_2), (44, uu (IntKind.wrap .u64 (x44_2 + 1)))] ?_
           refine dQ ?_
           show XL _ _ _ _ _ _ _ _ _
           refine XL.ren (σ' := [(0, .map (some 0)), (5, s0 2 lh2_2.length), (6, pp 3 0), (11, ii (w64 (x11_2 + 1))), (43, uu x43_2), (44, uu (IntKind.wrap .u64 (x44_2 + 1)))]) (h' := [(3, rK lh3_2), (2, rI lh2_2), (1, rc (encI .i64) b z1 y1 1), (0, iM mh0_2)]) (c' := 4) [0, 1, 2, 3] (by decide) rfl ⟨rfl, rfl, rfl, rfl, rfl, rfl, trivial⟩ ⟨⟨_, _, rfl, rfl, .inl ⟨rfl, rwI⟩⟩, ⟨_, _, rfl, rfl, .inl ⟨rfl, rwI⟩⟩, ⟨_, _, rfl, rfl, .inl ⟨rfl, rwI⟩⟩, ⟨_, _, rfl, rfl, .inl ⟨rfl, trivial⟩⟩, trivial⟩ rfl ?_
           refine XL.conv (f72_2_ok m F hF fuel z1 y1 b (w64 (x11_2 + 1)) x43_2 (IntKind.wrap .u64 (x44_2 + 1)) mh0_2 lh2_2 lh3_2 o h Q hQ) (by first | with_reducible rfl | simp | rfl)
          | false =>
           have h := cF b12 h
           refine iF (.tmp 74) ?_
           refine kQ ?_
           show XQ _ _ _ _ _ _ _ _
           refine rQ ?_
           refine rSk 2 [(0, .map (some 0)), (5, s0 2 lh2_2.length), (6, pp 3 0), (11, ii x11_2), (43, uu x43_2), (44, uu (IntKind.wrap .u64 (x44_2 + 1)))] ?_
           refine dQ ?_
           show XL _ _ _ _ _ _ _ _ _
           refine XL.ren (σ' := [(0, .map (some 0)), (5, s0 2 lh2_2.length), (6, pp 3 0), (11, ii x11_2), (43, uu x43_2), (44, uu (IntKind.wrap .u64 (x44_2 + 1)))]) (h' := [(3, rK lh3_2), (2, rI lh2_2), (1, rc (encI .i64) b z1 y1 1), (0, iM mh0_2)]) (c' := 4) [0, 1, 2, 3] (by decide) rfl ⟨rfl, rfl, rfl, rfl, rfl, rfl, trivial⟩ ⟨⟨_, _, rfl, rfl, .inl ⟨rfl, rwI⟩⟩, ⟨_, _, rfl, rfl, .inl ⟨rfl, rwI⟩⟩, ⟨_, _, rfl, rfl, .inl ⟨rfl, rwI⟩⟩, ⟨_, _, rfl, rfl, .inl ⟨rfl, trivial⟩⟩, trivial⟩ rfl ?_
           refine XL.conv (f72_2_ok m F hF fuel z1 y1 b x11_2 x43_2 (IntKind.wrap .u64 (x44_2 + 1)) mh0_2 lh2_2 lh3_2 o h Q hQ) (by first | with_reducible rfl | simp | rfl)
  | false =>
   have h := cF b1 h
   refine iF (.tmp 45) ?_
   refine XQ.ren (σ' := [(0, .map (some 0)), (6, pp 2 0), (11, ii x11_2)]) (h' := [(2, rK lh3_2), (1, rc (encI .i64) b z1 y1 1), (0, iM mh0_2)]) (c' := 3) [0, 1, 3] (by decide) rfl ⟨rfl, rfl, rfl, trivial⟩ ⟨⟨_, _, rfl, rfl, .inl ⟨rfl, rwI⟩⟩, ⟨_, _, rfl, rfl, .inl ⟨rfl, rwI⟩⟩, ⟨_, _, rfl, rfl, .inl ⟨rfl, trivial⟩⟩, trivial⟩ rfl ?_
   refine XQ.exit (i := 2) (by kernel_rfl) ?_
   cases h
   exact hQ
def f72 (m : Nat) : Nat → (List (List Int × Int)) → (List Int) → Option (Int × (List (List Int × Int)))
 | 0, _, _ => none
 | fuel + 1, a, b =>
  (f61 m b).bind fun r1 =>
   cond (((r1.length : Nat) : Int) == 0) (
    some (1, a)
   ) (
    (f72_1 m m a b ((r1.length : Nat) : Int) 0 r1 [0, 0, 0, 0, 0, 0, 0, 0]).bind fun o1 =>
     cond (decide (o1.2.length = 8)) (
      cond (Nat.beq o1.2.length 8 && lensA 8 a) (
       cond (hasA a o1.2) (
        some (getA 0 a o1.2, a)
       ) (
        cond (decide (0 ≤ w64 (((o1.1.length : Nat) : Int) - 1))) (
         (f72_2 m (f72 m fuel) m b 0 (shV true .u64 1 (w64 (((o1.1.length : Nat) : Int) - 1))) 0 a o1.1 o1.2).bind fun o2 =>
          cond (decide (o2.2.2.length = 8)) (
           cond (Nat.beq o2.2.2.length 8 && lensA 8 o2.2.1) (
            some (o2.1, putA o2.2.1 o2.2.2 o2.1)
           ) none
          ) none
        ) none
       )
      ) none
     ) none
   )
theorem f72_ok (m : Nat) : ∀ (fuel : Nat) (z1 : Nat) (y1 : Nat) (a : List (List Int × Int)) (b : List Int) (o : Int × (List (List Int × Int))), f72 m fuel a b = some o → KC E0 72 [.map (some 0), s0 1 b.length] [(1, rc (encI .i64) b z1 y1 1), (0, iM a)] 2 (fun v h' _ => v = ii o.1 ∧ hget h' 0 = some (iM o.2))
 | 0, z1, y1, a, b, o, h => by cases h
 | fuel + 1, z1, y1, a, b, o, h => by
  refine KC.unkeep ?_
  refine KC.bodyN kE (F := Proofs.Tryd.f72) (by kernel_rfl) (code := f72_C72) (by kernel_rfl) (nt := 85) (by kernel_rfl) (rs := [.tmp 4]) (by kernel_rfl) (by kernel_rfl) (σ := [(0, .map (some 0)), (1, s0 1 b.length)]) (by kernel_rfl) ?_
  unfold f72 at h
  refine sQk ?_
  refine rQ ?_
  refine rSk 1 [(0, .map (some 0)), (1, s0 1 b.length)] ?_
  refine dQ ?_
  show XQ _ _ _ _ _ _ _ _
  refine sQk ?_
  refine rQ ?_
  refine rSk 1 [(0, .map (some 0)), (15, s0 1 b.length)] ?_
  obtain ⟨r1, r1_h, h⟩ := bS h
  refine XR.call kE [0, 16] rfl (K := 61) (args := [s0 1 b.length]) (d := (some (path 12 16))) (by kernel_rfl) (KC.liftH (n0 := 1) (m := 1) (args0 := [s0 0 b.length]) (h0 := [(0, rc (encI .i64) b (z1 + ((rowC (encI .i64) b).length + 1)) y1 1)]) (V := s0 1 r1.length) (V2 := s0 2 r1.length) (H := [(1, rI r1)]) (H2 := [(2, rI r1)]) [1] [2, 3, 1] (KC.keep (f61_ok m (z1 + ((rowC (encI .i64) b).length + 1)) y1 b r1 r1_h)) (by rfl) (by decide) rfl (by kernel_rfl) ⟨⟨_, _, rfl, rfl, .inl ⟨rfl, rwI⟩⟩, trivial⟩ (by decide) (by decide) (by kernel_rfl) ⟨⟨_, _, rfl, rfl, .inl ⟨rfl, rwI⟩⟩, trivial⟩ (by rfl)) ?_
  rintro _ _ _ ⟨rfl, rfl, rfl⟩
  refine XR.conv (σ' := [(0, .map (some 0)), (16, s0 2 r1.length)]) (h' := [(2, rI r1), (1, rc (encI .i64) b z1 y1 1), (0, iM a)]) (c' := 3) ?_ (by kernel_rfl)
  refine rSk 1 [(0, .map (some 0)), (5, s0 2 r1.length)] ?_
  refine dQ ?_
  show XQ _ _ _ _ _ _ _ _
  refine sQk ?_
  refine sQk ?_
  refine rQ ?_
  refine rSk 3 [(0, .map (some 0)), (5, s0 2 r1.length), (19, .bool (((r1.length : Nat) : Int) == 0))] ?_
  refine dQ ?_
  show XQ _ _ _ _ _ _ _ _
  cases b1 : (((r1.length : Nat) : Int) == 0 : Bool) with
  | true =>
   have h := cT b1 h
   refine iT (.tmp 19) ?_
   refine sQk ?_
   refine rQ ?_
   refine rSk 1 [(4, ii 1)] ?_
   refine dQ ?_
   show XQ _ _ _ _ _ _ _ _
   refine XQ.ret (by kernel_rfl) ?_
   have h := Option.some.inj h
   subst h
   exact ⟨fun i q => (by cases q), ii 1, (by kernel_rfl), rfl, (by kernel_rfl)⟩
  | false =>
   have h := cF b1 h
   refine iF (.tmp 19) ?_
   refine kQ ?_
   show XQ _ _ _ _ _ _ _ _
   refine sQk ?_
   refine rQ ?_
   refine rTk 1 [(0, .map (some 0)), (5, s0 2 r1.length), (6, pp 3 0)] [(3, .cells [ii 0, ii 0, ii 0, ii 0, ii 0, ii 0, ii 0, ii 0] 0 123 0), (2, rI r1), (1, rc (encI .i64) b z1 y1 1), (0, iM a)] 4 ?_
   refine dQ ?_
   show XQ _ _ _ _ _ _ _ _
   refine sQk ?_
   refine sQk ?_
   refine rQ ?_
   refine rSk 3 [(0, .map (some 0)), (5, s0 2 r1.length), (6, pp 3 0), (20, s0 2 r1.length), (21, ii ((r1.length : Nat) : Int)), (22, ii 0)] ?_
   refine dQ ?_
   show XQ _ _ _ _ _ _ _ _
   refine XQ.block (id := 0) (by kernel_rfl) ?_
   refine XQ.loop m (by kernel_rfl) ?_
   obtain ⟨o1, o1_h, h⟩ := bS h
   refine XL.conv (σ' := [(0, .map (some 0)), (5, s0 2 r1.length), (6, pp 3 0), (20, s0 2 r1.length), (21, ii ((r1.length : Nat) : Int)), (22, ii 0)]) (h' := [(3, rK [0, 0, 0, 0, 0, 0, 0, 0]), (2, rI r1), (1, rc (encI .i64) b z1 y1 1), (0, iM a)]) (c' := 4) ?_ (by kernel_rfl)
   refine XL.conv (f72_1_ok m m a z1 y1 b ((r1.length : Nat) : Int) 0 r1 [0, 0, 0, 0, 0, 0, 0, 0] o1 o1_h _ ?_) (by first | with_reducible rfl | simp | rfl)
   show XQ _ _ _ _ _ _ _ _
   refine sQk ?_
   refine sQk ?_
   refine rQ ?_
   refine rSk 1 [(0, .map (some 0)), (5, s0 2 o1.1.length), (6, pp 3 0), (33, .map (some 0))] ?_
   cases b3 : (decide (o1.2.length = 8) : Bool) with
   | false => cases (cF b3 h)
   | true =>
    have h := cT b3 h
    refine XR.rd kE [0, 5, 6, 33, 34] rfl (v := .agg (rowC (encI .i64) o1.2).toArray) (v_loadA (n := 8) (x := (src 85 (.tmp 6))) (b := 3) (L := o1.2) (fz := 0) (e := 123) (es := 0) (d := (some (path 12 34))) (by kernel_rfl) (by kernel_rfl) (by kernel_rfl) b3) (σ' := [(0, .map (some 0)), (5, s0 2 o1.1.length), (6, pp 3 0), (33, .map (some 0)), (34, .agg (rowC (encI .i64) o1.2).toArray)]) (by kernel_rfl) ?_
    cases b4 : (Nat.beq o1.2.length 8 && lensA 8 a : Bool) with
    | false => cases (cF b4 h)
    | true =>
     have h := cT b4 h
     refine XR.rd kE [0, 5, 6, 35] rfl (v := .tuple #[ii (getA 0 a o1.2), .bool (hasA a o1.2)]) (v_mgetAo (Value.int .i64) (n := 8) (x := (src 85 (.tmp 33))) (i := (src 85 (.tmp 34))) (z := .int .i64 0) (d := (some (path 12 35))) (b := 0) (k := o1.2) (l := a) (d0 := 0) (by kernel_rfl) (by kernel_rfl) (by kernel_rfl) rfl (by kernel_rfl) b4 rfl rfl rfl) (σ' := [(0, .map (some 0)), (5, s0 2 o1.1.length), (6, pp 3 0), (35, .tuple #[ii (getA 0 a o1.2), .bool (hasA a o1.2)])]) (by kernel_rfl) ?_
     refine rSk 5 [(0, .map (some 0)), (5, s0 2 o1.1.length), (6, pp 3 0), (9, ii (getA 0 a o1.2)), (10, .bool (hasA a o1.2))] ?_
     refine dQ ?_
     show XQ _ _ _ _ _ _ _ _
     refine sQk ?_
     refine rQ ?_
     refine rSk 1 [(0, .map (some 0)), (5, s0 2 o1.1.length), (6, pp 3 0), (9, ii (getA 0 a o1.2)), (38, .bool (hasA a o1.2))] ?_
     refine dQ ?_
     show XQ _ _ _ _ _ _ _ _
     cases b5 : (hasA a o1.2 : Bool) with
     | true =>
      have h := cT b5 h
      refine iT (.tmp 38) ?_
      refine sQk ?_
      refine rQ ?_
      refine rSk 2 [(4, ii (getA 0 a o1.2))] ?_
      refine dQ ?_
      show XQ _ _ _ _ _ _ _ _
      refine XQ.ret (by kernel_rfl) ?_
      have h := Option.some.inj h
      subst h
      exact ⟨fun i q => (by cases q), ii (getA 0 a o1.2), (by kernel_rfl), rfl, (by kernel_rfl)⟩
     | false =>
      have h := cF b5 h
      refine iF (.tmp 38) ?_
      refine kQ ?_
      show XQ _ _ _ _ _ _ _ _
      refine sQk ?_
      refine rQ ?_
      refine rSk 1 [(0, .map (some 0)), (5, s0 2 o1.1.length), (6, pp 3 0), (11, ii 0)] ?_
      refine dQ ?_
      show XQ _ _ _ _ _ _ _ _
      refine sQk ?_
      refine sQk ?_
      refine rQ ?_
      refine rSk 3 [(0, .map (some 0)), (5, s0 2 o1.1.length), (6, pp 3 0), (11, ii 0), (42, ii (w64 (((o1.1.length : Nat) : Int) - 1)))] ?_
      cases b6 : (decide (0 ≤ w64 (((o1.1.length : Nat) : Int) - 1)) : Bool) with
      | false => cases (cF b6 h)
      | true =>
       have h := cT b6 h
       have e7 : insV (headI ((gsOf (keepEnv E0) 85 (opsOf (lft (lft (rgt (rgt (rgt (rgt (rgt (rgt (rgt f72_C72))))))))))).drop 3) (trS 85 [(0, .map (some 0)), (5, s0 2 o1.1.length), (6, pp 3 0), (11, ii 0), (42, ii (w64 (((o1.1.length : Nat) : Int) - 1)))])) (trS 85 [(0, .map (some 0)), (5, s0 2 o1.1.length), (6, pp 3 0), (11, ii 0), (42, ii (w64 (((o1.1.length : Nat) : Int) - 1)))]) [(3, rK o1.2), (2, rI o1.1), (1, rc (encI .i64) b z1 y1 1), (0, iM a)] = (match (decide (0 ≤ w64 (((o1.1.length : Nat) : Int) - 1)) : Bool) with | true => some (uu (shV true .u64 1 (w64 (((o1.1.length : Nat) : Int) - 1)))) | false => none) := by kernel_rfl
       refine XR.rd kE [0, 5, 6, 11, 43] rfl (e7.trans (by rw [b6])) (σ' := [(0, .map (some 0)), (5, s0 2 o1.1.length), (6, pp 3 0), (11, ii 0), (43, uu (shV true .u64 1 (w64 (((o1.1.length : Nat) : Int) - 1))))]) (by kernel_rfl) ?_
       refine rSk 1 [(0, .map (some 0)), (5, s0 2 o1.1.length), (6, pp 3 0), (11, ii 0), (43, uu (shV true .u64 1 (w64 (((o1.1.length : Nat) : Int) - 1)))), (44, uu 0)] ?_
       refine dQ ?_
       show XQ _ _ _ _ _ _ _ _
       refine XQ.block (id := 2) (by kernel_rfl) ?_
       refine XQ.loop m (by kernel_rfl) ?_
       obtain ⟨o2, o2_h, h⟩ := bS h
       refine XL.conv (f72_2_ok m (f72 m fuel) (f72_ok m fuel) m z1 y1 b 0 (shV true .u64 1 (w64 (((o1.1.length : Nat) : Int) - 1))) 0 a o1.1 o1.2 o2 o2_h _ ?_) (by first | with_reducible rfl | simp | rfl)
       show XQ _ _ _ _ _ _ _ _
       refine sQk ?_
       refine rQ ?_
       refine rSk 1 [(6, pp 2 0), (11, ii o2.1), (81, .map (some 0))] ?_
       cases b9 : (decide (o2.2.2.length = 8) : Bool) with
       | false => cases (cF b9 h)
       | true =>
        have h := cT b9 h
        refine XR.rd kE [11, 81, 82] rfl (v := .agg (rowC (encI .i64) o2.2.2).toArray) (v_loadA (n := 8) (x := (src 85 (.tmp 6))) (b := 2) (L := o2.2.2) (fz := 0) (e := 123) (es := 0) (d := (some (path 12 82))) (by kernel_rfl) (by kernel_rfl) (by kernel_rfl) b9) (σ' := [(11, ii o2.1), (81, .map (some 0)), (82, .agg (rowC (encI .i64) o2.2.2).toArray)]) (by kernel_rfl) ?_
        refine rSk 1 [(11, ii o2.1), (81, .map (some 0)), (82, .agg (rowC (encI .i64) o2.2.2).toArray), (83, ii o2.1)] ?_
        cases b10 : (Nat.beq o2.2.2.length 8 && lensA 8 o2.2.1 : Bool) with
        | false => cases (cF b10 h)
        | true =>
         have h := cT b10 h
         refine XR.ef kE [11] rfl (e_mputA (Value.int .i64) (n := 8) (m := (src 85 (.tmp 81))) (i := (src 85 (.tmp 82))) (x := (src 85 (.tmp 83))) (d := none) (b := 0) (k := o2.2.2) (l := o2.2.1) (a := o2.1) (h' := [(2, rK o2.2.2), (1, rc (encI .i64) b z1 y1 1), (0, iM (putA o2.2.1 o2.2.2 o2.1))]) (by kernel_rfl) (by kernel_rfl) (by kernel_rfl) rfl (by kernel_rfl) b10 (by kernel_rfl) rfl rfl) (σ' := [(11, ii o2.1)]) (by kernel_rfl) ?_
         refine dQ ?_
         show XQ _ _ _ _ _ _ _ _
         refine sQk ?_
         refine rQ ?_
         refine rSk 2 [(4, ii o2.1)] ?_
         refine dQ ?_
         show XQ _ _ _ _ _ _ _ _
         refine XQ.ret (by kernel_rfl) ?_
         have h := Option.some.inj h
         subst h
         exact ⟨fun i q => (by cases q), ii o2.1, (by kernel_rfl), rfl, (by kernel_rfl)⟩
noncomputable def f26_C26 : Code := Proofs.Tryd.f26.body.getD .skip
def f26 (m : Nat) (a : List Int) : Option (Int × Int) :=
 (f21 m a).bind fun r1 =>
  cond (r1 != 0) (
   some (0, r1)
  ) (
   (f72 m m ([] : List (List Int × Int)) a).bind fun r2 =>
    some (r2.1, 0)
  )
theorem f26_ok (m : Nat) (z0 : Nat) (y0 : Nat) (a : List Int) (o : Int × Int) (h : f26 m a = some o) : KC E0 26 [s0 0 a.length] [(0, rc (encI .i64) a z0 y0 1)] 1 (fun v _ _ => v = .tuple #[ii o.1, ii o.2]) := by
 refine KC.bodyN E0_ok (F := Proofs.Tryd.f26) (by kernel_rfl) (code := f26_C26) (by kernel_rfl) (nt := 13) (by kernel_rfl) (rs := [.tmp 2, .tmp 3]) (by kernel_rfl) (by kernel_rfl) (σ := [(0, s0 0 a.length)]) (by kernel_rfl) ?_
 unfold f26 at h
 refine qQ ?_
 refine rS 2 [(0, s0 0 a.length)] ?_
 refine dQ ?_
 show XQ _ _ _ _ _ _ _ _
 refine sQ ?_
 refine qQ ?_
 refine rS 1 [(0, s0 0 a.length), (5, s0 0 a.length)] ?_
 obtain ⟨r1, r1_h, h⟩ := bS h
 refine XR.call E0_ok [0, 6] rfl (K := 21) (args := [s0 0 a.length]) (d := (some (path 12 6))) (by kernel_rfl) (KQ.call (KC.quiet E0_ok (args0 := [s0 0 a.length]) (h0 := [(0, rc (encI .i64) a (z0 + ((rowC (encI .i64) a).length + 1)) y0 1)]) (n := 1) (V := ii r1) [0] (f21_ok m (z0 + ((rowC (encI .i64) a).length + 1)) y0 a r1 r1_h) rfl (by rfl) (by decide) rfl (by kernel_rfl) ⟨⟨_, _, rfl, rfl, .inl ⟨rfl, rwI⟩⟩, trivial⟩) rfl) ?_
 rintro _ _ _ ⟨rfl, rfl, rfl⟩
 refine XR.conv (σ' := [(0, s0 0 a.length), (6, ii r1)]) (h' := [(0, rc (encI .i64) a z0 y0 1)]) (c' := 1) ?_ (by kernel_rfl)
 refine rS 1 [(0, s0 0 a.length), (4, ii r1)] ?_
 refine nQ id ?_
 refine rS 2 [(0, s0 0 a.length), (4, ii r1), (8, .bool (r1 != 0))] ?_
 refine dQ ?_
 show XQ _ _ _ _ _ _ _ _
 cases b1 : (r1 != 0 : Bool) with
 | true =>
  have h := cT b1 h
  refine iT (.tmp 8) ?_
  refine qQ ?_
  refine rS 3 [(2, ii 0), (3, ii r1)] ?_
  refine dQ ?_
  show XQ _ _ _ _ _ _ _ _
  refine XQ.ret (by kernel_rfl) ?_
  have h := Option.some.inj h
  subst h
  exact ⟨fun i q => (by cases q), .tuple #[ii 0, ii r1], (by kernel_rfl), rfl⟩
 | false =>
  have h := cF b1 h
  refine iF (.tmp 8) ?_
  refine kQ ?_
  show XQ _ _ _ _ _ _ _ _
  refine qQ ?_
  refine rT 2 [(10, .map (some 1)), (11, s0 0 a.length)] [(1, iM []), (0, rc (encI .i64) a z0 y0 1)] 2 ?_
  obtain ⟨r2, r2_h, h⟩ := bS h
  refine XR.call E0_ok [12] rfl (K := 72) (args := [.map (some 1), s0 0 a.length]) (d := (some (path 12 12))) (by kernel_rfl) (KC.liftM (n0 := 2) (b := 1) (i0 := 0) (args0 := [.map (some 0), s0 1 a.length]) (h0 := [(1, rc (encI .i64) a (z0 + ((rowC (encI .i64) a).length + 1)) y0 1), (0, iM [])]) (V := ii r2.1) (h2 := [(1, iM r2.2), (0, rc (encI .i64) a z0 y0 1)]) [1, 0] (f72_ok m m (z0 + ((rowC (encI .i64) a).length + 1)) y0 ([] : List (List Int × Int)) a r2 r2_h) rfl (by rfl) (by decide) rfl (by kernel_rfl) (by kernel_rfl) rfl ⟨⟨_, _, rfl, rfl, .inl ⟨rfl, rwI⟩⟩, ⟨_, _, rfl, rfl, .inl ⟨rfl, trivial⟩⟩, trivial⟩ (by kernel_rfl)) ?_
  rintro _ _ _ ⟨rfl, rfl, rfl⟩
  refine XR.conv (σ' := [(12, ii r2.1)]) (h' := [(1, iM r2.2), (0, rc (encI .i64) a z0 y0 1)]) (c' := 2) ?_ (by kernel_rfl)
  refine rS 2 [(2, ii r2.1), (3, ii 0)] ?_
  refine dQ ?_
  show XQ _ _ _ _ _ _ _ _
  refine XQ.ret (by kernel_rfl) ?_
  have h := Option.some.inj h
  subst h
  exact ⟨fun i q => (by cases q), .tuple #[ii r2.1, ii 0], (by kernel_rfl), rfl⟩
noncomputable def f28_C28 : Code := Proofs.Tryd.f28.body.getD .skip
def f28 (m : Nat) (a : List Int) : Option (Bool × Int) :=
 (f26 m a).bind fun r1 =>
  cond (r1.2 != 0) (
   some (false, r1.2)
  ) (
   cond (r1.1 == 0) (
    some (false, 12)
   ) (
    some (r1.1 == 1, 0)
   )
  )
theorem f28_ok (m : Nat) (z0 : Nat) (y0 : Nat) (a : List Int) (o : Bool × Int) (h : f28 m a = some o) : KC E0 28 [s0 0 a.length] [(0, rc (encI .i64) a z0 y0 1)] 1 (fun v _ _ => v = .tuple #[.bool o.1, ii o.2]) := by
 refine KC.bodyN E0_ok (F := Proofs.Tryd.f28) (by kernel_rfl) (code := f28_C28) (by kernel_rfl) (nt := 20) (by kernel_rfl) (rs := [.tmp 2, .tmp 3]) (by kernel_rfl) (by kernel_rfl) (σ := [(0, s0 0 a.length)]) (by kernel_rfl) ?_
 unfold f28 at h
 refine qQ ?_
 refine rS 2 [(0, s0 0 a.length)] ?_
 refine nQ id ?_
 refine rS 1 [(7, s0 0 a.length)] ?_
 obtain ⟨r1, r1_h, h⟩ := bS h
 refine XR.call E0_ok [8] rfl (K := 26) (args := [s0 0 a.length]) (d := (some (path 12 8))) (by kernel_rfl) (KQ.call (KC.quiet E0_ok (args0 := [s0 0 a.length]) (h0 := [(0, rc (encI .i64) a (z0 + ((rowC (encI .i64) a).length + 1)) y0 1)]) (n := 1) (V := .tuple #[ii r1.1, ii r1.2]) [0] (f26_ok m (z0 + ((rowC (encI .i64) a).length + 1)) y0 a r1 r1_h) rfl (by rfl) (by decide) rfl (by kernel_rfl) ⟨⟨_, _, rfl, rfl, .inl ⟨rfl, rwI⟩⟩, trivial⟩) rfl) ?_
 rintro _ _ _ ⟨rfl, rfl, rfl⟩
 refine XR.conv (σ' := [(8, .tuple #[ii r1.1, ii r1.2])]) (h' := [(0, rc (encI .i64) a z0 y0 1)]) (c' := 1) ?_ (by kernel_rfl)
 refine rS 5 [(4, ii r1.1), (5, ii r1.2)] ?_
 refine dQ ?_
 show XQ _ _ _ _ _ _ _ _
 refine sQ ?_
 refine XQ.block (id := 0) (by kernel_rfl) ?_
 refine qQ ?_
 refine rS 3 [(4, ii r1.1), (5, ii r1.2), (11, .bool (r1.2 != 0))] ?_
 refine dQ ?_
 show XQ _ _ _ _ _ _ _ _
 cases b1 : (r1.2 != 0 : Bool) with
 | true =>
  have h := cT b1 h
  refine iT (.tmp 11) ?_
  refine qQ ?_
  refine rS 3 [(2, .bool false), (3, ii r1.2)] ?_
  refine dQ ?_
  show XQ _ _ _ _ _ _ _ _
  refine XQ.ret (by kernel_rfl) ?_
  have h := Option.some.inj h
  subst h
  exact ⟨fun i q => (by cases q), .tuple #[.bool false, ii r1.2], (by kernel_rfl), rfl⟩
 | false =>
  have h := cF b1 h
  refine iF (.tmp 11) ?_
  refine qQ ?_
  refine rS 3 [(4, ii r1.1), (15, .bool (r1.1 == 0))] ?_
  refine dQ ?_
  show XQ _ _ _ _ _ _ _ _
  cases b2 : (r1.1 == 0 : Bool) with
  | true =>
   have h := cT b2 h
   refine iT (.tmp 15) ?_
   refine qQ ?_
   refine rS 2 [(2, .bool false), (3, ii 12)] ?_
   refine dQ ?_
   show XQ _ _ _ _ _ _ _ _
   refine XQ.ret (by kernel_rfl) ?_
   have h := Option.some.inj h
   subst h
   exact ⟨fun i q => (by cases q), .tuple #[.bool false, ii 12], (by kernel_rfl), rfl⟩
  | false =>
   have h := cF b2 h
   refine iF (.tmp 15) ?_
   refine kQ ?_
   show XQ _ _ _ _ _ _ _ _
   refine qQ ?_
   refine rS 4 [(2, .bool (r1.1 == 1)), (3, ii 0)] ?_
   refine dQ ?_
   show XQ _ _ _ _ _ _ _ _
   refine XQ.ret (by kernel_rfl) ?_
   have h := Option.some.inj h
   subst h
   exact ⟨fun i q => (by cases q), .tuple #[.bool (r1.1 == 1), ii 0], (by kernel_rfl), rfl⟩
end Go.Xm
