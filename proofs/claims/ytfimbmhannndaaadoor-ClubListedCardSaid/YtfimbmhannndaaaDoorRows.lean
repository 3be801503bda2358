/-
  NARROWER THAN 'FOR EVERY INPUT', by the rows' own cells (each row's printed sentence says how): ClubCan: laid · ClubMakes: laid · ClubCrosses: laid · ClubGallai: laid · ClubCrossed: laid · ClubGoodman: laid · ClubPlans: laid · ClubKnown: laid · ClubNamed: laid · ClubListed: laid · ClubHavel: laid.
  DERIVED. THE GIVEN ROWS OF THIS SEAT. 11 by the template 'for every input the law returns true; each argument reads behind the call as it read before'; 0 by the template 'total and deterministic' (their statements: YtfimbmhannndaaaDoorTotals.lean).
  GIVEN WITH THE SEED: the statements are not yours to turn. If you find one false, say at which input.
  Laid BY PROGRAM, IN A SANDBOX (cutbox-rows.mjs): the forced cells as the released guide's own fill.sh prints them over the translation e0e1e71f584abc5e… (all of the seat's roots in one cut). By AI agents, Wed Nov 11 2026. No macro, syntax, notation, axiom, sorry.
-/
import Derived.Test.YtfimbmhannndaaaDoorChecked
import GoSem.Claim
import GoSem.ClaimJoined
import GoSem.ClaimMapViews
import Derived.JoinedTies
import Derived.KernelRfl
namespace Go.Proofs.YtfimbmhannndaaaDoor
/- THE CELL 'sum', in the pinned program and in every row, IS THE sha256 OF THE DUMP (.gsa) THAT YtfimbmhannndaaaDoorProg.lean LOADS. Nothing in Lean hashes anything: it is a label: what it is worth is what the hold of that sum in a sandbox is worth. -/
noncomputable def Tryd.pinned : Pinned := { name := "ytfimbmhannndaaadoor", sum := "e0e1e71f584abc5edbf59e1a4dbd43b5111924fd9c4a652039de7ce26cf7a38a", checked := Tryd.checked }
namespace Rows
def none {H : Type} : Left H := { results := [], args := [] }

/- WHAT THE LISTED PACKAGE-LEVEL VARIABLES READ AS WHEN THE CALL BEGINS. Each datum BY PROGRAM (the guide's laid-datum.mjs) off the statement by which the dump's own 'gosem.cut.vars' lays the variable. In a bare row this is a premise. The card (YtfimbmhannndaaaDoorCards.lean) ties it to the program's text. -/
def laid_math_bits_deBruijn32tab {H : Type} : DataW H := .agg [.lit (.int .u8 0), .lit (.int .u8 1), .lit (.int .u8 28), .lit (.int .u8 2), .lit (.int .u8 29), .lit (.int .u8 14), .lit (.int .u8 24), .lit (.int .u8 3), .lit (.int .u8 30), .lit (.int .u8 22), .lit (.int .u8 20), .lit (.int .u8 15), .lit (.int .u8 25), .lit (.int .u8 17), .lit (.int .u8 4), .lit (.int .u8 8), .lit (.int .u8 31), .lit (.int .u8 27), .lit (.int .u8 13), .lit (.int .u8 23), .lit (.int .u8 21), .lit (.int .u8 19), .lit (.int .u8 16), .lit (.int .u8 7), .lit (.int .u8 26), .lit (.int .u8 12), .lit (.int .u8 18), .lit (.int .u8 6), .lit (.int .u8 11), .lit (.int .u8 5), .lit (.int .u8 10), .lit (.int .u8 9)]
def laid_math_bits_deBruijn64tab {H : Type} : DataW H := .agg [.lit (.int .u8 0), .lit (.int .u8 1), .lit (.int .u8 56), .lit (.int .u8 2), .lit (.int .u8 57), .lit (.int .u8 49), .lit (.int .u8 28), .lit (.int .u8 3), .lit (.int .u8 61), .lit (.int .u8 58), .lit (.int .u8 42), .lit (.int .u8 50), .lit (.int .u8 38), .lit (.int .u8 29), .lit (.int .u8 17), .lit (.int .u8 4), .lit (.int .u8 62), .lit (.int .u8 47), .lit (.int .u8 59), .lit (.int .u8 36), .lit (.int .u8 45), .lit (.int .u8 43), .lit (.int .u8 51), .lit (.int .u8 22), .lit (.int .u8 53), .lit (.int .u8 39), .lit (.int .u8 33), .lit (.int .u8 30), .lit (.int .u8 24), .lit (.int .u8 18), .lit (.int .u8 12), .lit (.int .u8 5), .lit (.int .u8 63), .lit (.int .u8 55), .lit (.int .u8 48), .lit (.int .u8 27), .lit (.int .u8 60), .lit (.int .u8 41), .lit (.int .u8 37), .lit (.int .u8 16), .lit (.int .u8 46), .lit (.int .u8 35), .lit (.int .u8 44), .lit (.int .u8 21), .lit (.int .u8 52), .lit (.int .u8 32), .lit (.int .u8 23), .lit (.int .u8 11), .lit (.int .u8 54), .lit (.int .u8 26), .lit (.int .u8 40), .lit (.int .u8 15), .lit (.int .u8 34), .lit (.int .u8 20), .lit (.int .u8 31), .lit (.int .u8 10), .lit (.int .u8 25), .lit (.int .u8 14), .lit (.int .u8 19), .lit (.int .u8 9), .lit (.int .u8 13), .lit (.int .u8 8), .lit (.int .u8 7), .lit (.int .u8 6)]

/-- 'vitolalaw12.ClubCan': WHATEVER THE INPUT: true; the input reads as it did. -/
def clubCanSpec : ChangeSpec := { name := "clubCan", fn := fun _ => fun
  | [d1, d2] => { results := [.lit (.bool true)], args := [d1, d2] }
  | _ => none }
def clubCanRow : OpenClaim := { program := "ytfimbmhannndaaadoor", sum := "e0e1e71f584abc5edbf59e1a4dbd43b5111924fd9c4a652039de7ce26cf7a38a", func := "vitola/vitolalaw12.ClubCan", spec := "clubCan", unfollowed := true, recurses := true, named := ["math/bits.deBruijn32tab", "math/bits.deBruijn64tab"], plainKeys := false, apart := false, laid := [("math/bits.deBruijn32tab", laid_math_bits_deBruijn32tab), ("math/bits.deBruijn64tab", laid_math_bits_deBruijn64tab)] }
def ClubCanSaid : Prop := clubCanRow.holds Tryd.pinned (OpenSpec.ofChange clubCanSpec)

/-- ITS FALSE NEIGHBOUR: 'it returns false'. Refute it at one input. -/
def clubCanWrong : ChangeSpec := { name := "clubCan", fn := fun _ => fun
  | [d1, d2] => { results := [.lit (.bool false)], args := [d1, d2] }
  | _ => none }
def ClubCanWrongFalsely : Prop := clubCanRow.holds Tryd.pinned (OpenSpec.ofChange clubCanWrong)

/-- 'vitolalaw12.ClubMakes': WHATEVER THE INPUT: true; the input reads as it did. -/
def clubMakesSpec : ChangeSpec := { name := "clubMakes", fn := fun _ => fun
  | [d] => { results := [.lit (.bool true)], args := [d] }
  | _ => none }
def clubMakesRow : OpenClaim := { program := "ytfimbmhannndaaadoor", sum := "e0e1e71f584abc5edbf59e1a4dbd43b5111924fd9c4a652039de7ce26cf7a38a", func := "vitola/vitolalaw12.ClubMakes", spec := "clubMakes", unfollowed := true, recurses := true, named := ["math/bits.deBruijn32tab", "math/bits.deBruijn64tab"], plainKeys := false, apart := false, laid := [("math/bits.deBruijn32tab", laid_math_bits_deBruijn32tab), ("math/bits.deBruijn64tab", laid_math_bits_deBruijn64tab)] }
def ClubMakesSaid : Prop := clubMakesRow.holds Tryd.pinned (OpenSpec.ofChange clubMakesSpec)

/-- ITS FALSE NEIGHBOUR: 'it returns false'. Refute it at one input. -/
def clubMakesWrong : ChangeSpec := { name := "clubMakes", fn := fun _ => fun
  | [d] => { results := [.lit (.bool false)], args := [d] }
  | _ => none }
def ClubMakesWrongFalsely : Prop := clubMakesRow.holds Tryd.pinned (OpenSpec.ofChange clubMakesWrong)

/-- 'vitolalaw12.ClubCrosses': WHATEVER THE INPUT: true; the input reads as it did. -/
def clubCrossesSpec : ChangeSpec := { name := "clubCrosses", fn := fun _ => fun
  | [d1, d2, d3, d4] => { results := [.lit (.bool true)], args := [d1, d2, d3, d4] }
  | _ => none }
def clubCrossesRow : OpenClaim := { program := "ytfimbmhannndaaadoor", sum := "e0e1e71f584abc5edbf59e1a4dbd43b5111924fd9c4a652039de7ce26cf7a38a", func := "vitola/vitolalaw12.ClubCrosses", spec := "clubCrosses", unfollowed := true, recurses := true, named := ["math/bits.deBruijn32tab", "math/bits.deBruijn64tab"], plainKeys := false, apart := false, laid := [("math/bits.deBruijn32tab", laid_math_bits_deBruijn32tab), ("math/bits.deBruijn64tab", laid_math_bits_deBruijn64tab)] }
def ClubCrossesSaid : Prop := clubCrossesRow.holds Tryd.pinned (OpenSpec.ofChange clubCrossesSpec)

/-- ITS FALSE NEIGHBOUR: 'it returns false'. Refute it at one input. -/
def clubCrossesWrong : ChangeSpec := { name := "clubCrosses", fn := fun _ => fun
  | [d1, d2, d3, d4] => { results := [.lit (.bool false)], args := [d1, d2, d3, d4] }
  | _ => none }
def ClubCrossesWrongFalsely : Prop := clubCrossesRow.holds Tryd.pinned (OpenSpec.ofChange clubCrossesWrong)

/-- 'vitolalaw12.ClubGallai': WHATEVER THE INPUT: true; the input reads as it did. -/
def clubGallaiSpec : ChangeSpec := { name := "clubGallai", fn := fun _ => fun
  | [d] => { results := [.lit (.bool true)], args := [d] }
  | _ => none }
def clubGallaiRow : OpenClaim := { program := "ytfimbmhannndaaadoor", sum := "e0e1e71f584abc5edbf59e1a4dbd43b5111924fd9c4a652039de7ce26cf7a38a", func := "vitola/vitolalaw12.ClubGallai", spec := "clubGallai", unfollowed := true, recurses := true, named := ["math/bits.deBruijn32tab", "math/bits.deBruijn64tab"], plainKeys := false, apart := false, laid := [("math/bits.deBruijn32tab", laid_math_bits_deBruijn32tab), ("math/bits.deBruijn64tab", laid_math_bits_deBruijn64tab)] }
def ClubGallaiSaid : Prop := clubGallaiRow.holds Tryd.pinned (OpenSpec.ofChange clubGallaiSpec)

/-- ITS FALSE NEIGHBOUR: 'it returns false'. Refute it at one input. -/
def clubGallaiWrong : ChangeSpec := { name := "clubGallai", fn := fun _ => fun
  | [d] => { results := [.lit (.bool false)], args := [d] }
  | _ => none }
def ClubGallaiWrongFalsely : Prop := clubGallaiRow.holds Tryd.pinned (OpenSpec.ofChange clubGallaiWrong)

/-- 'vitolalaw12.ClubCrossed': WHATEVER THE INPUT: true; the input reads as it did. -/
def clubCrossedSpec : ChangeSpec := { name := "clubCrossed", fn := fun _ => fun
  | [d] => { results := [.lit (.bool true)], args := [d] }
  | _ => none }
def clubCrossedRow : OpenClaim := { program := "ytfimbmhannndaaadoor", sum := "e0e1e71f584abc5edbf59e1a4dbd43b5111924fd9c4a652039de7ce26cf7a38a", func := "vitola/vitolalaw12.ClubCrossed", spec := "clubCrossed", unfollowed := true, recurses := true, named := ["math/bits.deBruijn32tab", "math/bits.deBruijn64tab"], plainKeys := false, apart := false, laid := [("math/bits.deBruijn32tab", laid_math_bits_deBruijn32tab), ("math/bits.deBruijn64tab", laid_math_bits_deBruijn64tab)] }
def ClubCrossedSaid : Prop := clubCrossedRow.holds Tryd.pinned (OpenSpec.ofChange clubCrossedSpec)

/-- ITS FALSE NEIGHBOUR: 'it returns false'. Refute it at one input. -/
def clubCrossedWrong : ChangeSpec := { name := "clubCrossed", fn := fun _ => fun
  | [d] => { results := [.lit (.bool false)], args := [d] }
  | _ => none }
def ClubCrossedWrongFalsely : Prop := clubCrossedRow.holds Tryd.pinned (OpenSpec.ofChange clubCrossedWrong)

/-- 'vitolalaw12.ClubGoodman': WHATEVER THE INPUT: true; the input reads as it did. -/
def clubGoodmanSpec : ChangeSpec := { name := "clubGoodman", fn := fun _ => fun
  | [d] => { results := [.lit (.bool true)], args := [d] }
  | _ => none }
def clubGoodmanRow : OpenClaim := { program := "ytfimbmhannndaaadoor", sum := "e0e1e71f584abc5edbf59e1a4dbd43b5111924fd9c4a652039de7ce26cf7a38a", func := "vitola/vitolalaw12.ClubGoodman", spec := "clubGoodman", unfollowed := true, recurses := true, named := ["math/bits.deBruijn32tab", "math/bits.deBruijn64tab"], plainKeys := false, apart := false, laid := [("math/bits.deBruijn32tab", laid_math_bits_deBruijn32tab), ("math/bits.deBruijn64tab", laid_math_bits_deBruijn64tab)] }
def ClubGoodmanSaid : Prop := clubGoodmanRow.holds Tryd.pinned (OpenSpec.ofChange clubGoodmanSpec)

/-- ITS FALSE NEIGHBOUR: 'it returns false'. Refute it at one input. -/
def clubGoodmanWrong : ChangeSpec := { name := "clubGoodman", fn := fun _ => fun
  | [d] => { results := [.lit (.bool false)], args := [d] }
  | _ => none }
def ClubGoodmanWrongFalsely : Prop := clubGoodmanRow.holds Tryd.pinned (OpenSpec.ofChange clubGoodmanWrong)

/-- 'vitolalaw12.ClubPlans': WHATEVER THE INPUT: true; the input reads as it did. -/
def clubPlansSpec : ChangeSpec := { name := "clubPlans", fn := fun _ => fun
  | [d] => { results := [.lit (.bool true)], args := [d] }
  | _ => none }
def clubPlansRow : OpenClaim := { program := "ytfimbmhannndaaadoor", sum := "e0e1e71f584abc5edbf59e1a4dbd43b5111924fd9c4a652039de7ce26cf7a38a", func := "vitola/vitolalaw12.ClubPlans", spec := "clubPlans", unfollowed := true, recurses := true, named := ["math/bits.deBruijn32tab", "math/bits.deBruijn64tab"], plainKeys := false, apart := false, laid := [("math/bits.deBruijn32tab", laid_math_bits_deBruijn32tab), ("math/bits.deBruijn64tab", laid_math_bits_deBruijn64tab)] }
def ClubPlansSaid : Prop := clubPlansRow.holds Tryd.pinned (OpenSpec.ofChange clubPlansSpec)

/-- ITS FALSE NEIGHBOUR: 'it returns false'. Refute it at one input. -/
def clubPlansWrong : ChangeSpec := { name := "clubPlans", fn := fun _ => fun
  | [d] => { results := [.lit (.bool false)], args := [d] }
  | _ => none }
def ClubPlansWrongFalsely : Prop := clubPlansRow.holds Tryd.pinned (OpenSpec.ofChange clubPlansWrong)

/-- 'vitolalaw12.ClubKnown': WHATEVER THE INPUT: true; the input reads as it did. -/
def clubKnownSpec : ChangeSpec := { name := "clubKnown", fn := fun _ => fun
  | [] => { results := [.lit (.bool true)], args := [] }
  | _ => none }
def clubKnownRow : OpenClaim := { program := "ytfimbmhannndaaadoor", sum := "e0e1e71f584abc5edbf59e1a4dbd43b5111924fd9c4a652039de7ce26cf7a38a", func := "vitola/vitolalaw12.ClubKnown", spec := "clubKnown", unfollowed := true, recurses := true, named := ["math/bits.deBruijn32tab", "math/bits.deBruijn64tab"], plainKeys := false, apart := false, laid := [("math/bits.deBruijn32tab", laid_math_bits_deBruijn32tab), ("math/bits.deBruijn64tab", laid_math_bits_deBruijn64tab)] }
def ClubKnownSaid : Prop := clubKnownRow.holds Tryd.pinned (OpenSpec.ofChange clubKnownSpec)

/-- ITS FALSE NEIGHBOUR: 'it returns false'. Refute it at one input. -/
def clubKnownWrong : ChangeSpec := { name := "clubKnown", fn := fun _ => fun
  | [] => { results := [.lit (.bool false)], args := [] }
  | _ => none }
def ClubKnownWrongFalsely : Prop := clubKnownRow.holds Tryd.pinned (OpenSpec.ofChange clubKnownWrong)

/-- 'vitolalaw12.ClubNamed': WHATEVER THE INPUT: true; the input reads as it did. -/
def clubNamedSpec : ChangeSpec := { name := "clubNamed", fn := fun _ => fun
  | [d1, d2, d3] => { results := [.lit (.bool true)], args := [d1, d2, d3] }
  | _ => none }
def clubNamedRow : OpenClaim := { program := "ytfimbmhannndaaadoor", sum := "e0e1e71f584abc5edbf59e1a4dbd43b5111924fd9c4a652039de7ce26cf7a38a", func := "vitola/vitolalaw12.ClubNamed", spec := "clubNamed", unfollowed := true, recurses := true, named := ["math/bits.deBruijn32tab", "math/bits.deBruijn64tab"], plainKeys := false, apart := false, laid := [("math/bits.deBruijn32tab", laid_math_bits_deBruijn32tab), ("math/bits.deBruijn64tab", laid_math_bits_deBruijn64tab)] }
def ClubNamedSaid : Prop := clubNamedRow.holds Tryd.pinned (OpenSpec.ofChange clubNamedSpec)

/-- ITS FALSE NEIGHBOUR: 'it returns false'. Refute it at one input. -/
def clubNamedWrong : ChangeSpec := { name := "clubNamed", fn := fun _ => fun
  | [d1, d2, d3] => { results := [.lit (.bool false)], args := [d1, d2, d3] }
  | _ => none }
def ClubNamedWrongFalsely : Prop := clubNamedRow.holds Tryd.pinned (OpenSpec.ofChange clubNamedWrong)

/-- 'vitolalaw12.ClubListed': WHATEVER THE INPUT: true; the input reads as it did. -/
def clubListedSpec : ChangeSpec := { name := "clubListed", fn := fun _ => fun
  | [d] => { results := [.lit (.bool true)], args := [d] }
  | _ => none }
def clubListedRow : OpenClaim := { program := "ytfimbmhannndaaadoor", sum := "e0e1e71f584abc5edbf59e1a4dbd43b5111924fd9c4a652039de7ce26cf7a38a", func := "vitola/vitolalaw12.ClubListed", spec := "clubListed", unfollowed := true, recurses := true, named := ["math/bits.deBruijn32tab", "math/bits.deBruijn64tab"], plainKeys := false, apart := false, laid := [("math/bits.deBruijn32tab", laid_math_bits_deBruijn32tab), ("math/bits.deBruijn64tab", laid_math_bits_deBruijn64tab)] }
def ClubListedSaid : Prop := clubListedRow.holds Tryd.pinned (OpenSpec.ofChange clubListedSpec)

/-- ITS FALSE NEIGHBOUR: 'it returns false'. Refute it at one input. -/
def clubListedWrong : ChangeSpec := { name := "clubListed", fn := fun _ => fun
  | [d] => { results := [.lit (.bool false)], args := [d] }
  | _ => none }
def ClubListedWrongFalsely : Prop := clubListedRow.holds Tryd.pinned (OpenSpec.ofChange clubListedWrong)

/-- 'vitolalaw12.ClubHavel': WHATEVER THE INPUT: true; the input reads as it did. -/
def clubHavelSpec : ChangeSpec := { name := "clubHavel", fn := fun _ => fun
  | [d1, d2, d3] => { results := [.lit (.bool true)], args := [d1, d2, d3] }
  | _ => none }
def clubHavelRow : OpenClaim := { program := "ytfimbmhannndaaadoor", sum := "e0e1e71f584abc5edbf59e1a4dbd43b5111924fd9c4a652039de7ce26cf7a38a", func := "vitola/vitolalaw12.ClubHavel", spec := "clubHavel", unfollowed := true, recurses := true, named := ["math/bits.deBruijn32tab", "math/bits.deBruijn64tab"], plainKeys := false, apart := false, laid := [("math/bits.deBruijn32tab", laid_math_bits_deBruijn32tab), ("math/bits.deBruijn64tab", laid_math_bits_deBruijn64tab)] }
def ClubHavelSaid : Prop := clubHavelRow.holds Tryd.pinned (OpenSpec.ofChange clubHavelSpec)

/-- ITS FALSE NEIGHBOUR: 'it returns false'. Refute it at one input. -/
def clubHavelWrong : ChangeSpec := { name := "clubHavel", fn := fun _ => fun
  | [d1, d2, d3] => { results := [.lit (.bool false)], args := [d1, d2, d3] }
  | _ => none }
def ClubHavelWrongFalsely : Prop := clubHavelRow.holds Tryd.pinned (OpenSpec.ofChange clubHavelWrong)

/- THE SECOND FORM. 'bulk': how many values and letters a reading holds, each counted each time it is reached (what is shared counts as often as it is met; a slice's spare places count too). A statement '..UptoSaid' is the law's where the arguments, and the package variables that the reading takes, are together of bulk at most 1048576: NARROWER than '..Said'. Prove '..Said' where nothing that the law and all that it calls make is longer than what came in: it says more and counts as full. Else prove '..UptoSaid'. A law counts once. -/
mutual
def uptoBulk {H : Type} : DataW H → Nat
  | .lit (.string bytes) => bytes.length + 1
  | .lit _ => 1
  | .nil => 1
  | .ptr d => uptoBulk d + 1
  | .slice elems spare => uptoBulkAll elems + uptoBulkAll spare + 1
  | .agg parts => uptoBulkAll parts + 1
  | .iface _ d => uptoBulk d + 1
  | .map entries => uptoBulkEntries entries + 1
  | .held _ => 1
def uptoBulkAll {H : Type} : List (DataW H) → Nat
  | [] => 0
  | d :: r => uptoBulk d + uptoBulkAll r
def uptoBulkEntries {H : Type} : List (Lit × DataW H) → Nat
  | [] => 0
  | x :: r => uptoBulkEntry x + uptoBulkEntries r
def uptoBulkEntry {H : Type} : Lit × DataW H → Nat
  | (.string bytes, d) => bytes.length + uptoBulk d + 1
  | (_, d) => uptoBulk d + 1
 end
def uptoSmall : (H : Type) → List (DataW H) → Bool := fun _ ds => decide (uptoBulkAll ds ≤ 1048576)
def OpenSpec.upto (s : _root_.Go.ChangeSpec) : _root_.Go.OpenSpec := { _root_.Go.OpenSpec.ofChange s with cond := some uptoSmall }

/-- 'vitolalaw12.ClubCan', WHERE WHAT IT READS IS OF BULK AT MOST 1048576: true; the input reads as it did. -/
def clubCanUptoRow : OpenClaim := { program := "ytfimbmhannndaaadoor", sum := "e0e1e71f584abc5edbf59e1a4dbd43b5111924fd9c4a652039de7ce26cf7a38a", func := "vitola/vitolalaw12.ClubCan", spec := "clubCan", unfollowed := true, recurses := true, named := ["math/bits.deBruijn32tab", "math/bits.deBruijn64tab"], plainKeys := false, apart := false, laid := [("math/bits.deBruijn32tab", laid_math_bits_deBruijn32tab), ("math/bits.deBruijn64tab", laid_math_bits_deBruijn64tab)], narrowed := true }
def ClubCanUptoSaid : Prop := clubCanUptoRow.holds Tryd.pinned (OpenSpec.upto clubCanSpec)

/-- 'vitolalaw12.ClubMakes', WHERE WHAT IT READS IS OF BULK AT MOST 1048576: true; the input reads as it did. -/
def clubMakesUptoRow : OpenClaim := { program := "ytfimbmhannndaaadoor", sum := "e0e1e71f584abc5edbf59e1a4dbd43b5111924fd9c4a652039de7ce26cf7a38a", func := "vitola/vitolalaw12.ClubMakes", spec := "clubMakes", unfollowed := true, recurses := true, named := ["math/bits.deBruijn32tab", "math/bits.deBruijn64tab"], plainKeys := false, apart := false, laid := [("math/bits.deBruijn32tab", laid_math_bits_deBruijn32tab), ("math/bits.deBruijn64tab", laid_math_bits_deBruijn64tab)], narrowed := true }
def ClubMakesUptoSaid : Prop := clubMakesUptoRow.holds Tryd.pinned (OpenSpec.upto clubMakesSpec)

/-- 'vitolalaw12.ClubCrosses', WHERE WHAT IT READS IS OF BULK AT MOST 1048576: true; the input reads as it did. -/
def clubCrossesUptoRow : OpenClaim := { program := "ytfimbmhannndaaadoor", sum := "e0e1e71f584abc5edbf59e1a4dbd43b5111924fd9c4a652039de7ce26cf7a38a", func := "vitola/vitolalaw12.ClubCrosses", spec := "clubCrosses", unfollowed := true, recurses := true, named := ["math/bits.deBruijn32tab", "math/bits.deBruijn64tab"], plainKeys := false, apart := false, laid := [("math/bits.deBruijn32tab", laid_math_bits_deBruijn32tab), ("math/bits.deBruijn64tab", laid_math_bits_deBruijn64tab)], narrowed := true }
def ClubCrossesUptoSaid : Prop := clubCrossesUptoRow.holds Tryd.pinned (OpenSpec.upto clubCrossesSpec)

/-- 'vitolalaw12.ClubGallai', WHERE WHAT IT READS IS OF BULK AT MOST 1048576: true; the input reads as it did. -/
def clubGallaiUptoRow : OpenClaim := { program := "ytfimbmhannndaaadoor", sum := "e0e1e71f584abc5edbf59e1a4dbd43b5111924fd9c4a652039de7ce26cf7a38a", func := "vitola/vitolalaw12.ClubGallai", spec := "clubGallai", unfollowed := true, recurses := true, named := ["math/bits.deBruijn32tab", "math/bits.deBruijn64tab"], plainKeys := false, apart := false, laid := [("math/bits.deBruijn32tab", laid_math_bits_deBruijn32tab), ("math/bits.deBruijn64tab", laid_math_bits_deBruijn64tab)], narrowed := true }
def ClubGallaiUptoSaid : Prop := clubGallaiUptoRow.holds Tryd.pinned (OpenSpec.upto clubGallaiSpec)

/-- 'vitolalaw12.ClubCrossed', WHERE WHAT IT READS IS OF BULK AT MOST 1048576: true; the input reads as it did. -/
def clubCrossedUptoRow : OpenClaim := { program := "ytfimbmhannndaaadoor", sum := "e0e1e71f584abc5edbf59e1a4dbd43b5111924fd9c4a652039de7ce26cf7a38a", func := "vitola/vitolalaw12.ClubCrossed", spec := "clubCrossed", unfollowed := true, recurses := true, named := ["math/bits.deBruijn32tab", "math/bits.deBruijn64tab"], plainKeys := false, apart := false, laid := [("math/bits.deBruijn32tab", laid_math_bits_deBruijn32tab), ("math/bits.deBruijn64tab", laid_math_bits_deBruijn64tab)], narrowed := true }
def ClubCrossedUptoSaid : Prop := clubCrossedUptoRow.holds Tryd.pinned (OpenSpec.upto clubCrossedSpec)

/-- 'vitolalaw12.ClubGoodman', WHERE WHAT IT READS IS OF BULK AT MOST 1048576: true; the input reads as it did. -/
def clubGoodmanUptoRow : OpenClaim := { program := "ytfimbmhannndaaadoor", sum := "e0e1e71f584abc5edbf59e1a4dbd43b5111924fd9c4a652039de7ce26cf7a38a", func := "vitola/vitolalaw12.ClubGoodman", spec := "clubGoodman", unfollowed := true, recurses := true, named := ["math/bits.deBruijn32tab", "math/bits.deBruijn64tab"], plainKeys := false, apart := false, laid := [("math/bits.deBruijn32tab", laid_math_bits_deBruijn32tab), ("math/bits.deBruijn64tab", laid_math_bits_deBruijn64tab)], narrowed := true }
def ClubGoodmanUptoSaid : Prop := clubGoodmanUptoRow.holds Tryd.pinned (OpenSpec.upto clubGoodmanSpec)

/-- 'vitolalaw12.ClubPlans', WHERE WHAT IT READS IS OF BULK AT MOST 1048576: true; the input reads as it did. -/
def clubPlansUptoRow : OpenClaim := { program := "ytfimbmhannndaaadoor", sum := "e0e1e71f584abc5edbf59e1a4dbd43b5111924fd9c4a652039de7ce26cf7a38a", func := "vitola/vitolalaw12.ClubPlans", spec := "clubPlans", unfollowed := true, recurses := true, named := ["math/bits.deBruijn32tab", "math/bits.deBruijn64tab"], plainKeys := false, apart := false, laid := [("math/bits.deBruijn32tab", laid_math_bits_deBruijn32tab), ("math/bits.deBruijn64tab", laid_math_bits_deBruijn64tab)], narrowed := true }
def ClubPlansUptoSaid : Prop := clubPlansUptoRow.holds Tryd.pinned (OpenSpec.upto clubPlansSpec)

/-- 'vitolalaw12.ClubKnown', WHERE WHAT IT READS IS OF BULK AT MOST 1048576: true; the input reads as it did. -/
def clubKnownUptoRow : OpenClaim := { program := "ytfimbmhannndaaadoor", sum := "e0e1e71f584abc5edbf59e1a4dbd43b5111924fd9c4a652039de7ce26cf7a38a", func := "vitola/vitolalaw12.ClubKnown", spec := "clubKnown", unfollowed := true, recurses := true, named := ["math/bits.deBruijn32tab", "math/bits.deBruijn64tab"], plainKeys := false, apart := false, laid := [("math/bits.deBruijn32tab", laid_math_bits_deBruijn32tab), ("math/bits.deBruijn64tab", laid_math_bits_deBruijn64tab)], narrowed := true }
def ClubKnownUptoSaid : Prop := clubKnownUptoRow.holds Tryd.pinned (OpenSpec.upto clubKnownSpec)

/-- 'vitolalaw12.ClubNamed', WHERE WHAT IT READS IS OF BULK AT MOST 1048576: true; the input reads as it did. -/
def clubNamedUptoRow : OpenClaim := { program := "ytfimbmhannndaaadoor", sum := "e0e1e71f584abc5edbf59e1a4dbd43b5111924fd9c4a652039de7ce26cf7a38a", func := "vitola/vitolalaw12.ClubNamed", spec := "clubNamed", unfollowed := true, recurses := true, named := ["math/bits.deBruijn32tab", "math/bits.deBruijn64tab"], plainKeys := false, apart := false, laid := [("math/bits.deBruijn32tab", laid_math_bits_deBruijn32tab), ("math/bits.deBruijn64tab", laid_math_bits_deBruijn64tab)], narrowed := true }
def ClubNamedUptoSaid : Prop := clubNamedUptoRow.holds Tryd.pinned (OpenSpec.upto clubNamedSpec)

/-- 'vitolalaw12.ClubListed', WHERE WHAT IT READS IS OF BULK AT MOST 1048576: true; the input reads as it did. -/
def clubListedUptoRow : OpenClaim := { program := "ytfimbmhannndaaadoor", sum := "e0e1e71f584abc5edbf59e1a4dbd43b5111924fd9c4a652039de7ce26cf7a38a", func := "vitola/vitolalaw12.ClubListed", spec := "clubListed", unfollowed := true, recurses := true, named := ["math/bits.deBruijn32tab", "math/bits.deBruijn64tab"], plainKeys := false, apart := false, laid := [("math/bits.deBruijn32tab", laid_math_bits_deBruijn32tab), ("math/bits.deBruijn64tab", laid_math_bits_deBruijn64tab)], narrowed := true }
def ClubListedUptoSaid : Prop := clubListedUptoRow.holds Tryd.pinned (OpenSpec.upto clubListedSpec)

/-- 'vitolalaw12.ClubHavel', WHERE WHAT IT READS IS OF BULK AT MOST 1048576: true; the input reads as it did. -/
def clubHavelUptoRow : OpenClaim := { program := "ytfimbmhannndaaadoor", sum := "e0e1e71f584abc5edbf59e1a4dbd43b5111924fd9c4a652039de7ce26cf7a38a", func := "vitola/vitolalaw12.ClubHavel", spec := "clubHavel", unfollowed := true, recurses := true, named := ["math/bits.deBruijn32tab", "math/bits.deBruijn64tab"], plainKeys := false, apart := false, laid := [("math/bits.deBruijn32tab", laid_math_bits_deBruijn32tab), ("math/bits.deBruijn64tab", laid_math_bits_deBruijn64tab)], narrowed := true }
def ClubHavelUptoSaid : Prop := clubHavelUptoRow.holds Tryd.pinned (OpenSpec.upto clubHavelSpec)

end Rows
end Go.Proofs.YtfimbmhannndaaaDoor
