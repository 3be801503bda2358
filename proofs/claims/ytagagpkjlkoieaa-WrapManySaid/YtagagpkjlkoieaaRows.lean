/-
  No cell of these rows narrows 'for every input' (looked for: loops, veiled, ifaces, maps, wideKeys, modest, calm, conditions, laid).
  DERIVED. THE GIVEN ROWS OF THIS SEAT. 13 by the template 'for every input the law returns true; each argument reads behind the call as it read before'; 0 by the template 'total and deterministic' (their statements: YtagagpkjlkoieaaTotals.lean).
  GIVEN WITH THE SEED: the statements are not yours to turn. If you find one false, say at which input.
  Laid BY PROGRAM, IN A SANDBOX (cutbox-rows.mjs): the forced cells as the released guide's own fill.sh prints them over the translation e88a0778efb27d78… (all of the seat's roots in one cut). By AI agents, Wed Nov 11 2026. No macro, syntax, notation, axiom, sorry.
-/
import Derived.Test.YtagagpkjlkoieaaChecked
import GoSem.Claim
import GoSem.ClaimJoined
import GoSem.ClaimMapViews
import Derived.JoinedTies
import Derived.KernelRfl
namespace Go.Proofs.Ytagagpkjlkoieaa
/- THE CELL 'sum', in the pinned program and in every row, IS THE sha256 OF THE DUMP (.gsa) THAT YtagagpkjlkoieaaProg.lean LOADS. Nothing in Lean hashes anything: it is a label: what it is worth is what the hold of that sum in a sandbox is worth. -/
noncomputable def Try.pinned : Pinned := { name := "ytagagpkjlkoieaa", sum := "e88a0778efb27d785d12d7856e594381fd7dfe72d642e51df830fb880c7eecb6", checked := Try.checked }
namespace Rows
def none {H : Type} : Left H := { results := [], args := [] }

/-- 'vitolalaw05.WrapTurns': WHATEVER THE INPUT: true; the input reads as it did. -/
def wrapTurnsSpec : ChangeSpec := { name := "wrapTurns", fn := fun _ => fun
  | [d1, d2, d3] => { results := [.lit (.bool true)], args := [d1, d2, d3] }
  | _ => none }
def wrapTurnsRow : OpenClaim := { program := "ytagagpkjlkoieaa", sum := "e88a0778efb27d785d12d7856e594381fd7dfe72d642e51df830fb880c7eecb6", func := "vitola/vitolalaw05.WrapTurns", spec := "wrapTurns", unfollowed := true, recurses := true, apart := false }
def WrapTurnsSaid : Prop := wrapTurnsRow.holds Try.pinned (OpenSpec.ofChange wrapTurnsSpec)

/-- ITS FALSE NEIGHBOUR: 'it returns false'. Refute it at one input. -/
def wrapTurnsWrong : ChangeSpec := { name := "wrapTurns", fn := fun _ => fun
  | [d1, d2, d3] => { results := [.lit (.bool false)], args := [d1, d2, d3] }
  | _ => none }
def WrapTurnsWrongFalsely : Prop := wrapTurnsRow.holds Try.pinned (OpenSpec.ofChange wrapTurnsWrong)

/-- 'vitolalaw05.WrapGaps': WHATEVER THE INPUT: true; the input reads as it did. -/
def wrapGapsSpec : ChangeSpec := { name := "wrapGaps", fn := fun _ => fun
  | [d] => { results := [.lit (.bool true)], args := [d] }
  | _ => none }
def wrapGapsRow : OpenClaim := { program := "ytagagpkjlkoieaa", sum := "e88a0778efb27d785d12d7856e594381fd7dfe72d642e51df830fb880c7eecb6", func := "vitola/vitolalaw05.WrapGaps", spec := "wrapGaps", unfollowed := true, recurses := true, apart := false }
def WrapGapsSaid : Prop := wrapGapsRow.holds Try.pinned (OpenSpec.ofChange wrapGapsSpec)

/-- ITS FALSE NEIGHBOUR: 'it returns false'. Refute it at one input. -/
def wrapGapsWrong : ChangeSpec := { name := "wrapGaps", fn := fun _ => fun
  | [d] => { results := [.lit (.bool false)], args := [d] }
  | _ => none }
def WrapGapsWrongFalsely : Prop := wrapGapsRow.holds Try.pinned (OpenSpec.ofChange wrapGapsWrong)

/-- 'vitolalaw05.WrapEvens': WHATEVER THE INPUT: true; the input reads as it did. -/
def wrapEvensSpec : ChangeSpec := { name := "wrapEvens", fn := fun _ => fun
  | [d1, d2] => { results := [.lit (.bool true)], args := [d1, d2] }
  | _ => none }
def wrapEvensRow : OpenClaim := { program := "ytagagpkjlkoieaa", sum := "e88a0778efb27d785d12d7856e594381fd7dfe72d642e51df830fb880c7eecb6", func := "vitola/vitolalaw05.WrapEvens", spec := "wrapEvens", unfollowed := true, recurses := true, apart := false }
def WrapEvensSaid : Prop := wrapEvensRow.holds Try.pinned (OpenSpec.ofChange wrapEvensSpec)

/-- ITS FALSE NEIGHBOUR: 'it returns false'. Refute it at one input. -/
def wrapEvensWrong : ChangeSpec := { name := "wrapEvens", fn := fun _ => fun
  | [d1, d2] => { results := [.lit (.bool false)], args := [d1, d2] }
  | _ => none }
def WrapEvensWrongFalsely : Prop := wrapEvensRow.holds Try.pinned (OpenSpec.ofChange wrapEvensWrong)

/-- 'vitolalaw05.WrapFirst': WHATEVER THE INPUT: true; the input reads as it did. -/
def wrapFirstSpec : ChangeSpec := { name := "wrapFirst", fn := fun _ => fun
  | [d1, d2, d3, d4] => { results := [.lit (.bool true)], args := [d1, d2, d3, d4] }
  | _ => none }
def wrapFirstRow : OpenClaim := { program := "ytagagpkjlkoieaa", sum := "e88a0778efb27d785d12d7856e594381fd7dfe72d642e51df830fb880c7eecb6", func := "vitola/vitolalaw05.WrapFirst", spec := "wrapFirst", unfollowed := true, recurses := true, apart := false }
def WrapFirstSaid : Prop := wrapFirstRow.holds Try.pinned (OpenSpec.ofChange wrapFirstSpec)

/-- ITS FALSE NEIGHBOUR: 'it returns false'. Refute it at one input. -/
def wrapFirstWrong : ChangeSpec := { name := "wrapFirst", fn := fun _ => fun
  | [d1, d2, d3, d4] => { results := [.lit (.bool false)], args := [d1, d2, d3, d4] }
  | _ => none }
def WrapFirstWrongFalsely : Prop := wrapFirstRow.holds Try.pinned (OpenSpec.ofChange wrapFirstWrong)

/-- 'vitolalaw05.WrapMany': WHATEVER THE INPUT: true; the input reads as it did. -/
def wrapManySpec : ChangeSpec := { name := "wrapMany", fn := fun _ => fun
  | [d] => { results := [.lit (.bool true)], args := [d] }
  | _ => none }
def wrapManyRow : OpenClaim := { program := "ytagagpkjlkoieaa", sum := "e88a0778efb27d785d12d7856e594381fd7dfe72d642e51df830fb880c7eecb6", func := "vitola/vitolalaw05.WrapMany", spec := "wrapMany", unfollowed := true, recurses := true, apart := false }
def WrapManySaid : Prop := wrapManyRow.holds Try.pinned (OpenSpec.ofChange wrapManySpec)

/-- ITS FALSE NEIGHBOUR: 'it returns false'. Refute it at one input. -/
def wrapManyWrong : ChangeSpec := { name := "wrapMany", fn := fun _ => fun
  | [d] => { results := [.lit (.bool false)], args := [d] }
  | _ => none }
def WrapManyWrongFalsely : Prop := wrapManyRow.holds Try.pinned (OpenSpec.ofChange wrapManyWrong)

/-- 'vitolalaw05.WrapFound': WHATEVER THE INPUT: true; the input reads as it did. -/
def wrapFoundSpec : ChangeSpec := { name := "wrapFound", fn := fun _ => fun
  | [d1, d2, d3] => { results := [.lit (.bool true)], args := [d1, d2, d3] }
  | _ => none }
def wrapFoundRow : OpenClaim := { program := "ytagagpkjlkoieaa", sum := "e88a0778efb27d785d12d7856e594381fd7dfe72d642e51df830fb880c7eecb6", func := "vitola/vitolalaw05.WrapFound", spec := "wrapFound", unfollowed := true, recurses := true, apart := false }
def WrapFoundSaid : Prop := wrapFoundRow.holds Try.pinned (OpenSpec.ofChange wrapFoundSpec)

/-- ITS FALSE NEIGHBOUR: 'it returns false'. Refute it at one input. -/
def wrapFoundWrong : ChangeSpec := { name := "wrapFound", fn := fun _ => fun
  | [d1, d2, d3] => { results := [.lit (.bool false)], args := [d1, d2, d3] }
  | _ => none }
def WrapFoundWrongFalsely : Prop := wrapFoundRow.holds Try.pinned (OpenSpec.ofChange wrapFoundWrong)

/-- 'vitolalaw05.WrapNearer': WHATEVER THE INPUT: true; the input reads as it did. -/
def wrapNearerSpec : ChangeSpec := { name := "wrapNearer", fn := fun _ => fun
  | [d] => { results := [.lit (.bool true)], args := [d] }
  | _ => none }
def wrapNearerRow : OpenClaim := { program := "ytagagpkjlkoieaa", sum := "e88a0778efb27d785d12d7856e594381fd7dfe72d642e51df830fb880c7eecb6", func := "vitola/vitolalaw05.WrapNearer", spec := "wrapNearer", unfollowed := true, recurses := true, apart := false }
def WrapNearerSaid : Prop := wrapNearerRow.holds Try.pinned (OpenSpec.ofChange wrapNearerSpec)

/-- ITS FALSE NEIGHBOUR: 'it returns false'. Refute it at one input. -/
def wrapNearerWrong : ChangeSpec := { name := "wrapNearer", fn := fun _ => fun
  | [d] => { results := [.lit (.bool false)], args := [d] }
  | _ => none }
def WrapNearerWrongFalsely : Prop := wrapNearerRow.holds Try.pinned (OpenSpec.ofChange wrapNearerWrong)

/-- 'vitolalaw05.WrapChain': WHATEVER THE INPUT: true; the input reads as it did. -/
def wrapChainSpec : ChangeSpec := { name := "wrapChain", fn := fun _ => fun
  | [d] => { results := [.lit (.bool true)], args := [d] }
  | _ => none }
def wrapChainRow : OpenClaim := { program := "ytagagpkjlkoieaa", sum := "e88a0778efb27d785d12d7856e594381fd7dfe72d642e51df830fb880c7eecb6", func := "vitola/vitolalaw05.WrapChain", spec := "wrapChain", unfollowed := true, recurses := true, apart := false }
def WrapChainSaid : Prop := wrapChainRow.holds Try.pinned (OpenSpec.ofChange wrapChainSpec)

/-- ITS FALSE NEIGHBOUR: 'it returns false'. Refute it at one input. -/
def wrapChainWrong : ChangeSpec := { name := "wrapChain", fn := fun _ => fun
  | [d] => { results := [.lit (.bool false)], args := [d] }
  | _ => none }
def WrapChainWrongFalsely : Prop := wrapChainRow.holds Try.pinned (OpenSpec.ofChange wrapChainWrong)

/-- 'vitolalaw05.WrapKnown': WHATEVER THE INPUT: true; the input reads as it did. -/
def wrapKnownSpec : ChangeSpec := { name := "wrapKnown", fn := fun _ => fun
  | [] => { results := [.lit (.bool true)], args := [] }
  | _ => none }
def wrapKnownRow : OpenClaim := { program := "ytagagpkjlkoieaa", sum := "e88a0778efb27d785d12d7856e594381fd7dfe72d642e51df830fb880c7eecb6", func := "vitola/vitolalaw05.WrapKnown", spec := "wrapKnown", unfollowed := true, recurses := true, apart := false }
def WrapKnownSaid : Prop := wrapKnownRow.holds Try.pinned (OpenSpec.ofChange wrapKnownSpec)

/-- ITS FALSE NEIGHBOUR: 'it returns false'. Refute it at one input. -/
def wrapKnownWrong : ChangeSpec := { name := "wrapKnown", fn := fun _ => fun
  | [] => { results := [.lit (.bool false)], args := [] }
  | _ => none }
def WrapKnownWrongFalsely : Prop := wrapKnownRow.holds Try.pinned (OpenSpec.ofChange wrapKnownWrong)

/-- 'vitolalaw05.WrapLeft': WHATEVER THE INPUT: true; the input reads as it did. -/
def wrapLeftSpec : ChangeSpec := { name := "wrapLeft", fn := fun _ => fun
  | [d] => { results := [.lit (.bool true)], args := [d] }
  | _ => none }
def wrapLeftRow : OpenClaim := { program := "ytagagpkjlkoieaa", sum := "e88a0778efb27d785d12d7856e594381fd7dfe72d642e51df830fb880c7eecb6", func := "vitola/vitolalaw05.WrapLeft", spec := "wrapLeft", unfollowed := true, recurses := true, apart := false }
def WrapLeftSaid : Prop := wrapLeftRow.holds Try.pinned (OpenSpec.ofChange wrapLeftSpec)

/-- ITS FALSE NEIGHBOUR: 'it returns false'. Refute it at one input. -/
def wrapLeftWrong : ChangeSpec := { name := "wrapLeft", fn := fun _ => fun
  | [d] => { results := [.lit (.bool false)], args := [d] }
  | _ => none }
def WrapLeftWrongFalsely : Prop := wrapLeftRow.holds Try.pinned (OpenSpec.ofChange wrapLeftWrong)

/-- 'vitolalaw05.WrapMarks': WHATEVER THE INPUT: true; the input reads as it did. -/
def wrapMarksSpec : ChangeSpec := { name := "wrapMarks", fn := fun _ => fun
  | [d1, d2] => { results := [.lit (.bool true)], args := [d1, d2] }
  | _ => none }
def wrapMarksRow : OpenClaim := { program := "ytagagpkjlkoieaa", sum := "e88a0778efb27d785d12d7856e594381fd7dfe72d642e51df830fb880c7eecb6", func := "vitola/vitolalaw05.WrapMarks", spec := "wrapMarks", unfollowed := true, recurses := true, apart := false }
def WrapMarksSaid : Prop := wrapMarksRow.holds Try.pinned (OpenSpec.ofChange wrapMarksSpec)

/-- ITS FALSE NEIGHBOUR: 'it returns false'. Refute it at one input. -/
def wrapMarksWrong : ChangeSpec := { name := "wrapMarks", fn := fun _ => fun
  | [d1, d2] => { results := [.lit (.bool false)], args := [d1, d2] }
  | _ => none }
def WrapMarksWrongFalsely : Prop := wrapMarksRow.holds Try.pinned (OpenSpec.ofChange wrapMarksWrong)

/-- 'vitolalaw05.WrapDivided': WHATEVER THE INPUT: true; the input reads as it did. -/
def wrapDividedSpec : ChangeSpec := { name := "wrapDivided", fn := fun _ => fun
  | [d] => { results := [.lit (.bool true)], args := [d] }
  | _ => none }
def wrapDividedRow : OpenClaim := { program := "ytagagpkjlkoieaa", sum := "e88a0778efb27d785d12d7856e594381fd7dfe72d642e51df830fb880c7eecb6", func := "vitola/vitolalaw05.WrapDivided", spec := "wrapDivided", unfollowed := true, recurses := true, apart := false }
def WrapDividedSaid : Prop := wrapDividedRow.holds Try.pinned (OpenSpec.ofChange wrapDividedSpec)

/-- ITS FALSE NEIGHBOUR: 'it returns false'. Refute it at one input. -/
def wrapDividedWrong : ChangeSpec := { name := "wrapDivided", fn := fun _ => fun
  | [d] => { results := [.lit (.bool false)], args := [d] }
  | _ => none }
def WrapDividedWrongFalsely : Prop := wrapDividedRow.holds Try.pinned (OpenSpec.ofChange wrapDividedWrong)

/-- 'vitolalaw05.WrapThree': WHATEVER THE INPUT: true; the input reads as it did. -/
def wrapThreeSpec : ChangeSpec := { name := "wrapThree", fn := fun _ => fun
  | [d] => { results := [.lit (.bool true)], args := [d] }
  | _ => none }
def wrapThreeRow : OpenClaim := { program := "ytagagpkjlkoieaa", sum := "e88a0778efb27d785d12d7856e594381fd7dfe72d642e51df830fb880c7eecb6", func := "vitola/vitolalaw05.WrapThree", spec := "wrapThree", unfollowed := true, recurses := true, apart := false }
def WrapThreeSaid : Prop := wrapThreeRow.holds Try.pinned (OpenSpec.ofChange wrapThreeSpec)

/-- ITS FALSE NEIGHBOUR: 'it returns false'. Refute it at one input. -/
def wrapThreeWrong : ChangeSpec := { name := "wrapThree", fn := fun _ => fun
  | [d] => { results := [.lit (.bool false)], args := [d] }
  | _ => none }
def WrapThreeWrongFalsely : Prop := wrapThreeRow.holds Try.pinned (OpenSpec.ofChange wrapThreeWrong)

/- THE SECOND FORM. 'bulk': how many values and letters a reading holds, each counted each time it is reached (what is shared counts as often as it is met; a slice's spare places count too). A statement '..UptoSaid' is the law's where the arguments, and the package variables that the reading takes, are together of bulk at most 1048576: NARROWER than '..Said'. Prove '..Said' where nothing that the law and all that it calls make is longer than what came in: it says more and counts as full. Else prove '..UptoSaid'. A law counts once. -/
mutual
def uptoBulk {H : Type} : DataW H → Nat
  | .lit (.string bytes) => bytes.length + 1
  | .lit _ => 1
  | .nil => 1
  | .ptr d => uptoBulk d + 1
  | .slice elems spare => uptoBulkAll elems + uptoBulkAll spare + 1
  | .agg parts => uptoBulkAll parts + 1
  | .iface _ d => uptoBulk d + 1
  | .map entries => uptoBulkEntries entries + 1
  | .held _ => 1
def uptoBulkAll {H : Type} : List (DataW H) → Nat
  | [] => 0
  | d :: r => uptoBulk d + uptoBulkAll r
def uptoBulkEntries {H : Type} : List (Lit × DataW H) → Nat
  | [] => 0
  | x :: r => uptoBulkEntry x + uptoBulkEntries r
def uptoBulkEntry {H : Type} : Lit × DataW H → Nat
  | (.string bytes, d) => bytes.length + uptoBulk d + 1
  | (_, d) => uptoBulk d + 1
 end
def uptoSmall : (H : Type) → List (DataW H) → Bool := fun _ ds => decide (uptoBulkAll ds ≤ 1048576)
def OpenSpec.upto (s : _root_.Go.ChangeSpec) : _root_.Go.OpenSpec := { _root_.Go.OpenSpec.ofChange s with cond := some uptoSmall }

/-- 'vitolalaw05.WrapTurns', WHERE WHAT IT READS IS OF BULK AT MOST 1048576: true; the input reads as it did. -/
def wrapTurnsUptoRow : OpenClaim := { program := "ytagagpkjlkoieaa", sum := "e88a0778efb27d785d12d7856e594381fd7dfe72d642e51df830fb880c7eecb6", func := "vitola/vitolalaw05.WrapTurns", spec := "wrapTurns", unfollowed := true, recurses := true, apart := false, narrowed := true }
def WrapTurnsUptoSaid : Prop := wrapTurnsUptoRow.holds Try.pinned (OpenSpec.upto wrapTurnsSpec)

/-- 'vitolalaw05.WrapGaps', WHERE WHAT IT READS IS OF BULK AT MOST 1048576: true; the input reads as it did. -/
def wrapGapsUptoRow : OpenClaim := { program := "ytagagpkjlkoieaa", sum := "e88a0778efb27d785d12d7856e594381fd7dfe72d642e51df830fb880c7eecb6", func := "vitola/vitolalaw05.WrapGaps", spec := "wrapGaps", unfollowed := true, recurses := true, apart := false, narrowed := true }
def WrapGapsUptoSaid : Prop := wrapGapsUptoRow.holds Try.pinned (OpenSpec.upto wrapGapsSpec)

/-- 'vitolalaw05.WrapEvens', WHERE WHAT IT READS IS OF BULK AT MOST 1048576: true; the input reads as it did. -/
def wrapEvensUptoRow : OpenClaim := { program := "ytagagpkjlkoieaa", sum := "e88a0778efb27d785d12d7856e594381fd7dfe72d642e51df830fb880c7eecb6", func := "vitola/vitolalaw05.WrapEvens", spec := "wrapEvens", unfollowed := true, recurses := true, apart := false, narrowed := true }
def WrapEvensUptoSaid : Prop := wrapEvensUptoRow.holds Try.pinned (OpenSpec.upto wrapEvensSpec)

/-- 'vitolalaw05.WrapFirst', WHERE WHAT IT READS IS OF BULK AT MOST 1048576: true; the input reads as it did. -/
def wrapFirstUptoRow : OpenClaim := { program := "ytagagpkjlkoieaa", sum := "e88a0778efb27d785d12d7856e594381fd7dfe72d642e51df830fb880c7eecb6", func := "vitola/vitolalaw05.WrapFirst", spec := "wrapFirst", unfollowed := true, recurses := true, apart := false, narrowed := true }
def WrapFirstUptoSaid : Prop := wrapFirstUptoRow.holds Try.pinned (OpenSpec.upto wrapFirstSpec)

/-- 'vitolalaw05.WrapMany', WHERE WHAT IT READS IS OF BULK AT MOST 1048576: true; the input reads as it did. -/
def wrapManyUptoRow : OpenClaim := { program := "ytagagpkjlkoieaa", sum := "e88a0778efb27d785d12d7856e594381fd7dfe72d642e51df830fb880c7eecb6", func := "vitola/vitolalaw05.WrapMany", spec := "wrapMany", unfollowed := true, recurses := true, apart := false, narrowed := true }
def WrapManyUptoSaid : Prop := wrapManyUptoRow.holds Try.pinned (OpenSpec.upto wrapManySpec)

/-- 'vitolalaw05.WrapFound', WHERE WHAT IT READS IS OF BULK AT MOST 1048576: true; the input reads as it did. -/
def wrapFoundUptoRow : OpenClaim := { program := "ytagagpkjlkoieaa", sum := "e88a0778efb27d785d12d7856e594381fd7dfe72d642e51df830fb880c7eecb6", func := "vitola/vitolalaw05.WrapFound", spec := "wrapFound", unfollowed := true, recurses := true, apart := false, narrowed := true }
def WrapFoundUptoSaid : Prop := wrapFoundUptoRow.holds Try.pinned (OpenSpec.upto wrapFoundSpec)

/-- 'vitolalaw05.WrapNearer', WHERE WHAT IT READS IS OF BULK AT MOST 1048576: true; the input reads as it did. -/
def wrapNearerUptoRow : OpenClaim := { program := "ytagagpkjlkoieaa", sum := "e88a0778efb27d785d12d7856e594381fd7dfe72d642e51df830fb880c7eecb6", func := "vitola/vitolalaw05.WrapNearer", spec := "wrapNearer", unfollowed := true, recurses := true, apart := false, narrowed := true }
def WrapNearerUptoSaid : Prop := wrapNearerUptoRow.holds Try.pinned (OpenSpec.upto wrapNearerSpec)

/-- 'vitolalaw05.WrapChain', WHERE WHAT IT READS IS OF BULK AT MOST 1048576: true; the input reads as it did. -/
def wrapChainUptoRow : OpenClaim := { program := "ytagagpkjlkoieaa", sum := "e88a0778efb27d785d12d7856e594381fd7dfe72d642e51df830fb880c7eecb6", func := "vitola/vitolalaw05.WrapChain", spec := "wrapChain", unfollowed := true, recurses := true, apart := false, narrowed := true }
def WrapChainUptoSaid : Prop := wrapChainUptoRow.holds Try.pinned (OpenSpec.upto wrapChainSpec)

/-- 'vitolalaw05.WrapKnown', WHERE WHAT IT READS IS OF BULK AT MOST 1048576: true; the input reads as it did. -/
def wrapKnownUptoRow : OpenClaim := { program := "ytagagpkjlkoieaa", sum := "e88a0778efb27d785d12d7856e594381fd7dfe72d642e51df830fb880c7eecb6", func := "vitola/vitolalaw05.WrapKnown", spec := "wrapKnown", unfollowed := true, recurses := true, apart := false, narrowed := true }
def WrapKnownUptoSaid : Prop := wrapKnownUptoRow.holds Try.pinned (OpenSpec.upto wrapKnownSpec)

/-- 'vitolalaw05.WrapLeft', WHERE WHAT IT READS IS OF BULK AT MOST 1048576: true; the input reads as it did. -/
def wrapLeftUptoRow : OpenClaim := { program := "ytagagpkjlkoieaa", sum := "e88a0778efb27d785d12d7856e594381fd7dfe72d642e51df830fb880c7eecb6", func := "vitola/vitolalaw05.WrapLeft", spec := "wrapLeft", unfollowed := true, recurses := true, apart := false, narrowed := true }
def WrapLeftUptoSaid : Prop := wrapLeftUptoRow.holds Try.pinned (OpenSpec.upto wrapLeftSpec)

/-- 'vitolalaw05.WrapMarks', WHERE WHAT IT READS IS OF BULK AT MOST 1048576: true; the input reads as it did. -/
def wrapMarksUptoRow : OpenClaim := { program := "ytagagpkjlkoieaa", sum := "e88a0778efb27d785d12d7856e594381fd7dfe72d642e51df830fb880c7eecb6", func := "vitola/vitolalaw05.WrapMarks", spec := "wrapMarks", unfollowed := true, recurses := true, apart := false, narrowed := true }
def WrapMarksUptoSaid : Prop := wrapMarksUptoRow.holds Try.pinned (OpenSpec.upto wrapMarksSpec)

/-- 'vitolalaw05.WrapDivided', WHERE WHAT IT READS IS OF BULK AT MOST 1048576: true; the input reads as it did. -/
def wrapDividedUptoRow : OpenClaim := { program := "ytagagpkjlkoieaa", sum := "e88a0778efb27d785d12d7856e594381fd7dfe72d642e51df830fb880c7eecb6", func := "vitola/vitolalaw05.WrapDivided", spec := "wrapDivided", unfollowed := true, recurses := true, apart := false, narrowed := true }
def WrapDividedUptoSaid : Prop := wrapDividedUptoRow.holds Try.pinned (OpenSpec.upto wrapDividedSpec)

/-- 'vitolalaw05.WrapThree', WHERE WHAT IT READS IS OF BULK AT MOST 1048576: true; the input reads as it did. -/
def wrapThreeUptoRow : OpenClaim := { program := "ytagagpkjlkoieaa", sum := "e88a0778efb27d785d12d7856e594381fd7dfe72d642e51df830fb880c7eecb6", func := "vitola/vitolalaw05.WrapThree", spec := "wrapThree", unfollowed := true, recurses := true, apart := false, narrowed := true }
def WrapThreeUptoSaid : Prop := wrapThreeUptoRow.holds Try.pinned (OpenSpec.upto wrapThreeSpec)

end Rows
end Go.Proofs.Ytagagpkjlkoieaa
