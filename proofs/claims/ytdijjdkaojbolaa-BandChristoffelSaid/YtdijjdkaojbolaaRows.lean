/-
  No cell of these rows narrows 'for every input' (looked for: loops, veiled, ifaces, maps, wideKeys, modest, calm, conditions, laid).
  DERIVED. THE GIVEN ROWS OF THIS SEAT. 9 by the template 'for every input the law returns true; each argument reads behind the call as it read before'; 0 by the template 'total and deterministic' (their statements: YtdijjdkaojbolaaTotals.lean).
  GIVEN WITH THE SEED: the statements are not yours to turn. If you find one false, say at which input.
  Laid BY PROGRAM, IN A SANDBOX (cutbox-rows.mjs): the forced cells as the released guide's own fill.sh prints them over the translation 3e8190ed52a62b18… (all of the seat's roots in one cut). By AI agents, Wed Nov 11 2026. No macro, syntax, notation, axiom, sorry.
-/
import Derived.Test.YtdijjdkaojbolaaChecked
import GoSem.Claim
import GoSem.ClaimJoined
import GoSem.ClaimMapViews
import Derived.JoinedTies
import Derived.KernelRfl
namespace Go.Proofs.Ytdijjdkaojbolaa
/- THE CELL 'sum', in the pinned program and in every row, IS THE sha256 OF THE DUMP (.gsa) THAT YtdijjdkaojbolaaProg.lean LOADS. Nothing in Lean hashes anything: it is a label: what it is worth is what the hold of that sum in a sandbox is worth. -/
noncomputable def Try.pinned : Pinned := { name := "ytdijjdkaojbolaa", sum := "3e8190ed52a62b18801afea73b810db57f81b0298e72afe25d8aeb0598ebe7a8", checked := Try.checked }
namespace Rows
def none {H : Type} : Left H := { results := [], args := [] }

/-- 'vitolalaw08.BandEven': WHATEVER THE INPUT: true; the input reads as it did. -/
def bandEvenSpec : ChangeSpec := { name := "bandEven", fn := fun _ => fun
  | [d1, d2, d3, d4] => { results := [.lit (.bool true)], args := [d1, d2, d3, d4] }
  | _ => none }
def bandEvenRow : OpenClaim := { program := "ytdijjdkaojbolaa", sum := "3e8190ed52a62b18801afea73b810db57f81b0298e72afe25d8aeb0598ebe7a8", func := "vitola/vitolalaw08.BandEven", spec := "bandEven", inPlace := ["internal/abi.NoEscape", "internal/bytealg.IndexByteString", "internal/bytealg.IndexString"], unfollowed := true, recurses := true, named := ["internal/bytealg.MaxLen"], apart := false }
def BandEvenSaid : Prop := bandEvenRow.holds Try.pinned (OpenSpec.ofChange bandEvenSpec)

/-- ITS FALSE NEIGHBOUR: 'it returns false'. Refute it at one input. -/
def bandEvenWrong : ChangeSpec := { name := "bandEven", fn := fun _ => fun
  | [d1, d2, d3, d4] => { results := [.lit (.bool false)], args := [d1, d2, d3, d4] }
  | _ => none }
def BandEvenWrongFalsely : Prop := bandEvenRow.holds Try.pinned (OpenSpec.ofChange bandEvenWrong)

/-- 'vitolalaw08.BandMade': WHATEVER THE INPUT: true; the input reads as it did. -/
def bandMadeSpec : ChangeSpec := { name := "bandMade", fn := fun _ => fun
  | [d1, d2, d3] => { results := [.lit (.bool true)], args := [d1, d2, d3] }
  | _ => none }
def bandMadeRow : OpenClaim := { program := "ytdijjdkaojbolaa", sum := "3e8190ed52a62b18801afea73b810db57f81b0298e72afe25d8aeb0598ebe7a8", func := "vitola/vitolalaw08.BandMade", spec := "bandMade", inPlace := ["internal/abi.NoEscape", "internal/bytealg.IndexByteString", "internal/bytealg.IndexString"], unfollowed := true, recurses := true, named := ["internal/bytealg.MaxLen"], apart := false }
def BandMadeSaid : Prop := bandMadeRow.holds Try.pinned (OpenSpec.ofChange bandMadeSpec)

/-- ITS FALSE NEIGHBOUR: 'it returns false'. Refute it at one input. -/
def bandMadeWrong : ChangeSpec := { name := "bandMade", fn := fun _ => fun
  | [d1, d2, d3] => { results := [.lit (.bool false)], args := [d1, d2, d3] }
  | _ => none }
def BandMadeWrongFalsely : Prop := bandMadeRow.holds Try.pinned (OpenSpec.ofChange bandMadeWrong)

/-- 'vitolalaw08.BandTurned': WHATEVER THE INPUT: true; the input reads as it did. -/
def bandTurnedSpec : ChangeSpec := { name := "bandTurned", fn := fun _ => fun
  | [d1, d2, d3] => { results := [.lit (.bool true)], args := [d1, d2, d3] }
  | _ => none }
def bandTurnedRow : OpenClaim := { program := "ytdijjdkaojbolaa", sum := "3e8190ed52a62b18801afea73b810db57f81b0298e72afe25d8aeb0598ebe7a8", func := "vitola/vitolalaw08.BandTurned", spec := "bandTurned", inPlace := ["internal/abi.NoEscape", "internal/bytealg.IndexByteString", "internal/bytealg.IndexString"], unfollowed := true, recurses := true, named := ["internal/bytealg.MaxLen"], apart := false }
def BandTurnedSaid : Prop := bandTurnedRow.holds Try.pinned (OpenSpec.ofChange bandTurnedSpec)

/-- ITS FALSE NEIGHBOUR: 'it returns false'. Refute it at one input. -/
def bandTurnedWrong : ChangeSpec := { name := "bandTurned", fn := fun _ => fun
  | [d1, d2, d3] => { results := [.lit (.bool false)], args := [d1, d2, d3] }
  | _ => none }
def BandTurnedWrongFalsely : Prop := bandTurnedRow.holds Try.pinned (OpenSpec.ofChange bandTurnedWrong)

/-- 'vitolalaw08.BandStraight': WHATEVER THE INPUT: true; the input reads as it did. -/
def bandStraightSpec : ChangeSpec := { name := "bandStraight", fn := fun _ => fun
  | [d1, d2] => { results := [.lit (.bool true)], args := [d1, d2] }
  | _ => none }
def bandStraightRow : OpenClaim := { program := "ytdijjdkaojbolaa", sum := "3e8190ed52a62b18801afea73b810db57f81b0298e72afe25d8aeb0598ebe7a8", func := "vitola/vitolalaw08.BandStraight", spec := "bandStraight", inPlace := ["internal/abi.NoEscape", "internal/bytealg.IndexByteString", "internal/bytealg.IndexString"], unfollowed := true, recurses := true, named := ["internal/bytealg.MaxLen"], apart := false }
def BandStraightSaid : Prop := bandStraightRow.holds Try.pinned (OpenSpec.ofChange bandStraightSpec)

/-- ITS FALSE NEIGHBOUR: 'it returns false'. Refute it at one input. -/
def bandStraightWrong : ChangeSpec := { name := "bandStraight", fn := fun _ => fun
  | [d1, d2] => { results := [.lit (.bool false)], args := [d1, d2] }
  | _ => none }
def BandStraightWrongFalsely : Prop := bandStraightRow.holds Try.pinned (OpenSpec.ofChange bandStraightWrong)

/-- 'vitolalaw08.BandKnown': WHATEVER THE INPUT: true; the input reads as it did. -/
def bandKnownSpec : ChangeSpec := { name := "bandKnown", fn := fun _ => fun
  | [] => { results := [.lit (.bool true)], args := [] }
  | _ => none }
def bandKnownRow : OpenClaim := { program := "ytdijjdkaojbolaa", sum := "3e8190ed52a62b18801afea73b810db57f81b0298e72afe25d8aeb0598ebe7a8", func := "vitola/vitolalaw08.BandKnown", spec := "bandKnown", inPlace := ["internal/abi.NoEscape", "internal/bytealg.IndexByteString", "internal/bytealg.IndexString"], unfollowed := true, recurses := true, named := ["internal/bytealg.MaxLen"], apart := false }
def BandKnownSaid : Prop := bandKnownRow.holds Try.pinned (OpenSpec.ofChange bandKnownSpec)

/-- ITS FALSE NEIGHBOUR: 'it returns false'. Refute it at one input. -/
def bandKnownWrong : ChangeSpec := { name := "bandKnown", fn := fun _ => fun
  | [] => { results := [.lit (.bool false)], args := [] }
  | _ => none }
def BandKnownWrongFalsely : Prop := bandKnownRow.holds Try.pinned (OpenSpec.ofChange bandKnownWrong)

/-- 'vitolalaw08.BandProved': WHATEVER THE INPUT: true; the input reads as it did. -/
def bandProvedSpec : ChangeSpec := { name := "bandProved", fn := fun _ => fun
  | [d1, d2] => { results := [.lit (.bool true)], args := [d1, d2] }
  | _ => none }
def bandProvedRow : OpenClaim := { program := "ytdijjdkaojbolaa", sum := "3e8190ed52a62b18801afea73b810db57f81b0298e72afe25d8aeb0598ebe7a8", func := "vitola/vitolalaw08.BandProved", spec := "bandProved", inPlace := ["internal/bytealg.CountString", "internal/bytealg.IndexByteString", "internal/bytealg.IndexString", "internal/abi.NoEscape"], unfollowed := true, recurses := true, named := ["internal/bytealg.MaxLen"], apart := false }
def BandProvedSaid : Prop := bandProvedRow.holds Try.pinned (OpenSpec.ofChange bandProvedSpec)

/-- ITS FALSE NEIGHBOUR: 'it returns false'. Refute it at one input. -/
def bandProvedWrong : ChangeSpec := { name := "bandProved", fn := fun _ => fun
  | [d1, d2] => { results := [.lit (.bool false)], args := [d1, d2] }
  | _ => none }
def BandProvedWrongFalsely : Prop := bandProvedRow.holds Try.pinned (OpenSpec.ofChange bandProvedWrong)

/-- 'vitolalaw08.BandSplit': WHATEVER THE INPUT: true; the input reads as it did. -/
def bandSplitSpec : ChangeSpec := { name := "bandSplit", fn := fun _ => fun
  | [d1, d2] => { results := [.lit (.bool true)], args := [d1, d2] }
  | _ => none }
def bandSplitRow : OpenClaim := { program := "ytdijjdkaojbolaa", sum := "3e8190ed52a62b18801afea73b810db57f81b0298e72afe25d8aeb0598ebe7a8", func := "vitola/vitolalaw08.BandSplit", spec := "bandSplit", inPlace := ["internal/abi.NoEscape", "internal/bytealg.CountString", "internal/bytealg.IndexByteString", "internal/bytealg.IndexString"], unfollowed := true, recurses := true, named := ["internal/bytealg.MaxLen"], apart := false }
def BandSplitSaid : Prop := bandSplitRow.holds Try.pinned (OpenSpec.ofChange bandSplitSpec)

/-- ITS FALSE NEIGHBOUR: 'it returns false'. Refute it at one input. -/
def bandSplitWrong : ChangeSpec := { name := "bandSplit", fn := fun _ => fun
  | [d1, d2] => { results := [.lit (.bool false)], args := [d1, d2] }
  | _ => none }
def BandSplitWrongFalsely : Prop := bandSplitRow.holds Try.pinned (OpenSpec.ofChange bandSplitWrong)

/-- 'vitolalaw08.BandCounted': WHATEVER THE INPUT: true; the input reads as it did. -/
def bandCountedSpec : ChangeSpec := { name := "bandCounted", fn := fun _ => fun
  | [d1, d2, d3, d4] => { results := [.lit (.bool true)], args := [d1, d2, d3, d4] }
  | _ => none }
def bandCountedRow : OpenClaim := { program := "ytdijjdkaojbolaa", sum := "3e8190ed52a62b18801afea73b810db57f81b0298e72afe25d8aeb0598ebe7a8", func := "vitola/vitolalaw08.BandCounted", spec := "bandCounted", inPlace := ["internal/bytealg.CountString", "internal/bytealg.IndexByteString", "internal/bytealg.IndexString", "internal/abi.NoEscape"], unfollowed := true, recurses := true, named := ["internal/bytealg.MaxLen"], apart := false }
def BandCountedSaid : Prop := bandCountedRow.holds Try.pinned (OpenSpec.ofChange bandCountedSpec)

/-- ITS FALSE NEIGHBOUR: 'it returns false'. Refute it at one input. -/
def bandCountedWrong : ChangeSpec := { name := "bandCounted", fn := fun _ => fun
  | [d1, d2, d3, d4] => { results := [.lit (.bool false)], args := [d1, d2, d3, d4] }
  | _ => none }
def BandCountedWrongFalsely : Prop := bandCountedRow.holds Try.pinned (OpenSpec.ofChange bandCountedWrong)

/-- 'vitolalaw08.BandChristoffel': WHATEVER THE INPUT: true; the input reads as it did. -/
def bandChristoffelSpec : ChangeSpec := { name := "bandChristoffel", fn := fun _ => fun
  | [d] => { results := [.lit (.bool true)], args := [d] }
  | _ => none }
def bandChristoffelRow : OpenClaim := { program := "ytdijjdkaojbolaa", sum := "3e8190ed52a62b18801afea73b810db57f81b0298e72afe25d8aeb0598ebe7a8", func := "vitola/vitolalaw08.BandChristoffel", spec := "bandChristoffel", inPlace := ["internal/bytealg.CountString", "internal/bytealg.IndexByteString", "internal/bytealg.IndexString", "internal/abi.NoEscape"], unfollowed := true, recurses := true, named := ["internal/bytealg.MaxLen"], apart := false }
def BandChristoffelSaid : Prop := bandChristoffelRow.holds Try.pinned (OpenSpec.ofChange bandChristoffelSpec)

/-- ITS FALSE NEIGHBOUR: 'it returns false'. Refute it at one input. -/
def bandChristoffelWrong : ChangeSpec := { name := "bandChristoffel", fn := fun _ => fun
  | [d] => { results := [.lit (.bool false)], args := [d] }
  | _ => none }
def BandChristoffelWrongFalsely : Prop := bandChristoffelRow.holds Try.pinned (OpenSpec.ofChange bandChristoffelWrong)

/- THE SECOND FORM. 'bulk': how many values and letters a reading holds, each counted each time it is reached (what is shared counts as often as it is met; a slice's spare places count too). A statement '..UptoSaid' is the law's where the arguments, and the package variables that the reading takes, are together of bulk at most 1048576: NARROWER than '..Said'. Prove '..Said' where nothing that the law and all that it calls make is longer than what came in: it says more and counts as full. Else prove '..UptoSaid'. A law counts once. -/
mutual
def uptoBulk {H : Type} : DataW H → Nat
  | .lit (.string bytes) => bytes.length + 1
  | .lit _ => 1
  | .nil => 1
  | .ptr d => uptoBulk d + 1
  | .slice elems spare => uptoBulkAll elems + uptoBulkAll spare + 1
  | .agg parts => uptoBulkAll parts + 1
  | .iface _ d => uptoBulk d + 1
  | .map entries => uptoBulkEntries entries + 1
  | .held _ => 1
def uptoBulkAll {H : Type} : List (DataW H) → Nat
  | [] => 0
  | d :: r => uptoBulk d + uptoBulkAll r
def uptoBulkEntries {H : Type} : List (Lit × DataW H) → Nat
  | [] => 0
  | x :: r => uptoBulkEntry x + uptoBulkEntries r
def uptoBulkEntry {H : Type} : Lit × DataW H → Nat
  | (.string bytes, d) => bytes.length + uptoBulk d + 1
  | (_, d) => uptoBulk d + 1
 end
def uptoSmall : (H : Type) → List (DataW H) → Bool := fun _ ds => decide (uptoBulkAll ds ≤ 1048576)
def OpenSpec.upto (s : _root_.Go.ChangeSpec) : _root_.Go.OpenSpec := { _root_.Go.OpenSpec.ofChange s with cond := some uptoSmall }

/-- 'vitolalaw08.BandEven', WHERE WHAT IT READS IS OF BULK AT MOST 1048576: true; the input reads as it did. -/
def bandEvenUptoRow : OpenClaim := { program := "ytdijjdkaojbolaa", sum := "3e8190ed52a62b18801afea73b810db57f81b0298e72afe25d8aeb0598ebe7a8", func := "vitola/vitolalaw08.BandEven", spec := "bandEven", inPlace := ["internal/abi.NoEscape", "internal/bytealg.IndexByteString", "internal/bytealg.IndexString"], unfollowed := true, recurses := true, named := ["internal/bytealg.MaxLen"], apart := false, narrowed := true }
def BandEvenUptoSaid : Prop := bandEvenUptoRow.holds Try.pinned (OpenSpec.upto bandEvenSpec)

/-- 'vitolalaw08.BandMade', WHERE WHAT IT READS IS OF BULK AT MOST 1048576: true; the input reads as it did. -/
def bandMadeUptoRow : OpenClaim := { program := "ytdijjdkaojbolaa", sum := "3e8190ed52a62b18801afea73b810db57f81b0298e72afe25d8aeb0598ebe7a8", func := "vitola/vitolalaw08.BandMade", spec := "bandMade", inPlace := ["internal/abi.NoEscape", "internal/bytealg.IndexByteString", "internal/bytealg.IndexString"], unfollowed := true, recurses := true, named := ["internal/bytealg.MaxLen"], apart := false, narrowed := true }
def BandMadeUptoSaid : Prop := bandMadeUptoRow.holds Try.pinned (OpenSpec.upto bandMadeSpec)

/-- 'vitolalaw08.BandTurned', WHERE WHAT IT READS IS OF BULK AT MOST 1048576: true; the input reads as it did. -/
def bandTurnedUptoRow : OpenClaim := { program := "ytdijjdkaojbolaa", sum := "3e8190ed52a62b18801afea73b810db57f81b0298e72afe25d8aeb0598ebe7a8", func := "vitola/vitolalaw08.BandTurned", spec := "bandTurned", inPlace := ["internal/abi.NoEscape", "internal/bytealg.IndexByteString", "internal/bytealg.IndexString"], unfollowed := true, recurses := true, named := ["internal/bytealg.MaxLen"], apart := false, narrowed := true }
def BandTurnedUptoSaid : Prop := bandTurnedUptoRow.holds Try.pinned (OpenSpec.upto bandTurnedSpec)

/-- 'vitolalaw08.BandStraight', WHERE WHAT IT READS IS OF BULK AT MOST 1048576: true; the input reads as it did. -/
def bandStraightUptoRow : OpenClaim := { program := "ytdijjdkaojbolaa", sum := "3e8190ed52a62b18801afea73b810db57f81b0298e72afe25d8aeb0598ebe7a8", func := "vitola/vitolalaw08.BandStraight", spec := "bandStraight", inPlace := ["internal/abi.NoEscape", "internal/bytealg.IndexByteString", "internal/bytealg.IndexString"], unfollowed := true, recurses := true, named := ["internal/bytealg.MaxLen"], apart := false, narrowed := true }
def BandStraightUptoSaid : Prop := bandStraightUptoRow.holds Try.pinned (OpenSpec.upto bandStraightSpec)

/-- 'vitolalaw08.BandKnown', WHERE WHAT IT READS IS OF BULK AT MOST 1048576: true; the input reads as it did. -/
def bandKnownUptoRow : OpenClaim := { program := "ytdijjdkaojbolaa", sum := "3e8190ed52a62b18801afea73b810db57f81b0298e72afe25d8aeb0598ebe7a8", func := "vitola/vitolalaw08.BandKnown", spec := "bandKnown", inPlace := ["internal/abi.NoEscape", "internal/bytealg.IndexByteString", "internal/bytealg.IndexString"], unfollowed := true, recurses := true, named := ["internal/bytealg.MaxLen"], apart := false, narrowed := true }
def BandKnownUptoSaid : Prop := bandKnownUptoRow.holds Try.pinned (OpenSpec.upto bandKnownSpec)

/-- 'vitolalaw08.BandProved', WHERE WHAT IT READS IS OF BULK AT MOST 1048576: true; the input reads as it did. -/
def bandProvedUptoRow : OpenClaim := { program := "ytdijjdkaojbolaa", sum := "3e8190ed52a62b18801afea73b810db57f81b0298e72afe25d8aeb0598ebe7a8", func := "vitola/vitolalaw08.BandProved", spec := "bandProved", inPlace := ["internal/bytealg.CountString", "internal/bytealg.IndexByteString", "internal/bytealg.IndexString", "internal/abi.NoEscape"], unfollowed := true, recurses := true, named := ["internal/bytealg.MaxLen"], apart := false, narrowed := true }
def BandProvedUptoSaid : Prop := bandProvedUptoRow.holds Try.pinned (OpenSpec.upto bandProvedSpec)

/-- 'vitolalaw08.BandSplit', WHERE WHAT IT READS IS OF BULK AT MOST 1048576: true; the input reads as it did. -/
def bandSplitUptoRow : OpenClaim := { program := "ytdijjdkaojbolaa", sum := "3e8190ed52a62b18801afea73b810db57f81b0298e72afe25d8aeb0598ebe7a8", func := "vitola/vitolalaw08.BandSplit", spec := "bandSplit", inPlace := ["internal/abi.NoEscape", "internal/bytealg.CountString", "internal/bytealg.IndexByteString", "internal/bytealg.IndexString"], unfollowed := true, recurses := true, named := ["internal/bytealg.MaxLen"], apart := false, narrowed := true }
def BandSplitUptoSaid : Prop := bandSplitUptoRow.holds Try.pinned (OpenSpec.upto bandSplitSpec)

/-- 'vitolalaw08.BandCounted', WHERE WHAT IT READS IS OF BULK AT MOST 1048576: true; the input reads as it did. -/
def bandCountedUptoRow : OpenClaim := { program := "ytdijjdkaojbolaa", sum := "3e8190ed52a62b18801afea73b810db57f81b0298e72afe25d8aeb0598ebe7a8", func := "vitola/vitolalaw08.BandCounted", spec := "bandCounted", inPlace := ["internal/bytealg.CountString", "internal/bytealg.IndexByteString", "internal/bytealg.IndexString", "internal/abi.NoEscape"], unfollowed := true, recurses := true, named := ["internal/bytealg.MaxLen"], apart := false, narrowed := true }
def BandCountedUptoSaid : Prop := bandCountedUptoRow.holds Try.pinned (OpenSpec.upto bandCountedSpec)

/-- 'vitolalaw08.BandChristoffel', WHERE WHAT IT READS IS OF BULK AT MOST 1048576: true; the input reads as it did. -/
def bandChristoffelUptoRow : OpenClaim := { program := "ytdijjdkaojbolaa", sum := "3e8190ed52a62b18801afea73b810db57f81b0298e72afe25d8aeb0598ebe7a8", func := "vitola/vitolalaw08.BandChristoffel", spec := "bandChristoffel", inPlace := ["internal/bytealg.CountString", "internal/bytealg.IndexByteString", "internal/bytealg.IndexString", "internal/abi.NoEscape"], unfollowed := true, recurses := true, named := ["internal/bytealg.MaxLen"], apart := false, narrowed := true }
def BandChristoffelUptoSaid : Prop := bandChristoffelUptoRow.holds Try.pinned (OpenSpec.upto bandChristoffelSpec)

end Rows
end Go.Proofs.Ytdijjdkaojbolaa
