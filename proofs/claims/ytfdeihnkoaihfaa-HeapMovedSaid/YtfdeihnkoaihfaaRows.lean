/-
  No cell of these rows narrows 'for every input' (looked for: loops, veiled, ifaces, maps, wideKeys, modest, calm, conditions, laid).
  DERIVED. THE GIVEN ROWS OF THIS SEAT. 12 by the template 'for every input the law returns true; each argument reads behind the call as it read before'; 0 by the template 'total and deterministic' (their statements: YtfdeihnkoaihfaaTotals.lean).
  GIVEN WITH THE SEED: the statements are not yours to turn. If you find one false, say at which input.
  Laid BY PROGRAM, IN A SANDBOX (cutbox-rows.mjs): the forced cells as the released guide's own fill.sh prints them over the translation 4474238b94b5cf33… (all of the seat's roots in one cut). By AI agents, Wed Nov 11 2026. No macro, syntax, notation, axiom, sorry.
-/
import Derived.Test.YtfdeihnkoaihfaaChecked
import GoSem.Claim
import GoSem.ClaimJoined
import GoSem.ClaimMapViews
import Derived.JoinedTies
import Derived.KernelRfl
namespace Go.Proofs.Ytfdeihnkoaihfaa
/- THE CELL 'sum', in the pinned program and in every row, IS THE sha256 OF THE DUMP (.gsa) THAT YtfdeihnkoaihfaaProg.lean LOADS. Nothing in Lean hashes anything: it is a label: what it is worth is what the hold of that sum in a sandbox is worth. -/
noncomputable def Try.pinned : Pinned := { name := "ytfdeihnkoaihfaa", sum := "4474238b94b5cf339164f4c7833f25850dbc7b9e84e32805fd15faa84a1c9aae", checked := Try.checked }
namespace Rows
def none {H : Type} : Left H := { results := [], args := [] }

/-- 'vitolalaw02.HeapPlans': WHATEVER THE INPUT: true; the input reads as it did. -/
def heapPlansSpec : ChangeSpec := { name := "heapPlans", fn := fun _ => fun
  | [d1, d2, d3] => { results := [.lit (.bool true)], args := [d1, d2, d3] }
  | _ => none }
def heapPlansRow : OpenClaim := { program := "ytfdeihnkoaihfaa", sum := "4474238b94b5cf339164f4c7833f25850dbc7b9e84e32805fd15faa84a1c9aae", func := "vitola/vitolalaw02.HeapPlans", spec := "heapPlans", unfollowed := true, recurses := true, apart := false }
def HeapPlansSaid : Prop := heapPlansRow.holds Try.pinned (OpenSpec.ofChange heapPlansSpec)

/-- ITS FALSE NEIGHBOUR: 'it returns false'. Refute it at one input. -/
def heapPlansWrong : ChangeSpec := { name := "heapPlans", fn := fun _ => fun
  | [d1, d2, d3] => { results := [.lit (.bool false)], args := [d1, d2, d3] }
  | _ => none }
def HeapPlansWrongFalsely : Prop := heapPlansRow.holds Try.pinned (OpenSpec.ofChange heapPlansWrong)

/-- 'vitolalaw02.HeapWhys': WHATEVER THE INPUT: true; the input reads as it did. -/
def heapWhysSpec : ChangeSpec := { name := "heapWhys", fn := fun _ => fun
  | [d1, d2, d3, d4] => { results := [.lit (.bool true)], args := [d1, d2, d3, d4] }
  | _ => none }
def heapWhysRow : OpenClaim := { program := "ytfdeihnkoaihfaa", sum := "4474238b94b5cf339164f4c7833f25850dbc7b9e84e32805fd15faa84a1c9aae", func := "vitola/vitolalaw02.HeapWhys", spec := "heapWhys", unfollowed := true, recurses := true, apart := false }
def HeapWhysSaid : Prop := heapWhysRow.holds Try.pinned (OpenSpec.ofChange heapWhysSpec)

/-- ITS FALSE NEIGHBOUR: 'it returns false'. Refute it at one input. -/
def heapWhysWrong : ChangeSpec := { name := "heapWhys", fn := fun _ => fun
  | [d1, d2, d3, d4] => { results := [.lit (.bool false)], args := [d1, d2, d3, d4] }
  | _ => none }
def HeapWhysWrongFalsely : Prop := heapWhysRow.holds Try.pinned (OpenSpec.ofChange heapWhysWrong)

/-- 'vitolalaw02.HeapKeeps': WHATEVER THE INPUT: true; the input reads as it did. -/
def heapKeepsSpec : ChangeSpec := { name := "heapKeeps", fn := fun _ => fun
  | [d1, d2] => { results := [.lit (.bool true)], args := [d1, d2] }
  | _ => none }
def heapKeepsRow : OpenClaim := { program := "ytfdeihnkoaihfaa", sum := "4474238b94b5cf339164f4c7833f25850dbc7b9e84e32805fd15faa84a1c9aae", func := "vitola/vitolalaw02.HeapKeeps", spec := "heapKeeps", unfollowed := true, recurses := true, apart := false }
def HeapKeepsSaid : Prop := heapKeepsRow.holds Try.pinned (OpenSpec.ofChange heapKeepsSpec)

/-- ITS FALSE NEIGHBOUR: 'it returns false'. Refute it at one input. -/
def heapKeepsWrong : ChangeSpec := { name := "heapKeeps", fn := fun _ => fun
  | [d1, d2] => { results := [.lit (.bool false)], args := [d1, d2] }
  | _ => none }
def HeapKeepsWrongFalsely : Prop := heapKeepsRow.holds Try.pinned (OpenSpec.ofChange heapKeepsWrong)

/-- 'vitolalaw02.HeapHours': WHATEVER THE INPUT: true; the input reads as it did. -/
def heapHoursSpec : ChangeSpec := { name := "heapHours", fn := fun _ => fun
  | [d1, d2] => { results := [.lit (.bool true)], args := [d1, d2] }
  | _ => none }
def heapHoursRow : OpenClaim := { program := "ytfdeihnkoaihfaa", sum := "4474238b94b5cf339164f4c7833f25850dbc7b9e84e32805fd15faa84a1c9aae", func := "vitola/vitolalaw02.HeapHours", spec := "heapHours", unfollowed := true, recurses := true, apart := false }
def HeapHoursSaid : Prop := heapHoursRow.holds Try.pinned (OpenSpec.ofChange heapHoursSpec)

/-- ITS FALSE NEIGHBOUR: 'it returns false'. Refute it at one input. -/
def heapHoursWrong : ChangeSpec := { name := "heapHours", fn := fun _ => fun
  | [d1, d2] => { results := [.lit (.bool false)], args := [d1, d2] }
  | _ => none }
def HeapHoursWrongFalsely : Prop := heapHoursRow.holds Try.pinned (OpenSpec.ofChange heapHoursWrong)

/-- 'vitolalaw02.HeapHall': WHATEVER THE INPUT: true; the input reads as it did. -/
def heapHallSpec : ChangeSpec := { name := "heapHall", fn := fun _ => fun
  | [d1, d2, d3, d4] => { results := [.lit (.bool true)], args := [d1, d2, d3, d4] }
  | _ => none }
def heapHallRow : OpenClaim := { program := "ytfdeihnkoaihfaa", sum := "4474238b94b5cf339164f4c7833f25850dbc7b9e84e32805fd15faa84a1c9aae", func := "vitola/vitolalaw02.HeapHall", spec := "heapHall", unfollowed := true, recurses := true, apart := false }
def HeapHallSaid : Prop := heapHallRow.holds Try.pinned (OpenSpec.ofChange heapHallSpec)

/-- ITS FALSE NEIGHBOUR: 'it returns false'. Refute it at one input. -/
def heapHallWrong : ChangeSpec := { name := "heapHall", fn := fun _ => fun
  | [d1, d2, d3, d4] => { results := [.lit (.bool false)], args := [d1, d2, d3, d4] }
  | _ => none }
def HeapHallWrongFalsely : Prop := heapHallRow.holds Try.pinned (OpenSpec.ofChange heapHallWrong)

/-- 'vitolalaw02.HeapVerified': WHATEVER THE INPUT: true; the input reads as it did. -/
def heapVerifiedSpec : ChangeSpec := { name := "heapVerified", fn := fun _ => fun
  | [d1, d2, d3, d4, d5] => { results := [.lit (.bool true)], args := [d1, d2, d3, d4, d5] }
  | _ => none }
def heapVerifiedRow : OpenClaim := { program := "ytfdeihnkoaihfaa", sum := "4474238b94b5cf339164f4c7833f25850dbc7b9e84e32805fd15faa84a1c9aae", func := "vitola/vitolalaw02.HeapVerified", spec := "heapVerified", unfollowed := true, recurses := true, apart := false }
def HeapVerifiedSaid : Prop := heapVerifiedRow.holds Try.pinned (OpenSpec.ofChange heapVerifiedSpec)

/-- ITS FALSE NEIGHBOUR: 'it returns false'. Refute it at one input. -/
def heapVerifiedWrong : ChangeSpec := { name := "heapVerified", fn := fun _ => fun
  | [d1, d2, d3, d4, d5] => { results := [.lit (.bool false)], args := [d1, d2, d3, d4, d5] }
  | _ => none }
def HeapVerifiedWrongFalsely : Prop := heapVerifiedRow.holds Try.pinned (OpenSpec.ofChange heapVerifiedWrong)

/-- 'vitolalaw02.HeapKnown': WHATEVER THE INPUT: true; the input reads as it did. -/
def heapKnownSpec : ChangeSpec := { name := "heapKnown", fn := fun _ => fun
  | [] => { results := [.lit (.bool true)], args := [] }
  | _ => none }
def heapKnownRow : OpenClaim := { program := "ytfdeihnkoaihfaa", sum := "4474238b94b5cf339164f4c7833f25850dbc7b9e84e32805fd15faa84a1c9aae", func := "vitola/vitolalaw02.HeapKnown", spec := "heapKnown", unfollowed := true, recurses := true, apart := false }
def HeapKnownSaid : Prop := heapKnownRow.holds Try.pinned (OpenSpec.ofChange heapKnownSpec)

/-- ITS FALSE NEIGHBOUR: 'it returns false'. Refute it at one input. -/
def heapKnownWrong : ChangeSpec := { name := "heapKnown", fn := fun _ => fun
  | [] => { results := [.lit (.bool false)], args := [] }
  | _ => none }
def HeapKnownWrongFalsely : Prop := heapKnownRow.holds Try.pinned (OpenSpec.ofChange heapKnownWrong)

/-- 'vitolalaw02.HeapMoved': WHATEVER THE INPUT: true; the input reads as it did. -/
def heapMovedSpec : ChangeSpec := { name := "heapMoved", fn := fun _ => fun
  | [d1, d2, d3, d4, d5] => { results := [.lit (.bool true)], args := [d1, d2, d3, d4, d5] }
  | _ => none }
def heapMovedRow : OpenClaim := { program := "ytfdeihnkoaihfaa", sum := "4474238b94b5cf339164f4c7833f25850dbc7b9e84e32805fd15faa84a1c9aae", func := "vitola/vitolalaw02.HeapMoved", spec := "heapMoved", unfollowed := true, recurses := true, apart := false }
def HeapMovedSaid : Prop := heapMovedRow.holds Try.pinned (OpenSpec.ofChange heapMovedSpec)

/-- ITS FALSE NEIGHBOUR: 'it returns false'. Refute it at one input. -/
def heapMovedWrong : ChangeSpec := { name := "heapMoved", fn := fun _ => fun
  | [d1, d2, d3, d4, d5] => { results := [.lit (.bool false)], args := [d1, d2, d3, d4, d5] }
  | _ => none }
def HeapMovedWrongFalsely : Prop := heapMovedRow.holds Try.pinned (OpenSpec.ofChange heapMovedWrong)

/-- 'vitolalaw02.HeapEnds': WHATEVER THE INPUT: true; the input reads as it did. -/
def heapEndsSpec : ChangeSpec := { name := "heapEnds", fn := fun _ => fun
  | [d1, d2, d3] => { results := [.lit (.bool true)], args := [d1, d2, d3] }
  | _ => none }
def heapEndsRow : OpenClaim := { program := "ytfdeihnkoaihfaa", sum := "4474238b94b5cf339164f4c7833f25850dbc7b9e84e32805fd15faa84a1c9aae", func := "vitola/vitolalaw02.HeapEnds", spec := "heapEnds", unfollowed := true, recurses := true, apart := false }
def HeapEndsSaid : Prop := heapEndsRow.holds Try.pinned (OpenSpec.ofChange heapEndsSpec)

/-- ITS FALSE NEIGHBOUR: 'it returns false'. Refute it at one input. -/
def heapEndsWrong : ChangeSpec := { name := "heapEnds", fn := fun _ => fun
  | [d1, d2, d3] => { results := [.lit (.bool false)], args := [d1, d2, d3] }
  | _ => none }
def HeapEndsWrongFalsely : Prop := heapEndsRow.holds Try.pinned (OpenSpec.ofChange heapEndsWrong)

/-- 'vitolalaw02.HeapMore': WHATEVER THE INPUT: true; the input reads as it did. -/
def heapMoreSpec : ChangeSpec := { name := "heapMore", fn := fun _ => fun
  | [d1, d2, d3, d4] => { results := [.lit (.bool true)], args := [d1, d2, d3, d4] }
  | _ => none }
def heapMoreRow : OpenClaim := { program := "ytfdeihnkoaihfaa", sum := "4474238b94b5cf339164f4c7833f25850dbc7b9e84e32805fd15faa84a1c9aae", func := "vitola/vitolalaw02.HeapMore", spec := "heapMore", unfollowed := true, recurses := true, apart := false }
def HeapMoreSaid : Prop := heapMoreRow.holds Try.pinned (OpenSpec.ofChange heapMoreSpec)

/-- ITS FALSE NEIGHBOUR: 'it returns false'. Refute it at one input. -/
def heapMoreWrong : ChangeSpec := { name := "heapMore", fn := fun _ => fun
  | [d1, d2, d3, d4] => { results := [.lit (.bool false)], args := [d1, d2, d3, d4] }
  | _ => none }
def HeapMoreWrongFalsely : Prop := heapMoreRow.holds Try.pinned (OpenSpec.ofChange heapMoreWrong)

/-- 'vitolalaw02.HeapKept': WHATEVER THE INPUT: true; the input reads as it did. -/
def heapKeptSpec : ChangeSpec := { name := "heapKept", fn := fun _ => fun
  | [d1, d2, d3] => { results := [.lit (.bool true)], args := [d1, d2, d3] }
  | _ => none }
def heapKeptRow : OpenClaim := { program := "ytfdeihnkoaihfaa", sum := "4474238b94b5cf339164f4c7833f25850dbc7b9e84e32805fd15faa84a1c9aae", func := "vitola/vitolalaw02.HeapKept", spec := "heapKept", unfollowed := true, recurses := true, apart := false }
def HeapKeptSaid : Prop := heapKeptRow.holds Try.pinned (OpenSpec.ofChange heapKeptSpec)

/-- ITS FALSE NEIGHBOUR: 'it returns false'. Refute it at one input. -/
def heapKeptWrong : ChangeSpec := { name := "heapKept", fn := fun _ => fun
  | [d1, d2, d3] => { results := [.lit (.bool false)], args := [d1, d2, d3] }
  | _ => none }
def HeapKeptWrongFalsely : Prop := heapKeptRow.holds Try.pinned (OpenSpec.ofChange heapKeptWrong)

/-- 'vitolalaw02.HeapDual': WHATEVER THE INPUT: true; the input reads as it did. -/
def heapDualSpec : ChangeSpec := { name := "heapDual", fn := fun _ => fun
  | [d1, d2] => { results := [.lit (.bool true)], args := [d1, d2] }
  | _ => none }
def heapDualRow : OpenClaim := { program := "ytfdeihnkoaihfaa", sum := "4474238b94b5cf339164f4c7833f25850dbc7b9e84e32805fd15faa84a1c9aae", func := "vitola/vitolalaw02.HeapDual", spec := "heapDual", unfollowed := true, recurses := true, apart := false }
def HeapDualSaid : Prop := heapDualRow.holds Try.pinned (OpenSpec.ofChange heapDualSpec)

/-- ITS FALSE NEIGHBOUR: 'it returns false'. Refute it at one input. -/
def heapDualWrong : ChangeSpec := { name := "heapDual", fn := fun _ => fun
  | [d1, d2] => { results := [.lit (.bool false)], args := [d1, d2] }
  | _ => none }
def HeapDualWrongFalsely : Prop := heapDualRow.holds Try.pinned (OpenSpec.ofChange heapDualWrong)

/- THE SECOND FORM. 'bulk': how many values and letters a reading holds, each counted each time it is reached (what is shared counts as often as it is met; a slice's spare places count too). A statement '..UptoSaid' is the law's where the arguments, and the package variables that the reading takes, are together of bulk at most 1048576: NARROWER than '..Said'. Prove '..Said' where nothing that the law and all that it calls make is longer than what came in: it says more and counts as full. Else prove '..UptoSaid'. A law counts once. -/
mutual
def uptoBulk {H : Type} : DataW H → Nat
  | .lit (.string bytes) => bytes.length + 1
  | .lit _ => 1
  | .nil => 1
  | .ptr d => uptoBulk d + 1
  | .slice elems spare => uptoBulkAll elems + uptoBulkAll spare + 1
  | .agg parts => uptoBulkAll parts + 1
  | .iface _ d => uptoBulk d + 1
  | .map entries => uptoBulkEntries entries + 1
  | .held _ => 1
def uptoBulkAll {H : Type} : List (DataW H) → Nat
  | [] => 0
  | d :: r => uptoBulk d + uptoBulkAll r
def uptoBulkEntries {H : Type} : List (Lit × DataW H) → Nat
  | [] => 0
  | x :: r => uptoBulkEntry x + uptoBulkEntries r
def uptoBulkEntry {H : Type} : Lit × DataW H → Nat
  | (.string bytes, d) => bytes.length + uptoBulk d + 1
  | (_, d) => uptoBulk d + 1
 end
def uptoSmall : (H : Type) → List (DataW H) → Bool := fun _ ds => decide (uptoBulkAll ds ≤ 1048576)
def OpenSpec.upto (s : _root_.Go.ChangeSpec) : _root_.Go.OpenSpec := { _root_.Go.OpenSpec.ofChange s with cond := some uptoSmall }

/-- 'vitolalaw02.HeapPlans', WHERE WHAT IT READS IS OF BULK AT MOST 1048576: true; the input reads as it did. -/
def heapPlansUptoRow : OpenClaim := { program := "ytfdeihnkoaihfaa", sum := "4474238b94b5cf339164f4c7833f25850dbc7b9e84e32805fd15faa84a1c9aae", func := "vitola/vitolalaw02.HeapPlans", spec := "heapPlans", unfollowed := true, recurses := true, apart := false, narrowed := true }
def HeapPlansUptoSaid : Prop := heapPlansUptoRow.holds Try.pinned (OpenSpec.upto heapPlansSpec)

/-- 'vitolalaw02.HeapWhys', WHERE WHAT IT READS IS OF BULK AT MOST 1048576: true; the input reads as it did. -/
def heapWhysUptoRow : OpenClaim := { program := "ytfdeihnkoaihfaa", sum := "4474238b94b5cf339164f4c7833f25850dbc7b9e84e32805fd15faa84a1c9aae", func := "vitola/vitolalaw02.HeapWhys", spec := "heapWhys", unfollowed := true, recurses := true, apart := false, narrowed := true }
def HeapWhysUptoSaid : Prop := heapWhysUptoRow.holds Try.pinned (OpenSpec.upto heapWhysSpec)

/-- 'vitolalaw02.HeapKeeps', WHERE WHAT IT READS IS OF BULK AT MOST 1048576: true; the input reads as it did. -/
def heapKeepsUptoRow : OpenClaim := { program := "ytfdeihnkoaihfaa", sum := "4474238b94b5cf339164f4c7833f25850dbc7b9e84e32805fd15faa84a1c9aae", func := "vitola/vitolalaw02.HeapKeeps", spec := "heapKeeps", unfollowed := true, recurses := true, apart := false, narrowed := true }
def HeapKeepsUptoSaid : Prop := heapKeepsUptoRow.holds Try.pinned (OpenSpec.upto heapKeepsSpec)

/-- 'vitolalaw02.HeapHours', WHERE WHAT IT READS IS OF BULK AT MOST 1048576: true; the input reads as it did. -/
def heapHoursUptoRow : OpenClaim := { program := "ytfdeihnkoaihfaa", sum := "4474238b94b5cf339164f4c7833f25850dbc7b9e84e32805fd15faa84a1c9aae", func := "vitola/vitolalaw02.HeapHours", spec := "heapHours", unfollowed := true, recurses := true, apart := false, narrowed := true }
def HeapHoursUptoSaid : Prop := heapHoursUptoRow.holds Try.pinned (OpenSpec.upto heapHoursSpec)

/-- 'vitolalaw02.HeapHall', WHERE WHAT IT READS IS OF BULK AT MOST 1048576: true; the input reads as it did. -/
def heapHallUptoRow : OpenClaim := { program := "ytfdeihnkoaihfaa", sum := "4474238b94b5cf339164f4c7833f25850dbc7b9e84e32805fd15faa84a1c9aae", func := "vitola/vitolalaw02.HeapHall", spec := "heapHall", unfollowed := true, recurses := true, apart := false, narrowed := true }
def HeapHallUptoSaid : Prop := heapHallUptoRow.holds Try.pinned (OpenSpec.upto heapHallSpec)

/-- 'vitolalaw02.HeapVerified', WHERE WHAT IT READS IS OF BULK AT MOST 1048576: true; the input reads as it did. -/
def heapVerifiedUptoRow : OpenClaim := { program := "ytfdeihnkoaihfaa", sum := "4474238b94b5cf339164f4c7833f25850dbc7b9e84e32805fd15faa84a1c9aae", func := "vitola/vitolalaw02.HeapVerified", spec := "heapVerified", unfollowed := true, recurses := true, apart := false, narrowed := true }
def HeapVerifiedUptoSaid : Prop := heapVerifiedUptoRow.holds Try.pinned (OpenSpec.upto heapVerifiedSpec)

/-- 'vitolalaw02.HeapKnown', WHERE WHAT IT READS IS OF BULK AT MOST 1048576: true; the input reads as it did. -/
def heapKnownUptoRow : OpenClaim := { program := "ytfdeihnkoaihfaa", sum := "4474238b94b5cf339164f4c7833f25850dbc7b9e84e32805fd15faa84a1c9aae", func := "vitola/vitolalaw02.HeapKnown", spec := "heapKnown", unfollowed := true, recurses := true, apart := false, narrowed := true }
def HeapKnownUptoSaid : Prop := heapKnownUptoRow.holds Try.pinned (OpenSpec.upto heapKnownSpec)

/-- 'vitolalaw02.HeapMoved', WHERE WHAT IT READS IS OF BULK AT MOST 1048576: true; the input reads as it did. -/
def heapMovedUptoRow : OpenClaim := { program := "ytfdeihnkoaihfaa", sum := "4474238b94b5cf339164f4c7833f25850dbc7b9e84e32805fd15faa84a1c9aae", func := "vitola/vitolalaw02.HeapMoved", spec := "heapMoved", unfollowed := true, recurses := true, apart := false, narrowed := true }
def HeapMovedUptoSaid : Prop := heapMovedUptoRow.holds Try.pinned (OpenSpec.upto heapMovedSpec)

/-- 'vitolalaw02.HeapEnds', WHERE WHAT IT READS IS OF BULK AT MOST 1048576: true; the input reads as it did. -/
def heapEndsUptoRow : OpenClaim := { program := "ytfdeihnkoaihfaa", sum := "4474238b94b5cf339164f4c7833f25850dbc7b9e84e32805fd15faa84a1c9aae", func := "vitola/vitolalaw02.HeapEnds", spec := "heapEnds", unfollowed := true, recurses := true, apart := false, narrowed := true }
def HeapEndsUptoSaid : Prop := heapEndsUptoRow.holds Try.pinned (OpenSpec.upto heapEndsSpec)

/-- 'vitolalaw02.HeapMore', WHERE WHAT IT READS IS OF BULK AT MOST 1048576: true; the input reads as it did. -/
def heapMoreUptoRow : OpenClaim := { program := "ytfdeihnkoaihfaa", sum := "4474238b94b5cf339164f4c7833f25850dbc7b9e84e32805fd15faa84a1c9aae", func := "vitola/vitolalaw02.HeapMore", spec := "heapMore", unfollowed := true, recurses := true, apart := false, narrowed := true }
def HeapMoreUptoSaid : Prop := heapMoreUptoRow.holds Try.pinned (OpenSpec.upto heapMoreSpec)

/-- 'vitolalaw02.HeapKept', WHERE WHAT IT READS IS OF BULK AT MOST 1048576: true; the input reads as it did. -/
def heapKeptUptoRow : OpenClaim := { program := "ytfdeihnkoaihfaa", sum := "4474238b94b5cf339164f4c7833f25850dbc7b9e84e32805fd15faa84a1c9aae", func := "vitola/vitolalaw02.HeapKept", spec := "heapKept", unfollowed := true, recurses := true, apart := false, narrowed := true }
def HeapKeptUptoSaid : Prop := heapKeptUptoRow.holds Try.pinned (OpenSpec.upto heapKeptSpec)

/-- 'vitolalaw02.HeapDual', WHERE WHAT IT READS IS OF BULK AT MOST 1048576: true; the input reads as it did. -/
def heapDualUptoRow : OpenClaim := { program := "ytfdeihnkoaihfaa", sum := "4474238b94b5cf339164f4c7833f25850dbc7b9e84e32805fd15faa84a1c9aae", func := "vitola/vitolalaw02.HeapDual", spec := "heapDual", unfollowed := true, recurses := true, apart := false, narrowed := true }
def HeapDualUptoSaid : Prop := heapDualUptoRow.holds Try.pinned (OpenSpec.upto heapDualSpec)

end Rows
end Go.Proofs.Ytfdeihnkoaihfaa
