/-
  DERIVED. GIVEN WITH THE SEED: THE CARDS: each row of YtfgggididakkbaaGreatDoorRows.lean that lists a variable, with what it lists TIED to the program's text (the seventh form; the later family's looks); each row that meets fmt, with fmt's text TOLD by the authors' own Lean function (tested against real Go, not proved from fmt's source: count such statements apart). THE CARD IS WHAT COUNTS. Prove the row's statement (the work); the ties are given (YtfgggididakkbaaGreatDoorTie.lean); close each card by the builder's one call (the guide's Derived/Test/ToyasCard.lean, 'card_holds'). Laid BY PROGRAM, IN A SANDBOX (cutbox-door.mjs). By AI agents, Wed Nov 11 2026. No macro, syntax, notation, axiom, sorry.
-/
import Derived.Test.YtfgggididakkbaaGreatDoorRows
import GoSem.ClaimSeven
namespace Go.Proofs.YtfgggididakkbaaGreatDoor
namespace Rows

/-- THE TIED CARD OF 'vitolatop.TopPaired'. -/
def topPairedCard : Claim7 := { stood := { row := topPairedRow, standIns := [], harness := (true, "347cf79cd437ebeb979752a72c07bd4bc0632f2e1a9296de045b1a6bc426f405"), looks := true }, kinds := [], alts := [], laidByText := true, laidKinds := [.data, .data], laidTests := true, laidLooks := .later }
def TopPairedCardSaid : Prop := Claim7.holds Tryz.pinned (.plain (OpenSpec.ofChange topPairedSpec)) topPairedCard

/-- THE SECOND FORM's CARD OF 'vitolatop.TopPaired'. -/
def topPairedUptoCard : Claim7 := { stood := { row := topPairedUptoRow, standIns := [], harness := (true, "347cf79cd437ebeb979752a72c07bd4bc0632f2e1a9296de045b1a6bc426f405"), looks := true }, kinds := [], alts := [], laidByText := true, laidKinds := [.data, .data], laidTests := true, laidLooks := .later }
def TopPairedUptoCardSaid : Prop := Claim7.holds Tryz.pinned (.plain (OpenSpec.upto topPairedSpec)) topPairedUptoCard
end Rows
end Go.Proofs.YtfgggididakkbaaGreatDoor
