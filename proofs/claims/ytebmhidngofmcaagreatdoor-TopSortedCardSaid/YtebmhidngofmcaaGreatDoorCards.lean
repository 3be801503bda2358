/-
  DERIVED. GIVEN WITH THE SEED: THE CARDS: each row of YtebmhidngofmcaaGreatDoorRows.lean that lists a variable, with what it lists TIED to the program's text (the seventh form; the later family's looks); each row that meets fmt, with fmt's text TOLD by the authors' own Lean function (tested against real Go, not proved from fmt's source: count such statements apart). THE CARD IS WHAT COUNTS. Prove the row's statement (the work); the ties are given (YtebmhidngofmcaaGreatDoorTie.lean); close each card by the builder's one call (the guide's Derived/Test/ToyasCard.lean, 'card_holds'). Laid BY PROGRAM, IN A SANDBOX (cutbox-door.mjs). By AI agents, Wed Nov 11 2026. No macro, syntax, notation, axiom, sorry.
-/
import Derived.Test.YtebmhidngofmcaaGreatDoorRows
import GoSem.ClaimSeven
namespace Go.Proofs.YtebmhidngofmcaaGreatDoor
namespace Rows

/-- THE TIED CARD OF 'vitolatop.TopSorted'. -/
def topSortedCard : Claim7 := { stood := { row := topSortedRow, standIns := [], harness := (true, "6c4fc679b8a3eb7d834645cde1c3339ab5d2e8fe25f0306349c47fcc7f1f21e7"), looks := true }, kinds := [], alts := [], laidByText := true, laidKinds := [.data, .data], laidTests := true, laidLooks := .later }
def TopSortedCardSaid : Prop := Claim7.holds Tryz.pinned (.plain (OpenSpec.ofChange topSortedSpec)) topSortedCard

/-- THE SECOND FORM's CARD OF 'vitolatop.TopSorted'. -/
def topSortedUptoCard : Claim7 := { stood := { row := topSortedUptoRow, standIns := [], harness := (true, "6c4fc679b8a3eb7d834645cde1c3339ab5d2e8fe25f0306349c47fcc7f1f21e7"), looks := true }, kinds := [], alts := [], laidByText := true, laidKinds := [.data, .data], laidTests := true, laidLooks := .later }
def TopSortedUptoCardSaid : Prop := Claim7.holds Tryz.pinned (.plain (OpenSpec.upto topSortedSpec)) topSortedUptoCard
end Rows
end Go.Proofs.YtebmhidngofmcaaGreatDoor
