/-
  DERIVED. GIVEN WITH THE SEED: THE CARDS: each row of YtlfobnldaneccaaGreatDoorRows.lean that lists a variable, with what it lists TIED to the program's text (the seventh form; the later family's looks); each row that meets fmt, with fmt's text TOLD by the authors' own Lean function (tested against real Go, not proved from fmt's source: count such statements apart). THE CARD IS WHAT COUNTS. Prove the row's statement (the work); the ties are given (YtlfobnldaneccaaGreatDoorTie.lean); close each card by the builder's one call (the guide's Derived/Test/ToyasCard.lean, 'card_holds'). Laid BY PROGRAM, IN A SANDBOX (cutbox-door.mjs). By AI agents, Wed Nov 11 2026. No macro, syntax, notation, axiom, sorry.
-/
import Derived.Test.YtlfobnldaneccaaGreatDoorRows
import GoSem.ClaimSeven
namespace Go.Proofs.YtlfobnldaneccaaGreatDoor
namespace Rows

/-- THE TIED CARD OF 'vitolatop.TopRow'. -/
def topRowCard : Claim7 := { stood := { row := topRowRow, standIns := [], harness := (true, "6363de7efb1644d4c914002a581ea548114368bd0fd1c0b303b1e3725c398112"), looks := true }, kinds := [], alts := [], laidByText := true, laidKinds := [.data, .data], laidTests := true, laidLooks := .later }
def TopRowCardSaid : Prop := Claim7.holds Tryz.pinned (.plain (OpenSpec.ofChange topRowSpec)) topRowCard

/-- THE TIED CARD OF 'vitolatop.TopSeparable'. -/
def topSeparableCard : Claim7 := { stood := { row := topSeparableRow, standIns := [], harness := (true, "6363de7efb1644d4c914002a581ea548114368bd0fd1c0b303b1e3725c398112"), looks := true }, kinds := [], alts := [], laidByText := true, laidKinds := [.data, .data], laidTests := true, laidLooks := .later }
def TopSeparableCardSaid : Prop := Claim7.holds Tryz.pinned (.plain (OpenSpec.ofChange topSeparableSpec)) topSeparableCard

/-- THE TIED CARD OF 'vitolatop.TopBlocked'. -/
def topBlockedCard : Claim7 := { stood := { row := topBlockedRow, standIns := [], harness := (true, "6363de7efb1644d4c914002a581ea548114368bd0fd1c0b303b1e3725c398112"), looks := true }, kinds := [], alts := [], laidByText := true, laidKinds := [.data, .data], laidTests := true, laidLooks := .later }
def TopBlockedCardSaid : Prop := Claim7.holds Tryz.pinned (.plain (OpenSpec.ofChange topBlockedSpec)) topBlockedCard

/-- THE SECOND FORM's CARD OF 'vitolatop.TopRow'. -/
def topRowUptoCard : Claim7 := { stood := { row := topRowUptoRow, standIns := [], harness := (true, "6363de7efb1644d4c914002a581ea548114368bd0fd1c0b303b1e3725c398112"), looks := true }, kinds := [], alts := [], laidByText := true, laidKinds := [.data, .data], laidTests := true, laidLooks := .later }
def TopRowUptoCardSaid : Prop := Claim7.holds Tryz.pinned (.plain (OpenSpec.upto topRowSpec)) topRowUptoCard

/-- THE SECOND FORM's CARD OF 'vitolatop.TopSeparable'. -/
def topSeparableUptoCard : Claim7 := { stood := { row := topSeparableUptoRow, standIns := [], harness := (true, "6363de7efb1644d4c914002a581ea548114368bd0fd1c0b303b1e3725c398112"), looks := true }, kinds := [], alts := [], laidByText := true, laidKinds := [.data, .data], laidTests := true, laidLooks := .later }
def TopSeparableUptoCardSaid : Prop := Claim7.holds Tryz.pinned (.plain (OpenSpec.upto topSeparableSpec)) topSeparableUptoCard

/-- THE SECOND FORM's CARD OF 'vitolatop.TopBlocked'. -/
def topBlockedUptoCard : Claim7 := { stood := { row := topBlockedUptoRow, standIns := [], harness := (true, "6363de7efb1644d4c914002a581ea548114368bd0fd1c0b303b1e3725c398112"), looks := true }, kinds := [], alts := [], laidByText := true, laidKinds := [.data, .data], laidTests := true, laidLooks := .later }
def TopBlockedUptoCardSaid : Prop := Claim7.holds Tryz.pinned (.plain (OpenSpec.upto topBlockedSpec)) topBlockedUptoCard
end Rows
end Go.Proofs.YtlfobnldaneccaaGreatDoor
