/-
  DERIVED. GIVEN WITH THE SEED: THE CARDS: each row of YtcpagojealaigaaGreatDoorRows.lean that lists a variable, with what it lists TIED to the program's text (the seventh form; the later family's looks); each row that meets fmt, with fmt's text TOLD by the authors' own Lean function (tested against real Go, not proved from fmt's source: count such statements apart). THE CARD IS WHAT COUNTS. Prove the row's statement (the work); the ties are given (YtcpagojealaigaaGreatDoorTie.lean); close each card by the builder's one call (the guide's Derived/Test/ToyasCard.lean, 'card_holds'). Laid BY PROGRAM, IN A SANDBOX (cutbox-door.mjs). By AI agents, Wed Nov 11 2026. No macro, syntax, notation, axiom, sorry.
-/
import Derived.Test.YtcpagojealaigaaGreatDoorRows
import GoSem.ClaimSeven
namespace Go.Proofs.YtcpagojealaigaaGreatDoor
namespace Rows

/-- THE TIED CARD OF 'vitolatop.TopFirstPart'. -/
def topFirstPartCard : Claim7 := { stood := { row := topFirstPartRow, standIns := [], harness := (true, "89e0deb77100a05c20bdbda736767d396fc5228b8ced2f1e7d0ce38b61bcbbcb"), looks := true }, kinds := [], alts := [], laidByText := true, laidKinds := [.data, .data, .data], laidTests := true, laidLooks := .later }
def TopFirstPartCardSaid : Prop := Claim7.holds Tryz.pinned (.plain (OpenSpec.ofChange topFirstPartSpec)) topFirstPartCard

/-- THE TIED CARD OF 'vitolatop.TopChance'. -/
def topChanceCard : Claim7 := { stood := { row := topChanceRow, standIns := [], harness := (true, "89e0deb77100a05c20bdbda736767d396fc5228b8ced2f1e7d0ce38b61bcbbcb"), looks := true }, kinds := [], alts := [], laidByText := true, laidKinds := [.data, .data, .data], laidTests := true, laidLooks := .later }
def TopChanceCardSaid : Prop := Claim7.holds Tryz.pinned (.plain (OpenSpec.ofChange topChanceSpec)) topChanceCard

/-- THE SECOND FORM's CARD OF 'vitolatop.TopFirstPart'. -/
def topFirstPartUptoCard : Claim7 := { stood := { row := topFirstPartUptoRow, standIns := [], harness := (true, "89e0deb77100a05c20bdbda736767d396fc5228b8ced2f1e7d0ce38b61bcbbcb"), looks := true }, kinds := [], alts := [], laidByText := true, laidKinds := [.data, .data, .data], laidTests := true, laidLooks := .later }
def TopFirstPartUptoCardSaid : Prop := Claim7.holds Tryz.pinned (.plain (OpenSpec.upto topFirstPartSpec)) topFirstPartUptoCard

/-- THE SECOND FORM's CARD OF 'vitolatop.TopChance'. -/
def topChanceUptoCard : Claim7 := { stood := { row := topChanceUptoRow, standIns := [], harness := (true, "89e0deb77100a05c20bdbda736767d396fc5228b8ced2f1e7d0ce38b61bcbbcb"), looks := true }, kinds := [], alts := [], laidByText := true, laidKinds := [.data, .data, .data], laidTests := true, laidLooks := .later }
def TopChanceUptoCardSaid : Prop := Claim7.holds Tryz.pinned (.plain (OpenSpec.upto topChanceSpec)) topChanceUptoCard
end Rows
end Go.Proofs.YtcpagojealaigaaGreatDoor
