/-
  DERIVED. GIVEN WITH THE SEED: THE CARDS: each row of YtglkjlafglpalaaGreatDoorRows.lean that lists a variable, with what it lists TIED to the program's text (the seventh form; the later family's looks); each row that meets fmt, with fmt's text TOLD by the authors' own Lean function (tested against real Go, not proved from fmt's source: count such statements apart). THE CARD IS WHAT COUNTS. Prove the row's statement (the work); the ties are given (YtglkjlafglpalaaGreatDoorTie.lean); close each card by the builder's one call (the guide's Derived/Test/ToyasCard.lean, 'card_holds'). Laid BY PROGRAM, IN A SANDBOX (cutbox-door.mjs). By AI agents, Wed Nov 11 2026. No macro, syntax, notation, axiom, sorry.
-/
import Derived.Test.YtglkjlafglpalaaGreatDoorRows
import GoSem.ClaimSeven
namespace Go.Proofs.YtglkjlafglpalaaGreatDoor
namespace Rows

/-- THE TIED CARD OF 'vitolalaw14.MasterTells'. -/
def masterTellsCard : Claim7 := { stood := { row := masterTellsRow, standIns := [], harness := (true, "6a96520f00ccec0c0da864d2e3ccf6c0f518e9816c9c657ca66fa660b3cc5131"), looks := true }, kinds := [], alts := [], laidByText := true, laidKinds := [.data, .data, .data, .data, .sentinel, .sentinel, .pinned], laidTests := true, laidLooks := .later }
def MasterTellsCardSaid : Prop := Claim7.holds Tryz.pinned (.plain (OpenSpec.ofChange masterTellsSpec)) masterTellsCard

/-- THE TIED CARD OF 'vitolalaw14.MasterReads'. -/
def masterReadsCard : Claim7 := { stood := { row := masterReadsRow, standIns := [], harness := (true, "6a96520f00ccec0c0da864d2e3ccf6c0f518e9816c9c657ca66fa660b3cc5131"), looks := true }, kinds := [], alts := [], laidByText := true, laidKinds := [.data, .data, .data, .data, .sentinel, .sentinel, .pinned], laidTests := true, laidLooks := .later }
def MasterReadsCardSaid : Prop := Claim7.holds Tryz.pinned (.plain (OpenSpec.ofChange masterReadsSpec)) masterReadsCard

/-- THE TIED CARD OF 'vitolalaw14.MasterTexts'. -/
def masterTextsCard : Claim7 := { stood := { row := masterTextsRow, standIns := [], harness := (true, "6a96520f00ccec0c0da864d2e3ccf6c0f518e9816c9c657ca66fa660b3cc5131"), looks := true }, kinds := [], alts := [], laidByText := true, laidKinds := [.data, .data, .data, .data, .sentinel, .sentinel, .pinned], laidTests := true, laidLooks := .later }
def MasterTextsCardSaid : Prop := Claim7.holds Tryz.pinned (.plain (OpenSpec.ofChange masterTextsSpec)) masterTextsCard

/-- THE TIED CARD OF 'vitolalaw14.MasterKnown'. -/
def masterKnownCard : Claim7 := { stood := { row := masterKnownRow, standIns := [], harness := (true, "6a96520f00ccec0c0da864d2e3ccf6c0f518e9816c9c657ca66fa660b3cc5131"), looks := true }, kinds := [], alts := [], laidByText := true, laidKinds := [.data, .data, .data, .data, .sentinel, .sentinel, .pinned], laidTests := true, laidLooks := .later }
def MasterKnownCardSaid : Prop := Claim7.holds Tryz.pinned (.plain (OpenSpec.ofChange masterKnownSpec)) masterKnownCard

/-- THE TIED CARD OF 'vitolalaw14.MasterKept'. -/
def masterKeptCard : Claim7 := { stood := { row := masterKeptRow, standIns := [], harness := (true, "6a96520f00ccec0c0da864d2e3ccf6c0f518e9816c9c657ca66fa660b3cc5131"), looks := true }, kinds := [], alts := [], laidByText := true, laidKinds := [.data, .data, .data, .data, .sentinel, .sentinel, .pinned], laidTests := true, laidLooks := .later }
def MasterKeptCardSaid : Prop := Claim7.holds Tryz.pinned (.plain (OpenSpec.ofChange masterKeptSpec)) masterKeptCard

/-- THE TIED CARD OF 'vitolalaw14.MasterLocked'. -/
def masterLockedCard : Claim7 := { stood := { row := masterLockedRow, standIns := [], harness := (true, "6a96520f00ccec0c0da864d2e3ccf6c0f518e9816c9c657ca66fa660b3cc5131"), looks := true }, kinds := [], alts := [], laidByText := true, laidKinds := [.data, .data, .data, .data, .sentinel, .sentinel, .pinned], laidTests := true, laidLooks := .later }
def MasterLockedCardSaid : Prop := Claim7.holds Tryz.pinned (.plain (OpenSpec.ofChange masterLockedSpec)) masterLockedCard

/-- THE TIED CARD OF 'vitolalaw14.MasterUndone'. -/
def masterUndoneCard : Claim7 := { stood := { row := masterUndoneRow, standIns := [], harness := (true, "6a96520f00ccec0c0da864d2e3ccf6c0f518e9816c9c657ca66fa660b3cc5131"), looks := true }, kinds := [], alts := [], laidByText := true, laidKinds := [.data, .data, .data, .data, .sentinel, .sentinel, .pinned], laidTests := true, laidLooks := .later }
def MasterUndoneCardSaid : Prop := Claim7.holds Tryz.pinned (.plain (OpenSpec.ofChange masterUndoneSpec)) masterUndoneCard

/-- THE TIED CARD OF 'vitolalaw14.MasterApart'. -/
def masterApartCard : Claim7 := { stood := { row := masterApartRow, standIns := [], harness := (true, "6a96520f00ccec0c0da864d2e3ccf6c0f518e9816c9c657ca66fa660b3cc5131"), looks := true }, kinds := [], alts := [], laidByText := true, laidKinds := [.data, .data, .data, .data, .sentinel, .sentinel, .pinned], laidTests := true, laidLooks := .later }
def MasterApartCardSaid : Prop := Claim7.holds Tryz.pinned (.plain (OpenSpec.ofChange masterApartSpec)) masterApartCard

/-- THE TIED CARD OF 'vitolalaw14.MasterRead'. -/
def masterReadCard : Claim7 := { stood := { row := masterReadRow, standIns := [], harness := (true, "6a96520f00ccec0c0da864d2e3ccf6c0f518e9816c9c657ca66fa660b3cc5131"), looks := true }, kinds := [], alts := [], laidByText := true, laidKinds := [.data, .data, .data, .data, .sentinel, .sentinel, .pinned], laidTests := true, laidLooks := .later }
def MasterReadCardSaid : Prop := Claim7.holds Tryz.pinned (.plain (OpenSpec.ofChange masterReadSpec)) masterReadCard

/-- THE TIED CARD OF 'vitolalaw14.MasterParked'. -/
def masterParkedCard : Claim7 := { stood := { row := masterParkedRow, standIns := [], harness := (true, "6a96520f00ccec0c0da864d2e3ccf6c0f518e9816c9c657ca66fa660b3cc5131"), looks := true }, kinds := [], alts := [], laidByText := true, laidKinds := [.data, .data, .data, .data, .sentinel, .sentinel, .pinned], laidTests := true, laidLooks := .later }
def MasterParkedCardSaid : Prop := Claim7.holds Tryz.pinned (.plain (OpenSpec.ofChange masterParkedSpec)) masterParkedCard

/-- THE TIED CARD OF 'vitolalaw14.MasterNamed'. -/
def masterNamedCard : Claim7 := { stood := { row := masterNamedRow, standIns := [], harness := (true, "6a96520f00ccec0c0da864d2e3ccf6c0f518e9816c9c657ca66fa660b3cc5131"), looks := true }, kinds := [], alts := [], laidByText := true, laidKinds := [.data, .data, .data, .data, .sentinel, .sentinel, .pinned], laidTests := true, laidLooks := .later }
def MasterNamedCardSaid : Prop := Claim7.holds Tryz.pinned (.plain (OpenSpec.ofChange masterNamedSpec)) masterNamedCard

/-- THE SECOND FORM's CARD OF 'vitolalaw14.MasterTells'. -/
def masterTellsUptoCard : Claim7 := { stood := { row := masterTellsUptoRow, standIns := [], harness := (true, "6a96520f00ccec0c0da864d2e3ccf6c0f518e9816c9c657ca66fa660b3cc5131"), looks := true }, kinds := [], alts := [], laidByText := true, laidKinds := [.data, .data, .data, .data, .sentinel, .sentinel, .pinned], laidTests := true, laidLooks := .later }
def MasterTellsUptoCardSaid : Prop := Claim7.holds Tryz.pinned (.plain (OpenSpec.upto masterTellsSpec)) masterTellsUptoCard

/-- THE SECOND FORM's CARD OF 'vitolalaw14.MasterReads'. -/
def masterReadsUptoCard : Claim7 := { stood := { row := masterReadsUptoRow, standIns := [], harness := (true, "6a96520f00ccec0c0da864d2e3ccf6c0f518e9816c9c657ca66fa660b3cc5131"), looks := true }, kinds := [], alts := [], laidByText := true, laidKinds := [.data, .data, .data, .data, .sentinel, .sentinel, .pinned], laidTests := true, laidLooks := .later }
def MasterReadsUptoCardSaid : Prop := Claim7.holds Tryz.pinned (.plain (OpenSpec.upto masterReadsSpec)) masterReadsUptoCard

/-- THE SECOND FORM's CARD OF 'vitolalaw14.MasterTexts'. -/
def masterTextsUptoCard : Claim7 := { stood := { row := masterTextsUptoRow, standIns := [], harness := (true, "6a96520f00ccec0c0da864d2e3ccf6c0f518e9816c9c657ca66fa660b3cc5131"), looks := true }, kinds := [], alts := [], laidByText := true, laidKinds := [.data, .data, .data, .data, .sentinel, .sentinel, .pinned], laidTests := true, laidLooks := .later }
def MasterTextsUptoCardSaid : Prop := Claim7.holds Tryz.pinned (.plain (OpenSpec.upto masterTextsSpec)) masterTextsUptoCard

/-- THE SECOND FORM's CARD OF 'vitolalaw14.MasterKnown'. -/
def masterKnownUptoCard : Claim7 := { stood := { row := masterKnownUptoRow, standIns := [], harness := (true, "6a96520f00ccec0c0da864d2e3ccf6c0f518e9816c9c657ca66fa660b3cc5131"), looks := true }, kinds := [], alts := [], laidByText := true, laidKinds := [.data, .data, .data, .data, .sentinel, .sentinel, .pinned], laidTests := true, laidLooks := .later }
def MasterKnownUptoCardSaid : Prop := Claim7.holds Tryz.pinned (.plain (OpenSpec.upto masterKnownSpec)) masterKnownUptoCard

/-- THE SECOND FORM's CARD OF 'vitolalaw14.MasterKept'. -/
def masterKeptUptoCard : Claim7 := { stood := { row := masterKeptUptoRow, standIns := [], harness := (true, "6a96520f00ccec0c0da864d2e3ccf6c0f518e9816c9c657ca66fa660b3cc5131"), looks := true }, kinds := [], alts := [], laidByText := true, laidKinds := [.data, .data, .data, .data, .sentinel, .sentinel, .pinned], laidTests := true, laidLooks := .later }
def MasterKeptUptoCardSaid : Prop := Claim7.holds Tryz.pinned (.plain (OpenSpec.upto masterKeptSpec)) masterKeptUptoCard

/-- THE SECOND FORM's CARD OF 'vitolalaw14.MasterLocked'. -/
def masterLockedUptoCard : Claim7 := { stood := { row := masterLockedUptoRow, standIns := [], harness := (true, "6a96520f00ccec0c0da864d2e3ccf6c0f518e9816c9c657ca66fa660b3cc5131"), looks := true }, kinds := [], alts := [], laidByText := true, laidKinds := [.data, .data, .data, .data, .sentinel, .sentinel, .pinned], laidTests := true, laidLooks := .later }
def MasterLockedUptoCardSaid : Prop := Claim7.holds Tryz.pinned (.plain (OpenSpec.upto masterLockedSpec)) masterLockedUptoCard

/-- THE SECOND FORM's CARD OF 'vitolalaw14.MasterUndone'. -/
def masterUndoneUptoCard : Claim7 := { stood := { row := masterUndoneUptoRow, standIns := [], harness := (true, "6a96520f00ccec0c0da864d2e3ccf6c0f518e9816c9c657ca66fa660b3cc5131"), looks := true }, kinds := [], alts := [], laidByText := true, laidKinds := [.data, .data, .data, .data, .sentinel, .sentinel, .pinned], laidTests := true, laidLooks := .later }
def MasterUndoneUptoCardSaid : Prop := Claim7.holds Tryz.pinned (.plain (OpenSpec.upto masterUndoneSpec)) masterUndoneUptoCard

/-- THE SECOND FORM's CARD OF 'vitolalaw14.MasterApart'. -/
def masterApartUptoCard : Claim7 := { stood := { row := masterApartUptoRow, standIns := [], harness := (true, "6a96520f00ccec0c0da864d2e3ccf6c0f518e9816c9c657ca66fa660b3cc5131"), looks := true }, kinds := [], alts := [], laidByText := true, laidKinds := [.data, .data, .data, .data, .sentinel, .sentinel, .pinned], laidTests := true, laidLooks := .later }
def MasterApartUptoCardSaid : Prop := Claim7.holds Tryz.pinned (.plain (OpenSpec.upto masterApartSpec)) masterApartUptoCard

/-- THE SECOND FORM's CARD OF 'vitolalaw14.MasterRead'. -/
def masterReadUptoCard : Claim7 := { stood := { row := masterReadUptoRow, standIns := [], harness := (true, "6a96520f00ccec0c0da864d2e3ccf6c0f518e9816c9c657ca66fa660b3cc5131"), looks := true }, kinds := [], alts := [], laidByText := true, laidKinds := [.data, .data, .data, .data, .sentinel, .sentinel, .pinned], laidTests := true, laidLooks := .later }
def MasterReadUptoCardSaid : Prop := Claim7.holds Tryz.pinned (.plain (OpenSpec.upto masterReadSpec)) masterReadUptoCard

/-- THE SECOND FORM's CARD OF 'vitolalaw14.MasterParked'. -/
def masterParkedUptoCard : Claim7 := { stood := { row := masterParkedUptoRow, standIns := [], harness := (true, "6a96520f00ccec0c0da864d2e3ccf6c0f518e9816c9c657ca66fa660b3cc5131"), looks := true }, kinds := [], alts := [], laidByText := true, laidKinds := [.data, .data, .data, .data, .sentinel, .sentinel, .pinned], laidTests := true, laidLooks := .later }
def MasterParkedUptoCardSaid : Prop := Claim7.holds Tryz.pinned (.plain (OpenSpec.upto masterParkedSpec)) masterParkedUptoCard

/-- THE SECOND FORM's CARD OF 'vitolalaw14.MasterNamed'. -/
def masterNamedUptoCard : Claim7 := { stood := { row := masterNamedUptoRow, standIns := [], harness := (true, "6a96520f00ccec0c0da864d2e3ccf6c0f518e9816c9c657ca66fa660b3cc5131"), looks := true }, kinds := [], alts := [], laidByText := true, laidKinds := [.data, .data, .data, .data, .sentinel, .sentinel, .pinned], laidTests := true, laidLooks := .later }
def MasterNamedUptoCardSaid : Prop := Claim7.holds Tryz.pinned (.plain (OpenSpec.upto masterNamedSpec)) masterNamedUptoCard
end Rows
end Go.Proofs.YtglkjlafglpalaaGreatDoor
