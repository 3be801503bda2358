/-
  DERIVED. GIVEN WITH THE SEED: THE CARDS: each row of YtfimbmhannndaaaDoorRows.lean that lists a variable, with what it lists TIED to the program's text (the seventh form; the later family's looks); each row that meets fmt, with fmt's text TOLD by the authors' own Lean function (tested against real Go, not proved from fmt's source: count such statements apart). THE CARD IS WHAT COUNTS. Prove the row's statement (the work); the ties are given (YtfimbmhannndaaaDoorTie.lean); close each card by the builder's one call (the guide's Derived/Test/ToyasCard.lean, 'card_holds'). Laid BY PROGRAM, IN A SANDBOX (cutbox-door.mjs). By AI agents, Wed Nov 11 2026. No macro, syntax, notation, axiom, sorry.
-/
import Derived.Test.YtfimbmhannndaaaDoorRows
import GoSem.ClaimSeven
namespace Go.Proofs.YtfimbmhannndaaaDoor
namespace Rows

/-- THE TIED CARD OF 'vitolalaw12.ClubCan'. -/
def clubCanCard : Claim7 := { stood := { row := clubCanRow, standIns := [], harness := (true, "0349da0a4099ae9ed5d3071772b8f815e8bbcef49e2c4cf308266972639fa4c4"), looks := true }, kinds := [], alts := [], laidByText := true, laidKinds := [.data, .data], laidTests := true, laidLooks := .later }
def ClubCanCardSaid : Prop := Claim7.holds Tryd.pinned (.plain (OpenSpec.ofChange clubCanSpec)) clubCanCard

/-- THE TIED CARD OF 'vitolalaw12.ClubMakes'. -/
def clubMakesCard : Claim7 := { stood := { row := clubMakesRow, standIns := [], harness := (true, "0349da0a4099ae9ed5d3071772b8f815e8bbcef49e2c4cf308266972639fa4c4"), looks := true }, kinds := [], alts := [], laidByText := true, laidKinds := [.data, .data], laidTests := true, laidLooks := .later }
def ClubMakesCardSaid : Prop := Claim7.holds Tryd.pinned (.plain (OpenSpec.ofChange clubMakesSpec)) clubMakesCard

/-- THE TIED CARD OF 'vitolalaw12.ClubCrosses'. -/
def clubCrossesCard : Claim7 := { stood := { row := clubCrossesRow, standIns := [], harness := (true, "0349da0a4099ae9ed5d3071772b8f815e8bbcef49e2c4cf308266972639fa4c4"), looks := true }, kinds := [], alts := [], laidByText := true, laidKinds := [.data, .data], laidTests := true, laidLooks := .later }
def ClubCrossesCardSaid : Prop := Claim7.holds Tryd.pinned (.plain (OpenSpec.ofChange clubCrossesSpec)) clubCrossesCard

/-- THE TIED CARD OF 'vitolalaw12.ClubGallai'. -/
def clubGallaiCard : Claim7 := { stood := { row := clubGallaiRow, standIns := [], harness := (true, "0349da0a4099ae9ed5d3071772b8f815e8bbcef49e2c4cf308266972639fa4c4"), looks := true }, kinds := [], alts := [], laidByText := true, laidKinds := [.data, .data], laidTests := true, laidLooks := .later }
def ClubGallaiCardSaid : Prop := Claim7.holds Tryd.pinned (.plain (OpenSpec.ofChange clubGallaiSpec)) clubGallaiCard

/-- THE TIED CARD OF 'vitolalaw12.ClubCrossed'. -/
def clubCrossedCard : Claim7 := { stood := { row := clubCrossedRow, standIns := [], harness := (true, "0349da0a4099ae9ed5d3071772b8f815e8bbcef49e2c4cf308266972639fa4c4"), looks := true }, kinds := [], alts := [], laidByText := true, laidKinds := [.data, .data], laidTests := true, laidLooks := .later }
def ClubCrossedCardSaid : Prop := Claim7.holds Tryd.pinned (.plain (OpenSpec.ofChange clubCrossedSpec)) clubCrossedCard

/-- THE TIED CARD OF 'vitolalaw12.ClubGoodman'. -/
def clubGoodmanCard : Claim7 := { stood := { row := clubGoodmanRow, standIns := [], harness := (true, "0349da0a4099ae9ed5d3071772b8f815e8bbcef49e2c4cf308266972639fa4c4"), looks := true }, kinds := [], alts := [], laidByText := true, laidKinds := [.data, .data], laidTests := true, laidLooks := .later }
def ClubGoodmanCardSaid : Prop := Claim7.holds Tryd.pinned (.plain (OpenSpec.ofChange clubGoodmanSpec)) clubGoodmanCard

/-- THE TIED CARD OF 'vitolalaw12.ClubPlans'. -/
def clubPlansCard : Claim7 := { stood := { row := clubPlansRow, standIns := [], harness := (true, "0349da0a4099ae9ed5d3071772b8f815e8bbcef49e2c4cf308266972639fa4c4"), looks := true }, kinds := [], alts := [], laidByText := true, laidKinds := [.data, .data], laidTests := true, laidLooks := .later }
def ClubPlansCardSaid : Prop := Claim7.holds Tryd.pinned (.plain (OpenSpec.ofChange clubPlansSpec)) clubPlansCard

/-- THE TIED CARD OF 'vitolalaw12.ClubKnown'. -/
def clubKnownCard : Claim7 := { stood := { row := clubKnownRow, standIns := [], harness := (true, "0349da0a4099ae9ed5d3071772b8f815e8bbcef49e2c4cf308266972639fa4c4"), looks := true }, kinds := [], alts := [], laidByText := true, laidKinds := [.data, .data], laidTests := true, laidLooks := .later }
def ClubKnownCardSaid : Prop := Claim7.holds Tryd.pinned (.plain (OpenSpec.ofChange clubKnownSpec)) clubKnownCard

/-- THE TIED CARD OF 'vitolalaw12.ClubNamed'. -/
def clubNamedCard : Claim7 := { stood := { row := clubNamedRow, standIns := [], harness := (true, "0349da0a4099ae9ed5d3071772b8f815e8bbcef49e2c4cf308266972639fa4c4"), looks := true }, kinds := [], alts := [], laidByText := true, laidKinds := [.data, .data], laidTests := true, laidLooks := .later }
def ClubNamedCardSaid : Prop := Claim7.holds Tryd.pinned (.plain (OpenSpec.ofChange clubNamedSpec)) clubNamedCard

/-- THE TIED CARD OF 'vitolalaw12.ClubListed'. -/
def clubListedCard : Claim7 := { stood := { row := clubListedRow, standIns := [], harness := (true, "0349da0a4099ae9ed5d3071772b8f815e8bbcef49e2c4cf308266972639fa4c4"), looks := true }, kinds := [], alts := [], laidByText := true, laidKinds := [.data, .data], laidTests := true, laidLooks := .later }
def ClubListedCardSaid : Prop := Claim7.holds Tryd.pinned (.plain (OpenSpec.ofChange clubListedSpec)) clubListedCard

/-- THE TIED CARD OF 'vitolalaw12.ClubHavel'. -/
def clubHavelCard : Claim7 := { stood := { row := clubHavelRow, standIns := [], harness := (true, "0349da0a4099ae9ed5d3071772b8f815e8bbcef49e2c4cf308266972639fa4c4"), looks := true }, kinds := [], alts := [], laidByText := true, laidKinds := [.data, .data], laidTests := true, laidLooks := .later }
def ClubHavelCardSaid : Prop := Claim7.holds Tryd.pinned (.plain (OpenSpec.ofChange clubHavelSpec)) clubHavelCard

/-- THE SECOND FORM's CARD OF 'vitolalaw12.ClubCan'. -/
def clubCanUptoCard : Claim7 := { stood := { row := clubCanUptoRow, standIns := [], harness := (true, "0349da0a4099ae9ed5d3071772b8f815e8bbcef49e2c4cf308266972639fa4c4"), looks := true }, kinds := [], alts := [], laidByText := true, laidKinds := [.data, .data], laidTests := true, laidLooks := .later }
def ClubCanUptoCardSaid : Prop := Claim7.holds Tryd.pinned (.plain (OpenSpec.upto clubCanSpec)) clubCanUptoCard

/-- THE SECOND FORM's CARD OF 'vitolalaw12.ClubMakes'. -/
def clubMakesUptoCard : Claim7 := { stood := { row := clubMakesUptoRow, standIns := [], harness := (true, "0349da0a4099ae9ed5d3071772b8f815e8bbcef49e2c4cf308266972639fa4c4"), looks := true }, kinds := [], alts := [], laidByText := true, laidKinds := [.data, .data], laidTests := true, laidLooks := .later }
def ClubMakesUptoCardSaid : Prop := Claim7.holds Tryd.pinned (.plain (OpenSpec.upto clubMakesSpec)) clubMakesUptoCard

/-- THE SECOND FORM's CARD OF 'vitolalaw12.ClubCrosses'. -/
def clubCrossesUptoCard : Claim7 := { stood := { row := clubCrossesUptoRow, standIns := [], harness := (true, "0349da0a4099ae9ed5d3071772b8f815e8bbcef49e2c4cf308266972639fa4c4"), looks := true }, kinds := [], alts := [], laidByText := true, laidKinds := [.data, .data], laidTests := true, laidLooks := .later }
def ClubCrossesUptoCardSaid : Prop := Claim7.holds Tryd.pinned (.plain (OpenSpec.upto clubCrossesSpec)) clubCrossesUptoCard

/-- THE SECOND FORM's CARD OF 'vitolalaw12.ClubGallai'. -/
def clubGallaiUptoCard : Claim7 := { stood := { row := clubGallaiUptoRow, standIns := [], harness := (true, "0349da0a4099ae9ed5d3071772b8f815e8bbcef49e2c4cf308266972639fa4c4"), looks := true }, kinds := [], alts := [], laidByText := true, laidKinds := [.data, .data], laidTests := true, laidLooks := .later }
def ClubGallaiUptoCardSaid : Prop := Claim7.holds Tryd.pinned (.plain (OpenSpec.upto clubGallaiSpec)) clubGallaiUptoCard

/-- THE SECOND FORM's CARD OF 'vitolalaw12.ClubCrossed'. -/
def clubCrossedUptoCard : Claim7 := { stood := { row := clubCrossedUptoRow, standIns := [], harness := (true, "0349da0a4099ae9ed5d3071772b8f815e8bbcef49e2c4cf308266972639fa4c4"), looks := true }, kinds := [], alts := [], laidByText := true, laidKinds := [.data, .data], laidTests := true, laidLooks := .later }
def ClubCrossedUptoCardSaid : Prop := Claim7.holds Tryd.pinned (.plain (OpenSpec.upto clubCrossedSpec)) clubCrossedUptoCard

/-- THE SECOND FORM's CARD OF 'vitolalaw12.ClubGoodman'. -/
def clubGoodmanUptoCard : Claim7 := { stood := { row := clubGoodmanUptoRow, standIns := [], harness := (true, "0349da0a4099ae9ed5d3071772b8f815e8bbcef49e2c4cf308266972639fa4c4"), looks := true }, kinds := [], alts := [], laidByText := true, laidKinds := [.data, .data], laidTests := true, laidLooks := .later }
def ClubGoodmanUptoCardSaid : Prop := Claim7.holds Tryd.pinned (.plain (OpenSpec.upto clubGoodmanSpec)) clubGoodmanUptoCard

/-- THE SECOND FORM's CARD OF 'vitolalaw12.ClubPlans'. -/
def clubPlansUptoCard : Claim7 := { stood := { row := clubPlansUptoRow, standIns := [], harness := (true, "0349da0a4099ae9ed5d3071772b8f815e8bbcef49e2c4cf308266972639fa4c4"), looks := true }, kinds := [], alts := [], laidByText := true, laidKinds := [.data, .data], laidTests := true, laidLooks := .later }
def ClubPlansUptoCardSaid : Prop := Claim7.holds Tryd.pinned (.plain (OpenSpec.upto clubPlansSpec)) clubPlansUptoCard

/-- THE SECOND FORM's CARD OF 'vitolalaw12.ClubKnown'. -/
def clubKnownUptoCard : Claim7 := { stood := { row := clubKnownUptoRow, standIns := [], harness := (true, "0349da0a4099ae9ed5d3071772b8f815e8bbcef49e2c4cf308266972639fa4c4"), looks := true }, kinds := [], alts := [], laidByText := true, laidKinds := [.data, .data], laidTests := true, laidLooks := .later }
def ClubKnownUptoCardSaid : Prop := Claim7.holds Tryd.pinned (.plain (OpenSpec.upto clubKnownSpec)) clubKnownUptoCard

/-- THE SECOND FORM's CARD OF 'vitolalaw12.ClubNamed'. -/
def clubNamedUptoCard : Claim7 := { stood := { row := clubNamedUptoRow, standIns := [], harness := (true, "0349da0a4099ae9ed5d3071772b8f815e8bbcef49e2c4cf308266972639fa4c4"), looks := true }, kinds := [], alts := [], laidByText := true, laidKinds := [.data, .data], laidTests := true, laidLooks := .later }
def ClubNamedUptoCardSaid : Prop := Claim7.holds Tryd.pinned (.plain (OpenSpec.upto clubNamedSpec)) clubNamedUptoCard

/-- THE SECOND FORM's CARD OF 'vitolalaw12.ClubListed'. -/
def clubListedUptoCard : Claim7 := { stood := { row := clubListedUptoRow, standIns := [], harness := (true, "0349da0a4099ae9ed5d3071772b8f815e8bbcef49e2c4cf308266972639fa4c4"), looks := true }, kinds := [], alts := [], laidByText := true, laidKinds := [.data, .data], laidTests := true, laidLooks := .later }
def ClubListedUptoCardSaid : Prop := Claim7.holds Tryd.pinned (.plain (OpenSpec.upto clubListedSpec)) clubListedUptoCard

/-- THE SECOND FORM's CARD OF 'vitolalaw12.ClubHavel'. -/
def clubHavelUptoCard : Claim7 := { stood := { row := clubHavelUptoRow, standIns := [], harness := (true, "0349da0a4099ae9ed5d3071772b8f815e8bbcef49e2c4cf308266972639fa4c4"), looks := true }, kinds := [], alts := [], laidByText := true, laidKinds := [.data, .data], laidTests := true, laidLooks := .later }
def ClubHavelUptoCardSaid : Prop := Claim7.holds Tryd.pinned (.plain (OpenSpec.upto clubHavelSpec)) clubHavelUptoCard
end Rows
end Go.Proofs.YtfimbmhannndaaaDoor
