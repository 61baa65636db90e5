/-
  DERIVED. GIVEN WITH THE SEED: THE CARDS: each row of YtbokbbcoekeoaaaDoorRows.lean that lists a variable, with what it lists TIED to the program's text (the seventh form; the later family's looks); each row that meets fmt, with fmt's text TOLD by the authors' own Lean function (tested against real Go, not proved from fmt's source: count such statements apart). THE CARD IS WHAT COUNTS. Prove the row's statement (the work); the ties are given (YtbokbbcoekeoaaaDoorTie.lean); close each card by the builder's one call (the guide's Derived/Test/ToyasCard.lean, 'card_holds'). Laid BY PROGRAM, IN A SANDBOX (cutbox-door.mjs). By AI agents, Wed Nov 11 2026. No macro, syntax, notation, axiom, sorry.
-/
import Derived.Test.YtbokbbcoekeoaaaDoorRows
import GoSem.ClaimSeven
namespace Go.Proofs.YtbokbbcoekeoaaaDoor
namespace Rows

/-- THE TIED CARD OF 'foretellkeep.BeginApart'. -/
def beginApartCard : Claim7 := { stood := { row := beginApartRow, standIns := [], harness := (true, "dbc9e8ddb26216cd17511d4566c9e0601a11366f0e40a523454e9f49d104d698"), looks := true }, kinds := [], alts := [], laidByText := true, laidKinds := [.data], laidTests := true, laidLooks := .later }
def BeginApartCardSaid : Prop := Claim7.holds Tryd.pinned (.plain (OpenSpec.ofChange beginApartSpec)) beginApartCard

/-- THE TIED CARD OF 'foretellkeep.BehindNext'. -/
def behindNextCard : Claim7 := { stood := { row := behindNextRow, standIns := [], harness := (true, "dbc9e8ddb26216cd17511d4566c9e0601a11366f0e40a523454e9f49d104d698"), looks := true }, kinds := [], alts := [], laidByText := true, laidKinds := [.data], laidTests := true, laidLooks := .later }
def BehindNextCardSaid : Prop := Claim7.holds Tryd.pinned (.plain (OpenSpec.ofChange behindNextSpec)) behindNextCard

/-- THE TIED CARD OF 'foretellkeep.ExploreYes'. -/
def exploreYesCard : Claim7 := { stood := { row := exploreYesRow, standIns := [], harness := (true, "dbc9e8ddb26216cd17511d4566c9e0601a11366f0e40a523454e9f49d104d698"), looks := true }, kinds := [], alts := [], laidByText := true, laidKinds := [.data], laidTests := true, laidLooks := .later }
def ExploreYesCardSaid : Prop := Claim7.holds Tryd.pinned (.plain (OpenSpec.ofChange exploreYesSpec)) exploreYesCard

/-- THE TIED CARD OF 'foretellkeep.ExploreWhole'. -/
def exploreWholeCard : Claim7 := { stood := { row := exploreWholeRow, standIns := [], harness := (true, "dbc9e8ddb26216cd17511d4566c9e0601a11366f0e40a523454e9f49d104d698"), looks := true }, kinds := [], alts := [], laidByText := true, laidKinds := [.data], laidTests := true, laidLooks := .later }
def ExploreWholeCardSaid : Prop := Claim7.holds Tryd.pinned (.plain (OpenSpec.ofChange exploreWholeSpec)) exploreWholeCard

/-- THE TIED CARD OF 'foretellkeep.SheetFixed'. -/
def sheetFixedCard : Claim7 := { stood := { row := sheetFixedRow, standIns := [], harness := (true, "dbc9e8ddb26216cd17511d4566c9e0601a11366f0e40a523454e9f49d104d698"), looks := true }, kinds := [], alts := [], laidByText := true, laidKinds := [.data, .data, .data, .data, .sentinel, .sentinel, .data, .data, .pinned], laidTests := true, laidLooks := .later }
def SheetFixedCardSaid : Prop := Claim7.holds Tryd.pinned (.plain (OpenSpec.ofChange sheetFixedSpec)) sheetFixedCard

/-- THE TIED CARD OF 'foretellkeep.SheetTorn'. -/
def sheetTornCard : Claim7 := { stood := { row := sheetTornRow, standIns := [], harness := (true, "dbc9e8ddb26216cd17511d4566c9e0601a11366f0e40a523454e9f49d104d698"), looks := true }, kinds := [], alts := [], laidByText := true, laidKinds := [.data, .data, .data, .data, .sentinel, .sentinel, .data, .data, .pinned], laidTests := true, laidLooks := .later }
def SheetTornCardSaid : Prop := Claim7.holds Tryd.pinned (.plain (OpenSpec.ofChange sheetTornSpec)) sheetTornCard

/-- THE SECOND FORM's CARD OF 'foretellkeep.BeginApart'. -/
def beginApartUptoCard : Claim7 := { stood := { row := beginApartUptoRow, standIns := [], harness := (true, "dbc9e8ddb26216cd17511d4566c9e0601a11366f0e40a523454e9f49d104d698"), looks := true }, kinds := [], alts := [], laidByText := true, laidKinds := [.data], laidTests := true, laidLooks := .later }
def BeginApartUptoCardSaid : Prop := Claim7.holds Tryd.pinned (.plain (OpenSpec.upto beginApartSpec)) beginApartUptoCard

/-- THE SECOND FORM's CARD OF 'foretellkeep.BehindNext'. -/
def behindNextUptoCard : Claim7 := { stood := { row := behindNextUptoRow, standIns := [], harness := (true, "dbc9e8ddb26216cd17511d4566c9e0601a11366f0e40a523454e9f49d104d698"), looks := true }, kinds := [], alts := [], laidByText := true, laidKinds := [.data], laidTests := true, laidLooks := .later }
def BehindNextUptoCardSaid : Prop := Claim7.holds Tryd.pinned (.plain (OpenSpec.upto behindNextSpec)) behindNextUptoCard

/-- THE SECOND FORM's CARD OF 'foretellkeep.ExploreYes'. -/
def exploreYesUptoCard : Claim7 := { stood := { row := exploreYesUptoRow, standIns := [], harness := (true, "dbc9e8ddb26216cd17511d4566c9e0601a11366f0e40a523454e9f49d104d698"), looks := true }, kinds := [], alts := [], laidByText := true, laidKinds := [.data], laidTests := true, laidLooks := .later }
def ExploreYesUptoCardSaid : Prop := Claim7.holds Tryd.pinned (.plain (OpenSpec.upto exploreYesSpec)) exploreYesUptoCard

/-- THE SECOND FORM's CARD OF 'foretellkeep.ExploreWhole'. -/
def exploreWholeUptoCard : Claim7 := { stood := { row := exploreWholeUptoRow, standIns := [], harness := (true, "dbc9e8ddb26216cd17511d4566c9e0601a11366f0e40a523454e9f49d104d698"), looks := true }, kinds := [], alts := [], laidByText := true, laidKinds := [.data], laidTests := true, laidLooks := .later }
def ExploreWholeUptoCardSaid : Prop := Claim7.holds Tryd.pinned (.plain (OpenSpec.upto exploreWholeSpec)) exploreWholeUptoCard

/-- THE SECOND FORM's CARD OF 'foretellkeep.SheetFixed'. -/
def sheetFixedUptoCard : Claim7 := { stood := { row := sheetFixedUptoRow, standIns := [], harness := (true, "dbc9e8ddb26216cd17511d4566c9e0601a11366f0e40a523454e9f49d104d698"), looks := true }, kinds := [], alts := [], laidByText := true, laidKinds := [.data, .data, .data, .data, .sentinel, .sentinel, .data, .data, .pinned], laidTests := true, laidLooks := .later }
def SheetFixedUptoCardSaid : Prop := Claim7.holds Tryd.pinned (.plain (OpenSpec.upto sheetFixedSpec)) sheetFixedUptoCard

/-- THE SECOND FORM's CARD OF 'foretellkeep.SheetTorn'. -/
def sheetTornUptoCard : Claim7 := { stood := { row := sheetTornUptoRow, standIns := [], harness := (true, "dbc9e8ddb26216cd17511d4566c9e0601a11366f0e40a523454e9f49d104d698"), looks := true }, kinds := [], alts := [], laidByText := true, laidKinds := [.data, .data, .data, .data, .sentinel, .sentinel, .data, .data, .pinned], laidTests := true, laidLooks := .later }
def SheetTornUptoCardSaid : Prop := Claim7.holds Tryd.pinned (.plain (OpenSpec.upto sheetTornSpec)) sheetTornUptoCard
end Rows
end Go.Proofs.YtbokbbcoekeoaaaDoor
