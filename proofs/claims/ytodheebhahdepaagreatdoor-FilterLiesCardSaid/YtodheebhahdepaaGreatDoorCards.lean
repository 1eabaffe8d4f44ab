/-
  DERIVED. GIVEN WITH THE SEED: THE CARDS: each row of YtodheebhahdepaaGreatDoorRows.lean that lists a variable, with what it lists TIED to the program's text (the seventh form; the later family's looks); each row that meets fmt, with fmt's text TOLD by the authors' own Lean function (tested against real Go, not proved from fmt's source: count such statements apart). THE CARD IS WHAT COUNTS. Prove the row's statement (the work); the ties are given (YtodheebhahdepaaGreatDoorTie.lean); close each card by the builder's one call (the guide's Derived/Test/ToyasCard.lean, 'card_holds'). Laid BY PROGRAM, IN A SANDBOX (cutbox-door.mjs). By AI agents, Wed Nov 11 2026. No macro, syntax, notation, axiom, sorry.
-/
import Derived.Test.YtodheebhahdepaaGreatDoorRows
import GoSem.ClaimSeven
namespace Go.Proofs.YtodheebhahdepaaGreatDoor
namespace Rows

/-- THE TIED CARD OF 'cocyclelaw20.FilterPersists'. -/
def filterPersistsCard : Claim7 := { stood := { row := filterPersistsRow, standIns := [], harness := (true, "1e708c681872694a52748150097b492f671239d41ebc9dfa17f9289ca7ca9dab"), looks := false }, kinds := [], alts := [], laidByText := true, laidKinds := [.data, .pinned], laidTests := true, laidLooks := .later }
def FilterPersistsCardSaid : Prop := Claim7.holds Tryz.pinned (.plain (OpenSpec.ofChange filterPersistsSpec)) filterPersistsCard

/-- THE TIED CARD OF 'cocyclelaw20.FilterCounts'. -/
def filterCountsCard : Claim7 := { stood := { row := filterCountsRow, standIns := [], harness := (true, "1e708c681872694a52748150097b492f671239d41ebc9dfa17f9289ca7ca9dab"), looks := false }, kinds := [], alts := [], laidByText := true, laidKinds := [.data, .pinned], laidTests := true, laidLooks := .later }
def FilterCountsCardSaid : Prop := Claim7.holds Tryz.pinned (.plain (OpenSpec.ofChange filterCountsSpec)) filterCountsCard

/-- THE TIED CARD OF 'cocyclelaw20.FilterBars'. -/
def filterBarsCard : Claim7 := { stood := { row := filterBarsRow, standIns := [], harness := (true, "1e708c681872694a52748150097b492f671239d41ebc9dfa17f9289ca7ca9dab"), looks := false }, kinds := [], alts := [], laidByText := true, laidKinds := [.data, .pinned], laidTests := true, laidLooks := .later }
def FilterBarsCardSaid : Prop := Claim7.holds Tryz.pinned (.plain (OpenSpec.ofChange filterBarsSpec)) filterBarsCard

/-- THE TIED CARD OF 'cocyclelaw20.FilterMoves'. -/
def filterMovesCard : Claim7 := { stood := { row := filterMovesRow, standIns := [], harness := (true, "1e708c681872694a52748150097b492f671239d41ebc9dfa17f9289ca7ca9dab"), looks := false }, kinds := [], alts := [], laidByText := true, laidKinds := [.data, .pinned], laidTests := true, laidLooks := .later }
def FilterMovesCardSaid : Prop := Claim7.holds Tryz.pinned (.plain (OpenSpec.ofChange filterMovesSpec)) filterMovesCard

/-- THE TIED CARD OF 'cocyclelaw20.FilterChecks'. -/
def filterChecksCard : Claim7 := { stood := { row := filterChecksRow, standIns := [], harness := (true, "1e708c681872694a52748150097b492f671239d41ebc9dfa17f9289ca7ca9dab"), looks := false }, kinds := [], alts := [], laidByText := true, laidKinds := [.data, .pinned], laidTests := true, laidLooks := .later }
def FilterChecksCardSaid : Prop := Claim7.holds Tryz.pinned (.plain (OpenSpec.ofChange filterChecksSpec)) filterChecksCard

/-- THE TIED CARD OF 'cocyclelaw20.FilterLevels'. -/
def filterLevelsCard : Claim7 := { stood := { row := filterLevelsRow, standIns := [], harness := (true, "1e708c681872694a52748150097b492f671239d41ebc9dfa17f9289ca7ca9dab"), looks := false }, kinds := [], alts := [], laidByText := true, laidKinds := [.data, .pinned], laidTests := true, laidLooks := .later }
def FilterLevelsCardSaid : Prop := Claim7.holds Tryz.pinned (.plain (OpenSpec.ofChange filterLevelsSpec)) filterLevelsCard

/-- THE TIED CARD OF 'cocyclelaw20.FilterLies'. -/
def filterLiesCard : Claim7 := { stood := { row := filterLiesRow, standIns := [], harness := (true, "1e708c681872694a52748150097b492f671239d41ebc9dfa17f9289ca7ca9dab"), looks := false }, kinds := [], alts := [], laidByText := true, laidKinds := [.data, .pinned], laidTests := true, laidLooks := .later }
def FilterLiesCardSaid : Prop := Claim7.holds Tryz.pinned (.plain (OpenSpec.ofChange filterLiesSpec)) filterLiesCard

/-- THE TIED CARD OF 'cocyclelaw20.FilterReduces'. -/
def filterReducesCard : Claim7 := { stood := { row := filterReducesRow, standIns := [], harness := (true, "1e708c681872694a52748150097b492f671239d41ebc9dfa17f9289ca7ca9dab"), looks := false }, kinds := [], alts := [], laidByText := true, laidKinds := [.data, .pinned], laidTests := true, laidLooks := .later }
def FilterReducesCardSaid : Prop := Claim7.holds Tryz.pinned (.plain (OpenSpec.ofChange filterReducesSpec)) filterReducesCard

/-- THE TIED CARD OF 'cocyclelaw21.DiagramBetti'. -/
def diagramBettiCard : Claim7 := { stood := { row := diagramBettiRow, standIns := [], harness := (true, "1e708c681872694a52748150097b492f671239d41ebc9dfa17f9289ca7ca9dab"), looks := false }, kinds := [], alts := [], laidByText := true, laidKinds := [.data, .pinned], laidTests := true, laidLooks := .later }
def DiagramBettiCardSaid : Prop := Claim7.holds Tryz.pinned (.plain (OpenSpec.ofChange diagramBettiSpec)) diagramBettiCard

/-- THE SECOND FORM's CARD OF 'cocyclelaw20.FilterPersists'. -/
def filterPersistsUptoCard : Claim7 := { stood := { row := filterPersistsUptoRow, standIns := [], harness := (true, "1e708c681872694a52748150097b492f671239d41ebc9dfa17f9289ca7ca9dab"), looks := false }, kinds := [], alts := [], laidByText := true, laidKinds := [.data, .pinned], laidTests := true, laidLooks := .later }
def FilterPersistsUptoCardSaid : Prop := Claim7.holds Tryz.pinned (.plain (OpenSpec.upto filterPersistsSpec)) filterPersistsUptoCard

/-- THE SECOND FORM's CARD OF 'cocyclelaw20.FilterCounts'. -/
def filterCountsUptoCard : Claim7 := { stood := { row := filterCountsUptoRow, standIns := [], harness := (true, "1e708c681872694a52748150097b492f671239d41ebc9dfa17f9289ca7ca9dab"), looks := false }, kinds := [], alts := [], laidByText := true, laidKinds := [.data, .pinned], laidTests := true, laidLooks := .later }
def FilterCountsUptoCardSaid : Prop := Claim7.holds Tryz.pinned (.plain (OpenSpec.upto filterCountsSpec)) filterCountsUptoCard

/-- THE SECOND FORM's CARD OF 'cocyclelaw20.FilterBars'. -/
def filterBarsUptoCard : Claim7 := { stood := { row := filterBarsUptoRow, standIns := [], harness := (true, "1e708c681872694a52748150097b492f671239d41ebc9dfa17f9289ca7ca9dab"), looks := false }, kinds := [], alts := [], laidByText := true, laidKinds := [.data, .pinned], laidTests := true, laidLooks := .later }
def FilterBarsUptoCardSaid : Prop := Claim7.holds Tryz.pinned (.plain (OpenSpec.upto filterBarsSpec)) filterBarsUptoCard

/-- THE SECOND FORM's CARD OF 'cocyclelaw20.FilterMoves'. -/
def filterMovesUptoCard : Claim7 := { stood := { row := filterMovesUptoRow, standIns := [], harness := (true, "1e708c681872694a52748150097b492f671239d41ebc9dfa17f9289ca7ca9dab"), looks := false }, kinds := [], alts := [], laidByText := true, laidKinds := [.data, .pinned], laidTests := true, laidLooks := .later }
def FilterMovesUptoCardSaid : Prop := Claim7.holds Tryz.pinned (.plain (OpenSpec.upto filterMovesSpec)) filterMovesUptoCard

/-- THE SECOND FORM's CARD OF 'cocyclelaw20.FilterChecks'. -/
def filterChecksUptoCard : Claim7 := { stood := { row := filterChecksUptoRow, standIns := [], harness := (true, "1e708c681872694a52748150097b492f671239d41ebc9dfa17f9289ca7ca9dab"), looks := false }, kinds := [], alts := [], laidByText := true, laidKinds := [.data, .pinned], laidTests := true, laidLooks := .later }
def FilterChecksUptoCardSaid : Prop := Claim7.holds Tryz.pinned (.plain (OpenSpec.upto filterChecksSpec)) filterChecksUptoCard

/-- THE SECOND FORM's CARD OF 'cocyclelaw20.FilterLevels'. -/
def filterLevelsUptoCard : Claim7 := { stood := { row := filterLevelsUptoRow, standIns := [], harness := (true, "1e708c681872694a52748150097b492f671239d41ebc9dfa17f9289ca7ca9dab"), looks := false }, kinds := [], alts := [], laidByText := true, laidKinds := [.data, .pinned], laidTests := true, laidLooks := .later }
def FilterLevelsUptoCardSaid : Prop := Claim7.holds Tryz.pinned (.plain (OpenSpec.upto filterLevelsSpec)) filterLevelsUptoCard

/-- THE SECOND FORM's CARD OF 'cocyclelaw20.FilterLies'. -/
def filterLiesUptoCard : Claim7 := { stood := { row := filterLiesUptoRow, standIns := [], harness := (true, "1e708c681872694a52748150097b492f671239d41ebc9dfa17f9289ca7ca9dab"), looks := false }, kinds := [], alts := [], laidByText := true, laidKinds := [.data, .pinned], laidTests := true, laidLooks := .later }
def FilterLiesUptoCardSaid : Prop := Claim7.holds Tryz.pinned (.plain (OpenSpec.upto filterLiesSpec)) filterLiesUptoCard

/-- THE SECOND FORM's CARD OF 'cocyclelaw20.FilterReduces'. -/
def filterReducesUptoCard : Claim7 := { stood := { row := filterReducesUptoRow, standIns := [], harness := (true, "1e708c681872694a52748150097b492f671239d41ebc9dfa17f9289ca7ca9dab"), looks := false }, kinds := [], alts := [], laidByText := true, laidKinds := [.data, .pinned], laidTests := true, laidLooks := .later }
def FilterReducesUptoCardSaid : Prop := Claim7.holds Tryz.pinned (.plain (OpenSpec.upto filterReducesSpec)) filterReducesUptoCard

/-- THE SECOND FORM's CARD OF 'cocyclelaw21.DiagramBetti'. -/
def diagramBettiUptoCard : Claim7 := { stood := { row := diagramBettiUptoRow, standIns := [], harness := (true, "1e708c681872694a52748150097b492f671239d41ebc9dfa17f9289ca7ca9dab"), looks := false }, kinds := [], alts := [], laidByText := true, laidKinds := [.data, .pinned], laidTests := true, laidLooks := .later }
def DiagramBettiUptoCardSaid : Prop := Claim7.holds Tryz.pinned (.plain (OpenSpec.upto diagramBettiSpec)) diagramBettiUptoCard
end Rows
end Go.Proofs.YtodheebhahdepaaGreatDoor
