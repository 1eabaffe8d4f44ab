/-
  DERIVED. GIVEN WITH THE SEED: THE CARDS: each row of YtmgaeedkcecckaaGreatDoorRows.lean that lists a variable, with what it lists TIED to the program's text (the seventh form; the later family's looks); each row that meets fmt, with fmt's text TOLD by the authors' own Lean function (tested against real Go, not proved from fmt's source: count such statements apart). THE CARD IS WHAT COUNTS. Prove the row's statement (the work); the ties are given (YtmgaeedkcecckaaGreatDoorTie.lean); close each card by the builder's one call (the guide's Derived/Test/ToyasCard.lean, 'card_holds'). Laid BY PROGRAM, IN A SANDBOX (cutbox-door.mjs). By AI agents, Wed Nov 11 2026. No macro, syntax, notation, axiom, sorry.
-/
import Derived.Test.YtmgaeedkcecckaaGreatDoorRows
import GoSem.ClaimSeven
namespace Go.Proofs.YtmgaeedkcecckaaGreatDoor
namespace Rows

/-- THE TIED CARD OF 'cocyclelaw10.AnswerCompares'. -/
def answerComparesCard : Claim7 := { stood := { row := answerComparesRow, standIns := [], harness := (true, "29e9f87f0d0d7f1cbce4f490d25a3a415d73aec5d29c1a034725e853cf462fc1"), looks := false }, kinds := [], alts := [], laidByText := true, laidKinds := [.data, .pinned], laidTests := true, laidLooks := .later }
def AnswerComparesCardSaid : Prop := Claim7.holds Tryz.pinned (.plain (OpenSpec.ofChange answerComparesSpec)) answerComparesCard

/-- THE TIED CARD OF 'cocyclelaw10.AnswerErrors'. -/
def answerErrorsCard : Claim7 := { stood := { row := answerErrorsRow, standIns := [], harness := (true, "29e9f87f0d0d7f1cbce4f490d25a3a415d73aec5d29c1a034725e853cf462fc1"), looks := false }, kinds := [], alts := [], laidByText := true, laidKinds := [.data, .pinned], laidTests := true, laidLooks := .later }
def AnswerErrorsCardSaid : Prop := Claim7.holds Tryz.pinned (.plain (OpenSpec.ofChange answerErrorsSpec)) answerErrorsCard

/-- THE TIED CARD OF 'cocyclelaw10.AnswerBent'. -/
def answerBentCard : Claim7 := { stood := { row := answerBentRow, standIns := [], harness := (true, "29e9f87f0d0d7f1cbce4f490d25a3a415d73aec5d29c1a034725e853cf462fc1"), looks := false }, kinds := [], alts := [], laidByText := true, laidKinds := [.data, .pinned], laidTests := true, laidLooks := .later }
def AnswerBentCardSaid : Prop := Claim7.holds Tryz.pinned (.plain (OpenSpec.ofChange answerBentSpec)) answerBentCard

/-- THE TIED CARD OF 'cocyclelaw10.AnswerBounds'. -/
def answerBoundsCard : Claim7 := { stood := { row := answerBoundsRow, standIns := [], harness := (true, "29e9f87f0d0d7f1cbce4f490d25a3a415d73aec5d29c1a034725e853cf462fc1"), looks := false }, kinds := [], alts := [], laidByText := true, laidKinds := [.data, .pinned], laidTests := true, laidLooks := .later }
def AnswerBoundsCardSaid : Prop := Claim7.holds Tryz.pinned (.plain (OpenSpec.ofChange answerBoundsSpec)) answerBoundsCard

/-- THE TIED CARD OF 'cocyclelaw10.AnswerRelation'. -/
def answerRelationCard : Claim7 := { stood := { row := answerRelationRow, standIns := [], harness := (true, "29e9f87f0d0d7f1cbce4f490d25a3a415d73aec5d29c1a034725e853cf462fc1"), looks := false }, kinds := [], alts := [], laidByText := true, laidKinds := [.data, .pinned], laidTests := true, laidLooks := .later }
def AnswerRelationCardSaid : Prop := Claim7.holds Tryz.pinned (.plain (OpenSpec.ofChange answerRelationSpec)) answerRelationCard

/-- THE TIED CARD OF 'cocyclelaw10.AnswerPlane'. -/
def answerPlaneCard : Claim7 := { stood := { row := answerPlaneRow, standIns := [], harness := (true, "29e9f87f0d0d7f1cbce4f490d25a3a415d73aec5d29c1a034725e853cf462fc1"), looks := false }, kinds := [], alts := [], laidByText := true, laidKinds := [.data, .pinned], laidTests := true, laidLooks := .later }
def AnswerPlaneCardSaid : Prop := Claim7.holds Tryz.pinned (.plain (OpenSpec.ofChange answerPlaneSpec)) answerPlaneCard

/-- THE TIED CARD OF 'cocyclelaw10.AnswerTorus'. -/
def answerTorusCard : Claim7 := { stood := { row := answerTorusRow, standIns := [], harness := (true, "29e9f87f0d0d7f1cbce4f490d25a3a415d73aec5d29c1a034725e853cf462fc1"), looks := false }, kinds := [], alts := [], laidByText := true, laidKinds := [.data, .pinned], laidTests := true, laidLooks := .later }
def AnswerTorusCardSaid : Prop := Claim7.holds Tryz.pinned (.plain (OpenSpec.ofChange answerTorusSpec)) answerTorusCard

/-- THE TIED CARD OF 'cocyclelaw10.AnswerParts'. -/
def answerPartsCard : Claim7 := { stood := { row := answerPartsRow, standIns := [], harness := (true, "29e9f87f0d0d7f1cbce4f490d25a3a415d73aec5d29c1a034725e853cf462fc1"), looks := false }, kinds := [], alts := [], laidByText := true, laidKinds := [.data, .pinned], laidTests := true, laidLooks := .later }
def AnswerPartsCardSaid : Prop := Claim7.holds Tryz.pinned (.plain (OpenSpec.ofChange answerPartsSpec)) answerPartsCard

/-- THE TIED CARD OF 'cocyclelaw10.AnswerKeeps'. -/
def answerKeepsCard : Claim7 := { stood := { row := answerKeepsRow, standIns := [], harness := (true, "29e9f87f0d0d7f1cbce4f490d25a3a415d73aec5d29c1a034725e853cf462fc1"), looks := false }, kinds := [], alts := [], laidByText := true, laidKinds := [.data, .pinned], laidTests := true, laidLooks := .later }
def AnswerKeepsCardSaid : Prop := Claim7.holds Tryz.pinned (.plain (OpenSpec.ofChange answerKeepsSpec)) answerKeepsCard

/-- THE SECOND FORM's CARD OF 'cocyclelaw10.AnswerCompares'. -/
def answerComparesUptoCard : Claim7 := { stood := { row := answerComparesUptoRow, standIns := [], harness := (true, "29e9f87f0d0d7f1cbce4f490d25a3a415d73aec5d29c1a034725e853cf462fc1"), looks := false }, kinds := [], alts := [], laidByText := true, laidKinds := [.data, .pinned], laidTests := true, laidLooks := .later }
def AnswerComparesUptoCardSaid : Prop := Claim7.holds Tryz.pinned (.plain (OpenSpec.upto answerComparesSpec)) answerComparesUptoCard

/-- THE SECOND FORM's CARD OF 'cocyclelaw10.AnswerErrors'. -/
def answerErrorsUptoCard : Claim7 := { stood := { row := answerErrorsUptoRow, standIns := [], harness := (true, "29e9f87f0d0d7f1cbce4f490d25a3a415d73aec5d29c1a034725e853cf462fc1"), looks := false }, kinds := [], alts := [], laidByText := true, laidKinds := [.data, .pinned], laidTests := true, laidLooks := .later }
def AnswerErrorsUptoCardSaid : Prop := Claim7.holds Tryz.pinned (.plain (OpenSpec.upto answerErrorsSpec)) answerErrorsUptoCard

/-- THE SECOND FORM's CARD OF 'cocyclelaw10.AnswerBent'. -/
def answerBentUptoCard : Claim7 := { stood := { row := answerBentUptoRow, standIns := [], harness := (true, "29e9f87f0d0d7f1cbce4f490d25a3a415d73aec5d29c1a034725e853cf462fc1"), looks := false }, kinds := [], alts := [], laidByText := true, laidKinds := [.data, .pinned], laidTests := true, laidLooks := .later }
def AnswerBentUptoCardSaid : Prop := Claim7.holds Tryz.pinned (.plain (OpenSpec.upto answerBentSpec)) answerBentUptoCard

/-- THE SECOND FORM's CARD OF 'cocyclelaw10.AnswerBounds'. -/
def answerBoundsUptoCard : Claim7 := { stood := { row := answerBoundsUptoRow, standIns := [], harness := (true, "29e9f87f0d0d7f1cbce4f490d25a3a415d73aec5d29c1a034725e853cf462fc1"), looks := false }, kinds := [], alts := [], laidByText := true, laidKinds := [.data, .pinned], laidTests := true, laidLooks := .later }
def AnswerBoundsUptoCardSaid : Prop := Claim7.holds Tryz.pinned (.plain (OpenSpec.upto answerBoundsSpec)) answerBoundsUptoCard

/-- THE SECOND FORM's CARD OF 'cocyclelaw10.AnswerRelation'. -/
def answerRelationUptoCard : Claim7 := { stood := { row := answerRelationUptoRow, standIns := [], harness := (true, "29e9f87f0d0d7f1cbce4f490d25a3a415d73aec5d29c1a034725e853cf462fc1"), looks := false }, kinds := [], alts := [], laidByText := true, laidKinds := [.data, .pinned], laidTests := true, laidLooks := .later }
def AnswerRelationUptoCardSaid : Prop := Claim7.holds Tryz.pinned (.plain (OpenSpec.upto answerRelationSpec)) answerRelationUptoCard

/-- THE SECOND FORM's CARD OF 'cocyclelaw10.AnswerPlane'. -/
def answerPlaneUptoCard : Claim7 := { stood := { row := answerPlaneUptoRow, standIns := [], harness := (true, "29e9f87f0d0d7f1cbce4f490d25a3a415d73aec5d29c1a034725e853cf462fc1"), looks := false }, kinds := [], alts := [], laidByText := true, laidKinds := [.data, .pinned], laidTests := true, laidLooks := .later }
def AnswerPlaneUptoCardSaid : Prop := Claim7.holds Tryz.pinned (.plain (OpenSpec.upto answerPlaneSpec)) answerPlaneUptoCard

/-- THE SECOND FORM's CARD OF 'cocyclelaw10.AnswerTorus'. -/
def answerTorusUptoCard : Claim7 := { stood := { row := answerTorusUptoRow, standIns := [], harness := (true, "29e9f87f0d0d7f1cbce4f490d25a3a415d73aec5d29c1a034725e853cf462fc1"), looks := false }, kinds := [], alts := [], laidByText := true, laidKinds := [.data, .pinned], laidTests := true, laidLooks := .later }
def AnswerTorusUptoCardSaid : Prop := Claim7.holds Tryz.pinned (.plain (OpenSpec.upto answerTorusSpec)) answerTorusUptoCard

/-- THE SECOND FORM's CARD OF 'cocyclelaw10.AnswerParts'. -/
def answerPartsUptoCard : Claim7 := { stood := { row := answerPartsUptoRow, standIns := [], harness := (true, "29e9f87f0d0d7f1cbce4f490d25a3a415d73aec5d29c1a034725e853cf462fc1"), looks := false }, kinds := [], alts := [], laidByText := true, laidKinds := [.data, .pinned], laidTests := true, laidLooks := .later }
def AnswerPartsUptoCardSaid : Prop := Claim7.holds Tryz.pinned (.plain (OpenSpec.upto answerPartsSpec)) answerPartsUptoCard

/-- THE SECOND FORM's CARD OF 'cocyclelaw10.AnswerKeeps'. -/
def answerKeepsUptoCard : Claim7 := { stood := { row := answerKeepsUptoRow, standIns := [], harness := (true, "29e9f87f0d0d7f1cbce4f490d25a3a415d73aec5d29c1a034725e853cf462fc1"), looks := false }, kinds := [], alts := [], laidByText := true, laidKinds := [.data, .pinned], laidTests := true, laidLooks := .later }
def AnswerKeepsUptoCardSaid : Prop := Claim7.holds Tryz.pinned (.plain (OpenSpec.upto answerKeepsSpec)) answerKeepsUptoCard
end Rows
end Go.Proofs.YtmgaeedkcecckaaGreatDoor
