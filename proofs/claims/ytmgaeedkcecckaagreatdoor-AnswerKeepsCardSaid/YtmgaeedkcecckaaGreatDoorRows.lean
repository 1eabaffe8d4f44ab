/-
  NARROWER THAN 'FOR EVERY INPUT', by the rows' own cells (each row's printed sentence says how): AnswerCompares: laid · AnswerErrors: laid · AnswerBent: laid · AnswerBounds: laid · AnswerRelation: laid · AnswerPlane: laid · AnswerTorus: laid · AnswerParts: laid · AnswerKeeps: laid.
  DERIVED. THE GIVEN ROWS OF THIS SEAT. 9 by the template 'for every input the law returns true; each argument reads behind the call as it read before'; 0 by the template 'total and deterministic' (their statements: YtmgaeedkcecckaaGreatDoorTotals.lean).
  GIVEN WITH THE SEED: the statements are not yours to turn. If you find one false, say at which input.
  Laid BY PROGRAM, IN A SANDBOX (cutbox-rows.mjs): the forced cells as the released guide's own fill.sh prints them over the translation cb08f5f59e2ece74… (all of the seat's roots in one cut). By AI agents, Wed Nov 11 2026. No macro, syntax, notation, axiom, sorry.
-/
import Derived.Test.YtmgaeedkcecckaaGreatDoorChecked
import GoSem.PinnedTables
import GoSem.Claim
import GoSem.ClaimJoined
import GoSem.ClaimMapViews
import Derived.JoinedTies
import Derived.KernelRfl
namespace Go.Proofs.YtmgaeedkcecckaaGreatDoor
/- THE CELL 'sum', in the pinned program and in every row, IS THE sha256 OF THE DUMP (.gsa) THAT YtmgaeedkcecckaaGreatDoorProg.lean LOADS. Nothing in Lean hashes anything: it is a label: what it is worth is what the hold of that sum in a sandbox is worth. -/
noncomputable def Tryz.pinned : Pinned := { name := "ytmgaeedkcecckaagreatdoor", sum := "cb08f5f59e2ece7420a8cedffb5a22545301c39fa514163320b18ab29a7528d8", checked := Tryz.checked }
namespace Rows
def none {H : Type} : Left H := { results := [], args := [] }

/- WHAT THE LISTED PACKAGE-LEVEL VARIABLES READ AS WHEN THE CALL BEGINS. Each datum BY PROGRAM (the guide's laid-datum.mjs) off the statement by which the dump's own 'gosem.cut.vars' lays the variable. In a bare row this is a premise. The card (YtmgaeedkcecckaaGreatDoorCards.lean) ties it to the program's text. -/
def laid_unicode_utf8_acceptRanges {H : Type} : DataW H := .agg [.agg [.lit (.int .u8 128), .lit (.int .u8 191)], .agg [.lit (.int .u8 160), .lit (.int .u8 191)], .agg [.lit (.int .u8 128), .lit (.int .u8 159)], .agg [.lit (.int .u8 144), .lit (.int .u8 191)], .agg [.lit (.int .u8 128), .lit (.int .u8 143)], .agg [.lit (.int .u8 0), .lit (.int .u8 0)], .agg [.lit (.int .u8 0), .lit (.int .u8 0)], .agg [.lit (.int .u8 0), .lit (.int .u8 0)], .agg [.lit (.int .u8 0), .lit (.int .u8 0)], .agg [.lit (.int .u8 0), .lit (.int .u8 0)], .agg [.lit (.int .u8 0), .lit (.int .u8 0)], .agg [.lit (.int .u8 0), .lit (.int .u8 0)], .agg [.lit (.int .u8 0), .lit (.int .u8 0)], .agg [.lit (.int .u8 0), .lit (.int .u8 0)], .agg [.lit (.int .u8 0), .lit (.int .u8 0)], .agg [.lit (.int .u8 0), .lit (.int .u8 0)]]
/-- One of Go's own tables, pinned by name: the form's constant. -/
def laid_unicode_utf8_first : DataW Unit := Go.Pinned.utf8First

/-- 'cocyclelaw10.AnswerCompares': WHATEVER THE INPUT: true; the input reads as it did. -/
def answerComparesSpec : ChangeSpec := { name := "answerCompares", fn := fun _ => fun
  | [d1, d2, d3] => { results := [.lit (.bool true)], args := [d1, d2, d3] }
  | _ => none }
def answerComparesRow : OpenClaim := { program := "ytmgaeedkcecckaagreatdoor", sum := "cb08f5f59e2ece7420a8cedffb5a22545301c39fa514163320b18ab29a7528d8", func := "cocycle/cocyclelaw10.AnswerCompares", spec := "answerCompares", inPlace := ["internal/bytealg.IndexByteString", "internal/bytealg.IndexString"], unfollowed := true, recurses := true, named := ["unicode/utf8.first", "unicode/utf8.acceptRanges", "internal/bytealg.MaxLen"], apart := false, laid := [("unicode/utf8.acceptRanges", laid_unicode_utf8_acceptRanges), ("unicode/utf8.first", laid_unicode_utf8_first)] }
def AnswerComparesSaid : Prop := answerComparesRow.holds Tryz.pinned (OpenSpec.ofChange answerComparesSpec)

/-- ITS FALSE NEIGHBOUR: 'it returns false'. Refute it at one input. -/
def answerComparesWrong : ChangeSpec := { name := "answerCompares", fn := fun _ => fun
  | [d1, d2, d3] => { results := [.lit (.bool false)], args := [d1, d2, d3] }
  | _ => none }
def AnswerComparesWrongFalsely : Prop := answerComparesRow.holds Tryz.pinned (OpenSpec.ofChange answerComparesWrong)

/-- 'cocyclelaw10.AnswerErrors': WHATEVER THE INPUT: true; the input reads as it did. -/
def answerErrorsSpec : ChangeSpec := { name := "answerErrors", fn := fun _ => fun
  | [d1, d2, d3] => { results := [.lit (.bool true)], args := [d1, d2, d3] }
  | _ => none }
def answerErrorsRow : OpenClaim := { program := "ytmgaeedkcecckaagreatdoor", sum := "cb08f5f59e2ece7420a8cedffb5a22545301c39fa514163320b18ab29a7528d8", func := "cocycle/cocyclelaw10.AnswerErrors", spec := "answerErrors", inPlace := ["internal/bytealg.IndexByteString", "internal/bytealg.IndexString"], unfollowed := true, recurses := true, named := ["unicode/utf8.first", "unicode/utf8.acceptRanges", "internal/bytealg.MaxLen"], apart := false, laid := [("unicode/utf8.acceptRanges", laid_unicode_utf8_acceptRanges), ("unicode/utf8.first", laid_unicode_utf8_first)] }
def AnswerErrorsSaid : Prop := answerErrorsRow.holds Tryz.pinned (OpenSpec.ofChange answerErrorsSpec)

/-- ITS FALSE NEIGHBOUR: 'it returns false'. Refute it at one input. -/
def answerErrorsWrong : ChangeSpec := { name := "answerErrors", fn := fun _ => fun
  | [d1, d2, d3] => { results := [.lit (.bool false)], args := [d1, d2, d3] }
  | _ => none }
def AnswerErrorsWrongFalsely : Prop := answerErrorsRow.holds Tryz.pinned (OpenSpec.ofChange answerErrorsWrong)

/-- 'cocyclelaw10.AnswerBent': WHATEVER THE INPUT: true; the input reads as it did. -/
def answerBentSpec : ChangeSpec := { name := "answerBent", fn := fun _ => fun
  | [d1, d2, d3] => { results := [.lit (.bool true)], args := [d1, d2, d3] }
  | _ => none }
def answerBentRow : OpenClaim := { program := "ytmgaeedkcecckaagreatdoor", sum := "cb08f5f59e2ece7420a8cedffb5a22545301c39fa514163320b18ab29a7528d8", func := "cocycle/cocyclelaw10.AnswerBent", spec := "answerBent", inPlace := ["internal/bytealg.IndexByteString", "internal/bytealg.IndexString"], unfollowed := true, recurses := true, named := ["unicode/utf8.first", "unicode/utf8.acceptRanges", "internal/bytealg.MaxLen"], apart := false, laid := [("unicode/utf8.acceptRanges", laid_unicode_utf8_acceptRanges), ("unicode/utf8.first", laid_unicode_utf8_first)] }
def AnswerBentSaid : Prop := answerBentRow.holds Tryz.pinned (OpenSpec.ofChange answerBentSpec)

/-- ITS FALSE NEIGHBOUR: 'it returns false'. Refute it at one input. -/
def answerBentWrong : ChangeSpec := { name := "answerBent", fn := fun _ => fun
  | [d1, d2, d3] => { results := [.lit (.bool false)], args := [d1, d2, d3] }
  | _ => none }
def AnswerBentWrongFalsely : Prop := answerBentRow.holds Tryz.pinned (OpenSpec.ofChange answerBentWrong)

/-- 'cocyclelaw10.AnswerBounds': WHATEVER THE INPUT: true; the input reads as it did. -/
def answerBoundsSpec : ChangeSpec := { name := "answerBounds", fn := fun _ => fun
  | [d1, d2, d3] => { results := [.lit (.bool true)], args := [d1, d2, d3] }
  | _ => none }
def answerBoundsRow : OpenClaim := { program := "ytmgaeedkcecckaagreatdoor", sum := "cb08f5f59e2ece7420a8cedffb5a22545301c39fa514163320b18ab29a7528d8", func := "cocycle/cocyclelaw10.AnswerBounds", spec := "answerBounds", inPlace := ["internal/bytealg.IndexByteString", "internal/bytealg.IndexString"], unfollowed := true, recurses := true, named := ["unicode/utf8.first", "unicode/utf8.acceptRanges", "internal/bytealg.MaxLen"], apart := false, laid := [("unicode/utf8.acceptRanges", laid_unicode_utf8_acceptRanges), ("unicode/utf8.first", laid_unicode_utf8_first)] }
def AnswerBoundsSaid : Prop := answerBoundsRow.holds Tryz.pinned (OpenSpec.ofChange answerBoundsSpec)

/-- ITS FALSE NEIGHBOUR: 'it returns false'. Refute it at one input. -/
def answerBoundsWrong : ChangeSpec := { name := "answerBounds", fn := fun _ => fun
  | [d1, d2, d3] => { results := [.lit (.bool false)], args := [d1, d2, d3] }
  | _ => none }
def AnswerBoundsWrongFalsely : Prop := answerBoundsRow.holds Tryz.pinned (OpenSpec.ofChange answerBoundsWrong)

/-- 'cocyclelaw10.AnswerRelation': WHATEVER THE INPUT: true; the input reads as it did. -/
def answerRelationSpec : ChangeSpec := { name := "answerRelation", fn := fun _ => fun
  | [d1, d2, d3] => { results := [.lit (.bool true)], args := [d1, d2, d3] }
  | _ => none }
def answerRelationRow : OpenClaim := { program := "ytmgaeedkcecckaagreatdoor", sum := "cb08f5f59e2ece7420a8cedffb5a22545301c39fa514163320b18ab29a7528d8", func := "cocycle/cocyclelaw10.AnswerRelation", spec := "answerRelation", inPlace := ["internal/bytealg.IndexByteString", "internal/bytealg.IndexString"], unfollowed := true, recurses := true, named := ["unicode/utf8.first", "unicode/utf8.acceptRanges", "internal/bytealg.MaxLen"], apart := false, laid := [("unicode/utf8.acceptRanges", laid_unicode_utf8_acceptRanges), ("unicode/utf8.first", laid_unicode_utf8_first)] }
def AnswerRelationSaid : Prop := answerRelationRow.holds Tryz.pinned (OpenSpec.ofChange answerRelationSpec)

/-- ITS FALSE NEIGHBOUR: 'it returns false'. Refute it at one input. -/
def answerRelationWrong : ChangeSpec := { name := "answerRelation", fn := fun _ => fun
  | [d1, d2, d3] => { results := [.lit (.bool false)], args := [d1, d2, d3] }
  | _ => none }
def AnswerRelationWrongFalsely : Prop := answerRelationRow.holds Tryz.pinned (OpenSpec.ofChange answerRelationWrong)

/-- 'cocyclelaw10.AnswerPlane': WHATEVER THE INPUT: true; the input reads as it did. -/
def answerPlaneSpec : ChangeSpec := { name := "answerPlane", fn := fun _ => fun
  | [d1, d2] => { results := [.lit (.bool true)], args := [d1, d2] }
  | _ => none }
def answerPlaneRow : OpenClaim := { program := "ytmgaeedkcecckaagreatdoor", sum := "cb08f5f59e2ece7420a8cedffb5a22545301c39fa514163320b18ab29a7528d8", func := "cocycle/cocyclelaw10.AnswerPlane", spec := "answerPlane", inPlace := ["internal/bytealg.IndexByteString", "internal/bytealg.IndexString"], unfollowed := true, recurses := true, named := ["unicode/utf8.first", "unicode/utf8.acceptRanges", "internal/bytealg.MaxLen"], apart := false, laid := [("unicode/utf8.acceptRanges", laid_unicode_utf8_acceptRanges), ("unicode/utf8.first", laid_unicode_utf8_first)] }
def AnswerPlaneSaid : Prop := answerPlaneRow.holds Tryz.pinned (OpenSpec.ofChange answerPlaneSpec)

/-- ITS FALSE NEIGHBOUR: 'it returns false'. Refute it at one input. -/
def answerPlaneWrong : ChangeSpec := { name := "answerPlane", fn := fun _ => fun
  | [d1, d2] => { results := [.lit (.bool false)], args := [d1, d2] }
  | _ => none }
def AnswerPlaneWrongFalsely : Prop := answerPlaneRow.holds Tryz.pinned (OpenSpec.ofChange answerPlaneWrong)

/-- 'cocyclelaw10.AnswerTorus': WHATEVER THE INPUT: true; the input reads as it did. -/
def answerTorusSpec : ChangeSpec := { name := "answerTorus", fn := fun _ => fun
  | [d1, d2, d3] => { results := [.lit (.bool true)], args := [d1, d2, d3] }
  | _ => none }
def answerTorusRow : OpenClaim := { program := "ytmgaeedkcecckaagreatdoor", sum := "cb08f5f59e2ece7420a8cedffb5a22545301c39fa514163320b18ab29a7528d8", func := "cocycle/cocyclelaw10.AnswerTorus", spec := "answerTorus", inPlace := ["internal/bytealg.IndexByteString", "internal/bytealg.IndexString"], unfollowed := true, recurses := true, named := ["unicode/utf8.first", "unicode/utf8.acceptRanges", "internal/bytealg.MaxLen"], apart := false, laid := [("unicode/utf8.acceptRanges", laid_unicode_utf8_acceptRanges), ("unicode/utf8.first", laid_unicode_utf8_first)] }
def AnswerTorusSaid : Prop := answerTorusRow.holds Tryz.pinned (OpenSpec.ofChange answerTorusSpec)

/-- ITS FALSE NEIGHBOUR: 'it returns false'. Refute it at one input. -/
def answerTorusWrong : ChangeSpec := { name := "answerTorus", fn := fun _ => fun
  | [d1, d2, d3] => { results := [.lit (.bool false)], args := [d1, d2, d3] }
  | _ => none }
def AnswerTorusWrongFalsely : Prop := answerTorusRow.holds Tryz.pinned (OpenSpec.ofChange answerTorusWrong)

/-- 'cocyclelaw10.AnswerParts': WHATEVER THE INPUT: true; the input reads as it did. -/
def answerPartsSpec : ChangeSpec := { name := "answerParts", fn := fun _ => fun
  | [d1, d2, d3] => { results := [.lit (.bool true)], args := [d1, d2, d3] }
  | _ => none }
def answerPartsRow : OpenClaim := { program := "ytmgaeedkcecckaagreatdoor", sum := "cb08f5f59e2ece7420a8cedffb5a22545301c39fa514163320b18ab29a7528d8", func := "cocycle/cocyclelaw10.AnswerParts", spec := "answerParts", inPlace := ["internal/bytealg.IndexByteString", "internal/bytealg.IndexString"], unfollowed := true, recurses := true, named := ["unicode/utf8.first", "unicode/utf8.acceptRanges", "internal/bytealg.MaxLen"], apart := false, laid := [("unicode/utf8.acceptRanges", laid_unicode_utf8_acceptRanges), ("unicode/utf8.first", laid_unicode_utf8_first)] }
def AnswerPartsSaid : Prop := answerPartsRow.holds Tryz.pinned (OpenSpec.ofChange answerPartsSpec)

/-- ITS FALSE NEIGHBOUR: 'it returns false'. Refute it at one input. -/
def answerPartsWrong : ChangeSpec := { name := "answerParts", fn := fun _ => fun
  | [d1, d2, d3] => { results := [.lit (.bool false)], args := [d1, d2, d3] }
  | _ => none }
def AnswerPartsWrongFalsely : Prop := answerPartsRow.holds Tryz.pinned (OpenSpec.ofChange answerPartsWrong)

/-- 'cocyclelaw10.AnswerKeeps': WHATEVER THE INPUT: true; the input reads as it did. -/
def answerKeepsSpec : ChangeSpec := { name := "answerKeeps", fn := fun _ => fun
  | [d1, d2] => { results := [.lit (.bool true)], args := [d1, d2] }
  | _ => none }
def answerKeepsRow : OpenClaim := { program := "ytmgaeedkcecckaagreatdoor", sum := "cb08f5f59e2ece7420a8cedffb5a22545301c39fa514163320b18ab29a7528d8", func := "cocycle/cocyclelaw10.AnswerKeeps", spec := "answerKeeps", inPlace := ["internal/bytealg.IndexByteString", "internal/bytealg.IndexString"], unfollowed := true, recurses := true, named := ["unicode/utf8.first", "unicode/utf8.acceptRanges", "internal/bytealg.MaxLen"], apart := false, laid := [("unicode/utf8.acceptRanges", laid_unicode_utf8_acceptRanges), ("unicode/utf8.first", laid_unicode_utf8_first)] }
def AnswerKeepsSaid : Prop := answerKeepsRow.holds Tryz.pinned (OpenSpec.ofChange answerKeepsSpec)

/-- ITS FALSE NEIGHBOUR: 'it returns false'. Refute it at one input. -/
def answerKeepsWrong : ChangeSpec := { name := "answerKeeps", fn := fun _ => fun
  | [d1, d2] => { results := [.lit (.bool false)], args := [d1, d2] }
  | _ => none }
def AnswerKeepsWrongFalsely : Prop := answerKeepsRow.holds Tryz.pinned (OpenSpec.ofChange answerKeepsWrong)

/- THE SECOND FORM. 'bulk': how many values and letters a reading holds, each counted each time it is reached (what is shared counts as often as it is met; a slice's spare places count too). A statement '..UptoSaid' is the law's where the arguments, and the package variables that the reading takes, are together of bulk at most 1048576: NARROWER than '..Said'. Prove '..Said' where nothing that the law and all that it calls make is longer than what came in: it says more and counts as full. Else prove '..UptoSaid'. A law counts once. -/
mutual
def uptoBulk {H : Type} : DataW H → Nat
  | .lit (.string bytes) => bytes.length + 1
  | .lit _ => 1
  | .nil => 1
  | .ptr d => uptoBulk d + 1
  | .slice elems spare => uptoBulkAll elems + uptoBulkAll spare + 1
  | .agg parts => uptoBulkAll parts + 1
  | .iface _ d => uptoBulk d + 1
  | .map entries => uptoBulkEntries entries + 1
  | .held _ => 1
def uptoBulkAll {H : Type} : List (DataW H) → Nat
  | [] => 0
  | d :: r => uptoBulk d + uptoBulkAll r
def uptoBulkEntries {H : Type} : List (Lit × DataW H) → Nat
  | [] => 0
  | x :: r => uptoBulkEntry x + uptoBulkEntries r
def uptoBulkEntry {H : Type} : Lit × DataW H → Nat
  | (.string bytes, d) => bytes.length + uptoBulk d + 1
  | (_, d) => uptoBulk d + 1
 end
def uptoSmall : (H : Type) → List (DataW H) → Bool := fun _ ds => decide (uptoBulkAll ds ≤ 1048576)
def OpenSpec.upto (s : _root_.Go.ChangeSpec) : _root_.Go.OpenSpec := { _root_.Go.OpenSpec.ofChange s with cond := some uptoSmall }

/-- 'cocyclelaw10.AnswerCompares', WHERE WHAT IT READS IS OF BULK AT MOST 1048576: true; the input reads as it did. -/
def answerComparesUptoRow : OpenClaim := { program := "ytmgaeedkcecckaagreatdoor", sum := "cb08f5f59e2ece7420a8cedffb5a22545301c39fa514163320b18ab29a7528d8", func := "cocycle/cocyclelaw10.AnswerCompares", spec := "answerCompares", inPlace := ["internal/bytealg.IndexByteString", "internal/bytealg.IndexString"], unfollowed := true, recurses := true, named := ["unicode/utf8.first", "unicode/utf8.acceptRanges", "internal/bytealg.MaxLen"], apart := false, laid := [("unicode/utf8.acceptRanges", laid_unicode_utf8_acceptRanges), ("unicode/utf8.first", laid_unicode_utf8_first)], narrowed := true }
def AnswerComparesUptoSaid : Prop := answerComparesUptoRow.holds Tryz.pinned (OpenSpec.upto answerComparesSpec)

/-- 'cocyclelaw10.AnswerErrors', WHERE WHAT IT READS IS OF BULK AT MOST 1048576: true; the input reads as it did. -/
def answerErrorsUptoRow : OpenClaim := { program := "ytmgaeedkcecckaagreatdoor", sum := "cb08f5f59e2ece7420a8cedffb5a22545301c39fa514163320b18ab29a7528d8", func := "cocycle/cocyclelaw10.AnswerErrors", spec := "answerErrors", inPlace := ["internal/bytealg.IndexByteString", "internal/bytealg.IndexString"], unfollowed := true, recurses := true, named := ["unicode/utf8.first", "unicode/utf8.acceptRanges", "internal/bytealg.MaxLen"], apart := false, laid := [("unicode/utf8.acceptRanges", laid_unicode_utf8_acceptRanges), ("unicode/utf8.first", laid_unicode_utf8_first)], narrowed := true }
def AnswerErrorsUptoSaid : Prop := answerErrorsUptoRow.holds Tryz.pinned (OpenSpec.upto answerErrorsSpec)

/-- 'cocyclelaw10.AnswerBent', WHERE WHAT IT READS IS OF BULK AT MOST 1048576: true; the input reads as it did. -/
def answerBentUptoRow : OpenClaim := { program := "ytmgaeedkcecckaagreatdoor", sum := "cb08f5f59e2ece7420a8cedffb5a22545301c39fa514163320b18ab29a7528d8", func := "cocycle/cocyclelaw10.AnswerBent", spec := "answerBent", inPlace := ["internal/bytealg.IndexByteString", "internal/bytealg.IndexString"], unfollowed := true, recurses := true, named := ["unicode/utf8.first", "unicode/utf8.acceptRanges", "internal/bytealg.MaxLen"], apart := false, laid := [("unicode/utf8.acceptRanges", laid_unicode_utf8_acceptRanges), ("unicode/utf8.first", laid_unicode_utf8_first)], narrowed := true }
def AnswerBentUptoSaid : Prop := answerBentUptoRow.holds Tryz.pinned (OpenSpec.upto answerBentSpec)

/-- 'cocyclelaw10.AnswerBounds', WHERE WHAT IT READS IS OF BULK AT MOST 1048576: true; the input reads as it did. -/
def answerBoundsUptoRow : OpenClaim := { program := "ytmgaeedkcecckaagreatdoor", sum := "cb08f5f59e2ece7420a8cedffb5a22545301c39fa514163320b18ab29a7528d8", func := "cocycle/cocyclelaw10.AnswerBounds", spec := "answerBounds", inPlace := ["internal/bytealg.IndexByteString", "internal/bytealg.IndexString"], unfollowed := true, recurses := true, named := ["unicode/utf8.first", "unicode/utf8.acceptRanges", "internal/bytealg.MaxLen"], apart := false, laid := [("unicode/utf8.acceptRanges", laid_unicode_utf8_acceptRanges), ("unicode/utf8.first", laid_unicode_utf8_first)], narrowed := true }
def AnswerBoundsUptoSaid : Prop := answerBoundsUptoRow.holds Tryz.pinned (OpenSpec.upto answerBoundsSpec)

/-- 'cocyclelaw10.AnswerRelation', WHERE WHAT IT READS IS OF BULK AT MOST 1048576: true; the input reads as it did. -/
def answerRelationUptoRow : OpenClaim := { program := "ytmgaeedkcecckaagreatdoor", sum := "cb08f5f59e2ece7420a8cedffb5a22545301c39fa514163320b18ab29a7528d8", func := "cocycle/cocyclelaw10.AnswerRelation", spec := "answerRelation", inPlace := ["internal/bytealg.IndexByteString", "internal/bytealg.IndexString"], unfollowed := true, recurses := true, named := ["unicode/utf8.first", "unicode/utf8.acceptRanges", "internal/bytealg.MaxLen"], apart := false, laid := [("unicode/utf8.acceptRanges", laid_unicode_utf8_acceptRanges), ("unicode/utf8.first", laid_unicode_utf8_first)], narrowed := true }
def AnswerRelationUptoSaid : Prop := answerRelationUptoRow.holds Tryz.pinned (OpenSpec.upto answerRelationSpec)

/-- 'cocyclelaw10.AnswerPlane', WHERE WHAT IT READS IS OF BULK AT MOST 1048576: true; the input reads as it did. -/
def answerPlaneUptoRow : OpenClaim := { program := "ytmgaeedkcecckaagreatdoor", sum := "cb08f5f59e2ece7420a8cedffb5a22545301c39fa514163320b18ab29a7528d8", func := "cocycle/cocyclelaw10.AnswerPlane", spec := "answerPlane", inPlace := ["internal/bytealg.IndexByteString", "internal/bytealg.IndexString"], unfollowed := true, recurses := true, named := ["unicode/utf8.first", "unicode/utf8.acceptRanges", "internal/bytealg.MaxLen"], apart := false, laid := [("unicode/utf8.acceptRanges", laid_unicode_utf8_acceptRanges), ("unicode/utf8.first", laid_unicode_utf8_first)], narrowed := true }
def AnswerPlaneUptoSaid : Prop := answerPlaneUptoRow.holds Tryz.pinned (OpenSpec.upto answerPlaneSpec)

/-- 'cocyclelaw10.AnswerTorus', WHERE WHAT IT READS IS OF BULK AT MOST 1048576: true; the input reads as it did. -/
def answerTorusUptoRow : OpenClaim := { program := "ytmgaeedkcecckaagreatdoor", sum := "cb08f5f59e2ece7420a8cedffb5a22545301c39fa514163320b18ab29a7528d8", func := "cocycle/cocyclelaw10.AnswerTorus", spec := "answerTorus", inPlace := ["internal/bytealg.IndexByteString", "internal/bytealg.IndexString"], unfollowed := true, recurses := true, named := ["unicode/utf8.first", "unicode/utf8.acceptRanges", "internal/bytealg.MaxLen"], apart := false, laid := [("unicode/utf8.acceptRanges", laid_unicode_utf8_acceptRanges), ("unicode/utf8.first", laid_unicode_utf8_first)], narrowed := true }
def AnswerTorusUptoSaid : Prop := answerTorusUptoRow.holds Tryz.pinned (OpenSpec.upto answerTorusSpec)

/-- 'cocyclelaw10.AnswerParts', WHERE WHAT IT READS IS OF BULK AT MOST 1048576: true; the input reads as it did. -/
def answerPartsUptoRow : OpenClaim := { program := "ytmgaeedkcecckaagreatdoor", sum := "cb08f5f59e2ece7420a8cedffb5a22545301c39fa514163320b18ab29a7528d8", func := "cocycle/cocyclelaw10.AnswerParts", spec := "answerParts", inPlace := ["internal/bytealg.IndexByteString", "internal/bytealg.IndexString"], unfollowed := true, recurses := true, named := ["unicode/utf8.first", "unicode/utf8.acceptRanges", "internal/bytealg.MaxLen"], apart := false, laid := [("unicode/utf8.acceptRanges", laid_unicode_utf8_acceptRanges), ("unicode/utf8.first", laid_unicode_utf8_first)], narrowed := true }
def AnswerPartsUptoSaid : Prop := answerPartsUptoRow.holds Tryz.pinned (OpenSpec.upto answerPartsSpec)

/-- 'cocyclelaw10.AnswerKeeps', WHERE WHAT IT READS IS OF BULK AT MOST 1048576: true; the input reads as it did. -/
def answerKeepsUptoRow : OpenClaim := { program := "ytmgaeedkcecckaagreatdoor", sum := "cb08f5f59e2ece7420a8cedffb5a22545301c39fa514163320b18ab29a7528d8", func := "cocycle/cocyclelaw10.AnswerKeeps", spec := "answerKeeps", inPlace := ["internal/bytealg.IndexByteString", "internal/bytealg.IndexString"], unfollowed := true, recurses := true, named := ["unicode/utf8.first", "unicode/utf8.acceptRanges", "internal/bytealg.MaxLen"], apart := false, laid := [("unicode/utf8.acceptRanges", laid_unicode_utf8_acceptRanges), ("unicode/utf8.first", laid_unicode_utf8_first)], narrowed := true }
def AnswerKeepsUptoSaid : Prop := answerKeepsUptoRow.holds Tryz.pinned (OpenSpec.upto answerKeepsSpec)

end Rows
end Go.Proofs.YtmgaeedkcecckaaGreatDoor
