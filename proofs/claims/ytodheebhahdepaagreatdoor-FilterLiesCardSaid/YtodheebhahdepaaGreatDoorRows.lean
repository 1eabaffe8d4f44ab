/-
  NARROWER THAN 'FOR EVERY INPUT', by the rows' own cells (each row's printed sentence says how): FilterPersists: laid · FilterCounts: laid · FilterBars: laid · FilterMoves: laid · FilterChecks: laid · FilterLevels: laid · FilterLies: laid · FilterReduces: laid · DiagramBetti: laid.
  DERIVED. THE GIVEN ROWS OF THIS SEAT. 9 by the template 'for every input the law returns true; each argument reads behind the call as it read before'; 0 by the template 'total and deterministic' (their statements: YtodheebhahdepaaGreatDoorTotals.lean).
  GIVEN WITH THE SEED: the statements are not yours to turn. If you find one false, say at which input.
  Laid BY PROGRAM, IN A SANDBOX (cutbox-rows.mjs): the forced cells as the released guide's own fill.sh prints them over the translation 7b0c888fc8c44956… (all of the seat's roots in one cut). By AI agents, Wed Nov 11 2026. No macro, syntax, notation, axiom, sorry.
-/
import Derived.Test.YtodheebhahdepaaGreatDoorChecked
import GoSem.PinnedTables
import GoSem.Claim
import GoSem.ClaimJoined
import GoSem.ClaimMapViews
import Derived.JoinedTies
import Derived.KernelRfl
namespace Go.Proofs.YtodheebhahdepaaGreatDoor
/- THE CELL 'sum', in the pinned program and in every row, IS THE sha256 OF THE DUMP (.gsa) THAT YtodheebhahdepaaGreatDoorProg.lean LOADS. Nothing in Lean hashes anything: it is a label: what it is worth is what the hold of that sum in a sandbox is worth. -/
noncomputable def Tryz.pinned : Pinned := { name := "ytodheebhahdepaagreatdoor", sum := "7b0c888fc8c44956ebabe5c2095e347be9d69760ae9cc16e6ca2da986bce889c", checked := Tryz.checked }
namespace Rows
def none {H : Type} : Left H := { results := [], args := [] }

/- WHAT THE LISTED PACKAGE-LEVEL VARIABLES READ AS WHEN THE CALL BEGINS. Each datum BY PROGRAM (the guide's laid-datum.mjs) off the statement by which the dump's own 'gosem.cut.vars' lays the variable. In a bare row this is a premise. The card (YtodheebhahdepaaGreatDoorCards.lean) ties it to the program's text. -/
def laid_unicode_utf8_acceptRanges {H : Type} : DataW H := .agg [.agg [.lit (.int .u8 128), .lit (.int .u8 191)], .agg [.lit (.int .u8 160), .lit (.int .u8 191)], .agg [.lit (.int .u8 128), .lit (.int .u8 159)], .agg [.lit (.int .u8 144), .lit (.int .u8 191)], .agg [.lit (.int .u8 128), .lit (.int .u8 143)], .agg [.lit (.int .u8 0), .lit (.int .u8 0)], .agg [.lit (.int .u8 0), .lit (.int .u8 0)], .agg [.lit (.int .u8 0), .lit (.int .u8 0)], .agg [.lit (.int .u8 0), .lit (.int .u8 0)], .agg [.lit (.int .u8 0), .lit (.int .u8 0)], .agg [.lit (.int .u8 0), .lit (.int .u8 0)], .agg [.lit (.int .u8 0), .lit (.int .u8 0)], .agg [.lit (.int .u8 0), .lit (.int .u8 0)], .agg [.lit (.int .u8 0), .lit (.int .u8 0)], .agg [.lit (.int .u8 0), .lit (.int .u8 0)], .agg [.lit (.int .u8 0), .lit (.int .u8 0)]]
/-- One of Go's own tables, pinned by name: the form's constant. -/
def laid_unicode_utf8_first : DataW Unit := Go.Pinned.utf8First

/-- 'cocyclelaw20.FilterPersists': WHATEVER THE INPUT: true; the input reads as it did. -/
def filterPersistsSpec : ChangeSpec := { name := "filterPersists", fn := fun _ => fun
  | [d1, d2, d3] => { results := [.lit (.bool true)], args := [d1, d2, d3] }
  | _ => none }
def filterPersistsRow : OpenClaim := { program := "ytodheebhahdepaagreatdoor", sum := "7b0c888fc8c44956ebabe5c2095e347be9d69760ae9cc16e6ca2da986bce889c", func := "cocycle/cocyclelaw20.FilterPersists", spec := "filterPersists", inPlace := ["internal/bytealg.IndexByteString", "internal/bytealg.IndexString"], unfollowed := true, recurses := true, named := ["unicode/utf8.first", "unicode/utf8.acceptRanges", "internal/bytealg.MaxLen"], apart := false, laid := [("unicode/utf8.acceptRanges", laid_unicode_utf8_acceptRanges), ("unicode/utf8.first", laid_unicode_utf8_first)] }
def FilterPersistsSaid : Prop := filterPersistsRow.holds Tryz.pinned (OpenSpec.ofChange filterPersistsSpec)

/-- ITS FALSE NEIGHBOUR: 'it returns false'. Refute it at one input. -/
def filterPersistsWrong : ChangeSpec := { name := "filterPersists", fn := fun _ => fun
  | [d1, d2, d3] => { results := [.lit (.bool false)], args := [d1, d2, d3] }
  | _ => none }
def FilterPersistsWrongFalsely : Prop := filterPersistsRow.holds Tryz.pinned (OpenSpec.ofChange filterPersistsWrong)

/-- 'cocyclelaw20.FilterCounts': WHATEVER THE INPUT: true; the input reads as it did. -/
def filterCountsSpec : ChangeSpec := { name := "filterCounts", fn := fun _ => fun
  | [d1, d2, d3] => { results := [.lit (.bool true)], args := [d1, d2, d3] }
  | _ => none }
def filterCountsRow : OpenClaim := { program := "ytodheebhahdepaagreatdoor", sum := "7b0c888fc8c44956ebabe5c2095e347be9d69760ae9cc16e6ca2da986bce889c", func := "cocycle/cocyclelaw20.FilterCounts", spec := "filterCounts", inPlace := ["internal/bytealg.IndexByteString", "internal/bytealg.IndexString"], unfollowed := true, recurses := true, named := ["unicode/utf8.first", "unicode/utf8.acceptRanges", "internal/bytealg.MaxLen"], apart := false, laid := [("unicode/utf8.acceptRanges", laid_unicode_utf8_acceptRanges), ("unicode/utf8.first", laid_unicode_utf8_first)] }
def FilterCountsSaid : Prop := filterCountsRow.holds Tryz.pinned (OpenSpec.ofChange filterCountsSpec)

/-- ITS FALSE NEIGHBOUR: 'it returns false'. Refute it at one input. -/
def filterCountsWrong : ChangeSpec := { name := "filterCounts", fn := fun _ => fun
  | [d1, d2, d3] => { results := [.lit (.bool false)], args := [d1, d2, d3] }
  | _ => none }
def FilterCountsWrongFalsely : Prop := filterCountsRow.holds Tryz.pinned (OpenSpec.ofChange filterCountsWrong)

/-- 'cocyclelaw20.FilterBars': WHATEVER THE INPUT: true; the input reads as it did. -/
def filterBarsSpec : ChangeSpec := { name := "filterBars", fn := fun _ => fun
  | [d1, d2, d3] => { results := [.lit (.bool true)], args := [d1, d2, d3] }
  | _ => none }
def filterBarsRow : OpenClaim := { program := "ytodheebhahdepaagreatdoor", sum := "7b0c888fc8c44956ebabe5c2095e347be9d69760ae9cc16e6ca2da986bce889c", func := "cocycle/cocyclelaw20.FilterBars", spec := "filterBars", inPlace := ["internal/bytealg.IndexByteString", "internal/bytealg.IndexString"], unfollowed := true, recurses := true, named := ["unicode/utf8.first", "unicode/utf8.acceptRanges", "internal/bytealg.MaxLen"], apart := false, laid := [("unicode/utf8.acceptRanges", laid_unicode_utf8_acceptRanges), ("unicode/utf8.first", laid_unicode_utf8_first)] }
def FilterBarsSaid : Prop := filterBarsRow.holds Tryz.pinned (OpenSpec.ofChange filterBarsSpec)

/-- ITS FALSE NEIGHBOUR: 'it returns false'. Refute it at one input. -/
def filterBarsWrong : ChangeSpec := { name := "filterBars", fn := fun _ => fun
  | [d1, d2, d3] => { results := [.lit (.bool false)], args := [d1, d2, d3] }
  | _ => none }
def FilterBarsWrongFalsely : Prop := filterBarsRow.holds Tryz.pinned (OpenSpec.ofChange filterBarsWrong)

/-- 'cocyclelaw20.FilterMoves': WHATEVER THE INPUT: true; the input reads as it did. -/
def filterMovesSpec : ChangeSpec := { name := "filterMoves", fn := fun _ => fun
  | [d1, d2, d3] => { results := [.lit (.bool true)], args := [d1, d2, d3] }
  | _ => none }
def filterMovesRow : OpenClaim := { program := "ytodheebhahdepaagreatdoor", sum := "7b0c888fc8c44956ebabe5c2095e347be9d69760ae9cc16e6ca2da986bce889c", func := "cocycle/cocyclelaw20.FilterMoves", spec := "filterMoves", inPlace := ["internal/bytealg.IndexByteString", "internal/bytealg.IndexString"], unfollowed := true, recurses := true, named := ["unicode/utf8.first", "unicode/utf8.acceptRanges", "internal/bytealg.MaxLen"], apart := false, laid := [("unicode/utf8.acceptRanges", laid_unicode_utf8_acceptRanges), ("unicode/utf8.first", laid_unicode_utf8_first)] }
def FilterMovesSaid : Prop := filterMovesRow.holds Tryz.pinned (OpenSpec.ofChange filterMovesSpec)

/-- ITS FALSE NEIGHBOUR: 'it returns false'. Refute it at one input. -/
def filterMovesWrong : ChangeSpec := { name := "filterMoves", fn := fun _ => fun
  | [d1, d2, d3] => { results := [.lit (.bool false)], args := [d1, d2, d3] }
  | _ => none }
def FilterMovesWrongFalsely : Prop := filterMovesRow.holds Tryz.pinned (OpenSpec.ofChange filterMovesWrong)

/-- 'cocyclelaw20.FilterChecks': WHATEVER THE INPUT: true; the input reads as it did. -/
def filterChecksSpec : ChangeSpec := { name := "filterChecks", fn := fun _ => fun
  | [d1, d2, d3] => { results := [.lit (.bool true)], args := [d1, d2, d3] }
  | _ => none }
def filterChecksRow : OpenClaim := { program := "ytodheebhahdepaagreatdoor", sum := "7b0c888fc8c44956ebabe5c2095e347be9d69760ae9cc16e6ca2da986bce889c", func := "cocycle/cocyclelaw20.FilterChecks", spec := "filterChecks", inPlace := ["internal/bytealg.IndexByteString", "internal/bytealg.IndexString"], unfollowed := true, recurses := true, named := ["unicode/utf8.first", "unicode/utf8.acceptRanges", "internal/bytealg.MaxLen"], apart := false, laid := [("unicode/utf8.acceptRanges", laid_unicode_utf8_acceptRanges), ("unicode/utf8.first", laid_unicode_utf8_first)] }
def FilterChecksSaid : Prop := filterChecksRow.holds Tryz.pinned (OpenSpec.ofChange filterChecksSpec)

/-- ITS FALSE NEIGHBOUR: 'it returns false'. Refute it at one input. -/
def filterChecksWrong : ChangeSpec := { name := "filterChecks", fn := fun _ => fun
  | [d1, d2, d3] => { results := [.lit (.bool false)], args := [d1, d2, d3] }
  | _ => none }
def FilterChecksWrongFalsely : Prop := filterChecksRow.holds Tryz.pinned (OpenSpec.ofChange filterChecksWrong)

/-- 'cocyclelaw20.FilterLevels': WHATEVER THE INPUT: true; the input reads as it did. -/
def filterLevelsSpec : ChangeSpec := { name := "filterLevels", fn := fun _ => fun
  | [d1, d2, d3] => { results := [.lit (.bool true)], args := [d1, d2, d3] }
  | _ => none }
def filterLevelsRow : OpenClaim := { program := "ytodheebhahdepaagreatdoor", sum := "7b0c888fc8c44956ebabe5c2095e347be9d69760ae9cc16e6ca2da986bce889c", func := "cocycle/cocyclelaw20.FilterLevels", spec := "filterLevels", inPlace := ["internal/bytealg.IndexByteString", "internal/bytealg.IndexString"], unfollowed := true, recurses := true, named := ["unicode/utf8.first", "unicode/utf8.acceptRanges", "internal/bytealg.MaxLen"], apart := false, laid := [("unicode/utf8.acceptRanges", laid_unicode_utf8_acceptRanges), ("unicode/utf8.first", laid_unicode_utf8_first)] }
def FilterLevelsSaid : Prop := filterLevelsRow.holds Tryz.pinned (OpenSpec.ofChange filterLevelsSpec)

/-- ITS FALSE NEIGHBOUR: 'it returns false'. Refute it at one input. -/
def filterLevelsWrong : ChangeSpec := { name := "filterLevels", fn := fun _ => fun
  | [d1, d2, d3] => { results := [.lit (.bool false)], args := [d1, d2, d3] }
  | _ => none }
def FilterLevelsWrongFalsely : Prop := filterLevelsRow.holds Tryz.pinned (OpenSpec.ofChange filterLevelsWrong)

/-- 'cocyclelaw20.FilterLies': WHATEVER THE INPUT: true; the input reads as it did. -/
def filterLiesSpec : ChangeSpec := { name := "filterLies", fn := fun _ => fun
  | [d1, d2, d3] => { results := [.lit (.bool true)], args := [d1, d2, d3] }
  | _ => none }
def filterLiesRow : OpenClaim := { program := "ytodheebhahdepaagreatdoor", sum := "7b0c888fc8c44956ebabe5c2095e347be9d69760ae9cc16e6ca2da986bce889c", func := "cocycle/cocyclelaw20.FilterLies", spec := "filterLies", inPlace := ["internal/bytealg.IndexByteString", "internal/bytealg.IndexString"], unfollowed := true, recurses := true, named := ["unicode/utf8.first", "unicode/utf8.acceptRanges", "internal/bytealg.MaxLen"], apart := false, laid := [("unicode/utf8.acceptRanges", laid_unicode_utf8_acceptRanges), ("unicode/utf8.first", laid_unicode_utf8_first)] }
def FilterLiesSaid : Prop := filterLiesRow.holds Tryz.pinned (OpenSpec.ofChange filterLiesSpec)

/-- ITS FALSE NEIGHBOUR: 'it returns false'. Refute it at one input. -/
def filterLiesWrong : ChangeSpec := { name := "filterLies", fn := fun _ => fun
  | [d1, d2, d3] => { results := [.lit (.bool false)], args := [d1, d2, d3] }
  | _ => none }
def FilterLiesWrongFalsely : Prop := filterLiesRow.holds Tryz.pinned (OpenSpec.ofChange filterLiesWrong)

/-- 'cocyclelaw20.FilterReduces': WHATEVER THE INPUT: true; the input reads as it did. -/
def filterReducesSpec : ChangeSpec := { name := "filterReduces", fn := fun _ => fun
  | [d1, d2, d3] => { results := [.lit (.bool true)], args := [d1, d2, d3] }
  | _ => none }
def filterReducesRow : OpenClaim := { program := "ytodheebhahdepaagreatdoor", sum := "7b0c888fc8c44956ebabe5c2095e347be9d69760ae9cc16e6ca2da986bce889c", func := "cocycle/cocyclelaw20.FilterReduces", spec := "filterReduces", inPlace := ["internal/bytealg.IndexByteString", "internal/bytealg.IndexString"], unfollowed := true, recurses := true, named := ["unicode/utf8.first", "unicode/utf8.acceptRanges", "internal/bytealg.MaxLen"], apart := false, laid := [("unicode/utf8.acceptRanges", laid_unicode_utf8_acceptRanges), ("unicode/utf8.first", laid_unicode_utf8_first)] }
def FilterReducesSaid : Prop := filterReducesRow.holds Tryz.pinned (OpenSpec.ofChange filterReducesSpec)

/-- ITS FALSE NEIGHBOUR: 'it returns false'. Refute it at one input. -/
def filterReducesWrong : ChangeSpec := { name := "filterReduces", fn := fun _ => fun
  | [d1, d2, d3] => { results := [.lit (.bool false)], args := [d1, d2, d3] }
  | _ => none }
def FilterReducesWrongFalsely : Prop := filterReducesRow.holds Tryz.pinned (OpenSpec.ofChange filterReducesWrong)

/-- 'cocyclelaw21.DiagramBetti': WHATEVER THE INPUT: true; the input reads as it did. -/
def diagramBettiSpec : ChangeSpec := { name := "diagramBetti", fn := fun _ => fun
  | [d1, d2, d3] => { results := [.lit (.bool true)], args := [d1, d2, d3] }
  | _ => none }
def diagramBettiRow : OpenClaim := { program := "ytodheebhahdepaagreatdoor", sum := "7b0c888fc8c44956ebabe5c2095e347be9d69760ae9cc16e6ca2da986bce889c", func := "cocycle/cocyclelaw21.DiagramBetti", spec := "diagramBetti", inPlace := ["internal/bytealg.IndexByteString", "internal/bytealg.IndexString"], unfollowed := true, recurses := true, named := ["unicode/utf8.first", "unicode/utf8.acceptRanges", "internal/bytealg.MaxLen"], apart := false, laid := [("unicode/utf8.acceptRanges", laid_unicode_utf8_acceptRanges), ("unicode/utf8.first", laid_unicode_utf8_first)] }
def DiagramBettiSaid : Prop := diagramBettiRow.holds Tryz.pinned (OpenSpec.ofChange diagramBettiSpec)

/-- ITS FALSE NEIGHBOUR: 'it returns false'. Refute it at one input. -/
def diagramBettiWrong : ChangeSpec := { name := "diagramBetti", fn := fun _ => fun
  | [d1, d2, d3] => { results := [.lit (.bool false)], args := [d1, d2, d3] }
  | _ => none }
def DiagramBettiWrongFalsely : Prop := diagramBettiRow.holds Tryz.pinned (OpenSpec.ofChange diagramBettiWrong)

/- THE SECOND FORM. 'bulk': how many values and letters a reading holds, each counted each time it is reached (what is shared counts as often as it is met; a slice's spare places count too). A statement '..UptoSaid' is the law's where the arguments, and the package variables that the reading takes, are together of bulk at most 1048576: NARROWER than '..Said'. Prove '..Said' where nothing that the law and all that it calls make is longer than what came in: it says more and counts as full. Else prove '..UptoSaid'. A law counts once. -/
mutual
def uptoBulk {H : Type} : DataW H → Nat
  | .lit (.string bytes) => bytes.length + 1
  | .lit _ => 1
  | .nil => 1
  | .ptr d => uptoBulk d + 1
  | .slice elems spare => uptoBulkAll elems + uptoBulkAll spare + 1
  | .agg parts => uptoBulkAll parts + 1
  | .iface _ d => uptoBulk d + 1
  | .map entries => uptoBulkEntries entries + 1
  | .held _ => 1
def uptoBulkAll {H : Type} : List (DataW H) → Nat
  | [] => 0
  | d :: r => uptoBulk d + uptoBulkAll r
def uptoBulkEntries {H : Type} : List (Lit × DataW H) → Nat
  | [] => 0
  | x :: r => uptoBulkEntry x + uptoBulkEntries r
def uptoBulkEntry {H : Type} : Lit × DataW H → Nat
  | (.string bytes, d) => bytes.length + uptoBulk d + 1
  | (_, d) => uptoBulk d + 1
 end
def uptoSmall : (H : Type) → List (DataW H) → Bool := fun _ ds => decide (uptoBulkAll ds ≤ 1048576)
def OpenSpec.upto (s : _root_.Go.ChangeSpec) : _root_.Go.OpenSpec := { _root_.Go.OpenSpec.ofChange s with cond := some uptoSmall }

/-- 'cocyclelaw20.FilterPersists', WHERE WHAT IT READS IS OF BULK AT MOST 1048576: true; the input reads as it did. -/
def filterPersistsUptoRow : OpenClaim := { program := "ytodheebhahdepaagreatdoor", sum := "7b0c888fc8c44956ebabe5c2095e347be9d69760ae9cc16e6ca2da986bce889c", func := "cocycle/cocyclelaw20.FilterPersists", spec := "filterPersists", inPlace := ["internal/bytealg.IndexByteString", "internal/bytealg.IndexString"], unfollowed := true, recurses := true, named := ["unicode/utf8.first", "unicode/utf8.acceptRanges", "internal/bytealg.MaxLen"], apart := false, laid := [("unicode/utf8.acceptRanges", laid_unicode_utf8_acceptRanges), ("unicode/utf8.first", laid_unicode_utf8_first)], narrowed := true }
def FilterPersistsUptoSaid : Prop := filterPersistsUptoRow.holds Tryz.pinned (OpenSpec.upto filterPersistsSpec)

/-- 'cocyclelaw20.FilterCounts', WHERE WHAT IT READS IS OF BULK AT MOST 1048576: true; the input reads as it did. -/
def filterCountsUptoRow : OpenClaim := { program := "ytodheebhahdepaagreatdoor", sum := "7b0c888fc8c44956ebabe5c2095e347be9d69760ae9cc16e6ca2da986bce889c", func := "cocycle/cocyclelaw20.FilterCounts", spec := "filterCounts", inPlace := ["internal/bytealg.IndexByteString", "internal/bytealg.IndexString"], unfollowed := true, recurses := true, named := ["unicode/utf8.first", "unicode/utf8.acceptRanges", "internal/bytealg.MaxLen"], apart := false, laid := [("unicode/utf8.acceptRanges", laid_unicode_utf8_acceptRanges), ("unicode/utf8.first", laid_unicode_utf8_first)], narrowed := true }
def FilterCountsUptoSaid : Prop := filterCountsUptoRow.holds Tryz.pinned (OpenSpec.upto filterCountsSpec)

/-- 'cocyclelaw20.FilterBars', WHERE WHAT IT READS IS OF BULK AT MOST 1048576: true; the input reads as it did. -/
def filterBarsUptoRow : OpenClaim := { program := "ytodheebhahdepaagreatdoor", sum := "7b0c888fc8c44956ebabe5c2095e347be9d69760ae9cc16e6ca2da986bce889c", func := "cocycle/cocyclelaw20.FilterBars", spec := "filterBars", inPlace := ["internal/bytealg.IndexByteString", "internal/bytealg.IndexString"], unfollowed := true, recurses := true, named := ["unicode/utf8.first", "unicode/utf8.acceptRanges", "internal/bytealg.MaxLen"], apart := false, laid := [("unicode/utf8.acceptRanges", laid_unicode_utf8_acceptRanges), ("unicode/utf8.first", laid_unicode_utf8_first)], narrowed := true }
def FilterBarsUptoSaid : Prop := filterBarsUptoRow.holds Tryz.pinned (OpenSpec.upto filterBarsSpec)

/-- 'cocyclelaw20.FilterMoves', WHERE WHAT IT READS IS OF BULK AT MOST 1048576: true; the input reads as it did. -/
def filterMovesUptoRow : OpenClaim := { program := "ytodheebhahdepaagreatdoor", sum := "7b0c888fc8c44956ebabe5c2095e347be9d69760ae9cc16e6ca2da986bce889c", func := "cocycle/cocyclelaw20.FilterMoves", spec := "filterMoves", inPlace := ["internal/bytealg.IndexByteString", "internal/bytealg.IndexString"], unfollowed := true, recurses := true, named := ["unicode/utf8.first", "unicode/utf8.acceptRanges", "internal/bytealg.MaxLen"], apart := false, laid := [("unicode/utf8.acceptRanges", laid_unicode_utf8_acceptRanges), ("unicode/utf8.first", laid_unicode_utf8_first)], narrowed := true }
def FilterMovesUptoSaid : Prop := filterMovesUptoRow.holds Tryz.pinned (OpenSpec.upto filterMovesSpec)

/-- 'cocyclelaw20.FilterChecks', WHERE WHAT IT READS IS OF BULK AT MOST 1048576: true; the input reads as it did. -/
def filterChecksUptoRow : OpenClaim := { program := "ytodheebhahdepaagreatdoor", sum := "7b0c888fc8c44956ebabe5c2095e347be9d69760ae9cc16e6ca2da986bce889c", func := "cocycle/cocyclelaw20.FilterChecks", spec := "filterChecks", inPlace := ["internal/bytealg.IndexByteString", "internal/bytealg.IndexString"], unfollowed := true, recurses := true, named := ["unicode/utf8.first", "unicode/utf8.acceptRanges", "internal/bytealg.MaxLen"], apart := false, laid := [("unicode/utf8.acceptRanges", laid_unicode_utf8_acceptRanges), ("unicode/utf8.first", laid_unicode_utf8_first)], narrowed := true }
def FilterChecksUptoSaid : Prop := filterChecksUptoRow.holds Tryz.pinned (OpenSpec.upto filterChecksSpec)

/-- 'cocyclelaw20.FilterLevels', WHERE WHAT IT READS IS OF BULK AT MOST 1048576: true; the input reads as it did. -/
def filterLevelsUptoRow : OpenClaim := { program := "ytodheebhahdepaagreatdoor", sum := "7b0c888fc8c44956ebabe5c2095e347be9d69760ae9cc16e6ca2da986bce889c", func := "cocycle/cocyclelaw20.FilterLevels", spec := "filterLevels", inPlace := ["internal/bytealg.IndexByteString", "internal/bytealg.IndexString"], unfollowed := true, recurses := true, named := ["unicode/utf8.first", "unicode/utf8.acceptRanges", "internal/bytealg.MaxLen"], apart := false, laid := [("unicode/utf8.acceptRanges", laid_unicode_utf8_acceptRanges), ("unicode/utf8.first", laid_unicode_utf8_first)], narrowed := true }
def FilterLevelsUptoSaid : Prop := filterLevelsUptoRow.holds Tryz.pinned (OpenSpec.upto filterLevelsSpec)

/-- 'cocyclelaw20.FilterLies', WHERE WHAT IT READS IS OF BULK AT MOST 1048576: true; the input reads as it did. -/
def filterLiesUptoRow : OpenClaim := { program := "ytodheebhahdepaagreatdoor", sum := "7b0c888fc8c44956ebabe5c2095e347be9d69760ae9cc16e6ca2da986bce889c", func := "cocycle/cocyclelaw20.FilterLies", spec := "filterLies", inPlace := ["internal/bytealg.IndexByteString", "internal/bytealg.IndexString"], unfollowed := true, recurses := true, named := ["unicode/utf8.first", "unicode/utf8.acceptRanges", "internal/bytealg.MaxLen"], apart := false, laid := [("unicode/utf8.acceptRanges", laid_unicode_utf8_acceptRanges), ("unicode/utf8.first", laid_unicode_utf8_first)], narrowed := true }
def FilterLiesUptoSaid : Prop := filterLiesUptoRow.holds Tryz.pinned (OpenSpec.upto filterLiesSpec)

/-- 'cocyclelaw20.FilterReduces', WHERE WHAT IT READS IS OF BULK AT MOST 1048576: true; the input reads as it did. -/
def filterReducesUptoRow : OpenClaim := { program := "ytodheebhahdepaagreatdoor", sum := "7b0c888fc8c44956ebabe5c2095e347be9d69760ae9cc16e6ca2da986bce889c", func := "cocycle/cocyclelaw20.FilterReduces", spec := "filterReduces", inPlace := ["internal/bytealg.IndexByteString", "internal/bytealg.IndexString"], unfollowed := true, recurses := true, named := ["unicode/utf8.first", "unicode/utf8.acceptRanges", "internal/bytealg.MaxLen"], apart := false, laid := [("unicode/utf8.acceptRanges", laid_unicode_utf8_acceptRanges), ("unicode/utf8.first", laid_unicode_utf8_first)], narrowed := true }
def FilterReducesUptoSaid : Prop := filterReducesUptoRow.holds Tryz.pinned (OpenSpec.upto filterReducesSpec)

/-- 'cocyclelaw21.DiagramBetti', WHERE WHAT IT READS IS OF BULK AT MOST 1048576: true; the input reads as it did. -/
def diagramBettiUptoRow : OpenClaim := { program := "ytodheebhahdepaagreatdoor", sum := "7b0c888fc8c44956ebabe5c2095e347be9d69760ae9cc16e6ca2da986bce889c", func := "cocycle/cocyclelaw21.DiagramBetti", spec := "diagramBetti", inPlace := ["internal/bytealg.IndexByteString", "internal/bytealg.IndexString"], unfollowed := true, recurses := true, named := ["unicode/utf8.first", "unicode/utf8.acceptRanges", "internal/bytealg.MaxLen"], apart := false, laid := [("unicode/utf8.acceptRanges", laid_unicode_utf8_acceptRanges), ("unicode/utf8.first", laid_unicode_utf8_first)], narrowed := true }
def DiagramBettiUptoSaid : Prop := diagramBettiUptoRow.holds Tryz.pinned (OpenSpec.upto diagramBettiSpec)

end Rows
end Go.Proofs.YtodheebhahdepaaGreatDoor
