/-
  No cell of these rows narrows 'for every input' (looked for: loops, veiled, ifaces, maps, wideKeys, modest, calm, conditions, laid).
  DERIVED. THE GIVEN ROWS OF THIS SEAT. 6 by the template 'for every input the law returns true; each argument reads behind the call as it read before'; 0 by the template 'total and deterministic' (their statements: YthdkhnjnhhofgaaTotals.lean).
  GIVEN WITH THE SEED: the statements are not yours to turn. If you find one false, say at which input.
  Laid BY PROGRAM, IN A SANDBOX (cutbox-rows.mjs): the forced cells as the released guide's own fill.sh prints them over the translation cee3fce7fe9efbbd… (all of the seat's roots in one cut). By AI agents, Wed Nov 11 2026. No macro, syntax, notation, axiom, sorry.
-/
import Derived.Test.YthdkhnjnhhofgaaChecked
import GoSem.Claim
import GoSem.ClaimJoined
import GoSem.ClaimMapViews
import Derived.JoinedTies
import Derived.KernelRfl
namespace Go.Proofs.Ythdkhnjnhhofgaa
/- THE CELL 'sum', in the pinned program and in every row, IS THE sha256 OF THE DUMP (.gsa) THAT YthdkhnjnhhofgaaProg.lean LOADS. Nothing in Lean hashes anything: it is a label: what it is worth is what the hold of that sum in a sandbox is worth. -/
noncomputable def Try.pinned : Pinned := { name := "ythdkhnjnhhofgaa", sum := "cee3fce7fe9efbbdd536bdfdc5e6a0206602a7567406c9058e1d747b1ec78bb9", checked := Try.checked }
namespace Rows
def none {H : Type} : Left H := { results := [], args := [] }

/-- 'cocyclelaw21.DiagramDistances': WHATEVER THE INPUT: true; the input reads as it did. -/
def diagramDistancesSpec : ChangeSpec := { name := "diagramDistances", fn := fun _ => fun
  | [d1, d2, d3] => { results := [.lit (.bool true)], args := [d1, d2, d3] }
  | _ => none }
def diagramDistancesRow : OpenClaim := { program := "ythdkhnjnhhofgaa", sum := "cee3fce7fe9efbbdd536bdfdc5e6a0206602a7567406c9058e1d747b1ec78bb9", func := "cocycle/cocyclelaw21.DiagramDistances", spec := "diagramDistances", unfollowed := true, recurses := true, plainKeys := false, apart := false }
def DiagramDistancesSaid : Prop := diagramDistancesRow.holds Try.pinned (OpenSpec.ofChange diagramDistancesSpec)

/-- ITS FALSE NEIGHBOUR: 'it returns false'. Refute it at one input. -/
def diagramDistancesWrong : ChangeSpec := { name := "diagramDistances", fn := fun _ => fun
  | [d1, d2, d3] => { results := [.lit (.bool false)], args := [d1, d2, d3] }
  | _ => none }
def DiagramDistancesWrongFalsely : Prop := diagramDistancesRow.holds Try.pinned (OpenSpec.ofChange diagramDistancesWrong)

/-- 'cocyclelaw21.DiagramSmall': WHATEVER THE INPUT: true; the input reads as it did. -/
def diagramSmallSpec : ChangeSpec := { name := "diagramSmall", fn := fun _ => fun
  | [d1, d2] => { results := [.lit (.bool true)], args := [d1, d2] }
  | _ => none }
def diagramSmallRow : OpenClaim := { program := "ythdkhnjnhhofgaa", sum := "cee3fce7fe9efbbdd536bdfdc5e6a0206602a7567406c9058e1d747b1ec78bb9", func := "cocycle/cocyclelaw21.DiagramSmall", spec := "diagramSmall", unfollowed := true, recurses := true, plainKeys := false, apart := false }
def DiagramSmallSaid : Prop := diagramSmallRow.holds Try.pinned (OpenSpec.ofChange diagramSmallSpec)

/-- ITS FALSE NEIGHBOUR: 'it returns false'. Refute it at one input. -/
def diagramSmallWrong : ChangeSpec := { name := "diagramSmall", fn := fun _ => fun
  | [d1, d2] => { results := [.lit (.bool false)], args := [d1, d2] }
  | _ => none }
def DiagramSmallWrongFalsely : Prop := diagramSmallRow.holds Try.pinned (OpenSpec.ofChange diagramSmallWrong)

/-- 'cocyclelaw21.DiagramShifted': WHATEVER THE INPUT: true; the input reads as it did. -/
def diagramShiftedSpec : ChangeSpec := { name := "diagramShifted", fn := fun _ => fun
  | [d1, d2] => { results := [.lit (.bool true)], args := [d1, d2] }
  | _ => none }
def diagramShiftedRow : OpenClaim := { program := "ythdkhnjnhhofgaa", sum := "cee3fce7fe9efbbdd536bdfdc5e6a0206602a7567406c9058e1d747b1ec78bb9", func := "cocycle/cocyclelaw21.DiagramShifted", spec := "diagramShifted", unfollowed := true, recurses := true, plainKeys := false, apart := false }
def DiagramShiftedSaid : Prop := diagramShiftedRow.holds Try.pinned (OpenSpec.ofChange diagramShiftedSpec)

/-- ITS FALSE NEIGHBOUR: 'it returns false'. Refute it at one input. -/
def diagramShiftedWrong : ChangeSpec := { name := "diagramShifted", fn := fun _ => fun
  | [d1, d2] => { results := [.lit (.bool false)], args := [d1, d2] }
  | _ => none }
def DiagramShiftedWrongFalsely : Prop := diagramShiftedRow.holds Try.pinned (OpenSpec.ofChange diagramShiftedWrong)

/-- 'cocyclelaw21.DiagramOrder': WHATEVER THE INPUT: true; the input reads as it did. -/
def diagramOrderSpec : ChangeSpec := { name := "diagramOrder", fn := fun _ => fun
  | [d1, d2] => { results := [.lit (.bool true)], args := [d1, d2] }
  | _ => none }
def diagramOrderRow : OpenClaim := { program := "ythdkhnjnhhofgaa", sum := "cee3fce7fe9efbbdd536bdfdc5e6a0206602a7567406c9058e1d747b1ec78bb9", func := "cocycle/cocyclelaw21.DiagramOrder", spec := "diagramOrder", unfollowed := true, recurses := true, plainKeys := false, apart := false }
def DiagramOrderSaid : Prop := diagramOrderRow.holds Try.pinned (OpenSpec.ofChange diagramOrderSpec)

/-- ITS FALSE NEIGHBOUR: 'it returns false'. Refute it at one input. -/
def diagramOrderWrong : ChangeSpec := { name := "diagramOrder", fn := fun _ => fun
  | [d1, d2] => { results := [.lit (.bool false)], args := [d1, d2] }
  | _ => none }
def DiagramOrderWrongFalsely : Prop := diagramOrderRow.holds Try.pinned (OpenSpec.ofChange diagramOrderWrong)

/-- 'cocyclelaw21.DiagramMetric': WHATEVER THE INPUT: true; the input reads as it did. -/
def diagramMetricSpec : ChangeSpec := { name := "diagramMetric", fn := fun _ => fun
  | [d1, d2, d3] => { results := [.lit (.bool true)], args := [d1, d2, d3] }
  | _ => none }
def diagramMetricRow : OpenClaim := { program := "ythdkhnjnhhofgaa", sum := "cee3fce7fe9efbbdd536bdfdc5e6a0206602a7567406c9058e1d747b1ec78bb9", func := "cocycle/cocyclelaw21.DiagramMetric", spec := "diagramMetric", unfollowed := true, recurses := true, plainKeys := false, apart := false }
def DiagramMetricSaid : Prop := diagramMetricRow.holds Try.pinned (OpenSpec.ofChange diagramMetricSpec)

/-- ITS FALSE NEIGHBOUR: 'it returns false'. Refute it at one input. -/
def diagramMetricWrong : ChangeSpec := { name := "diagramMetric", fn := fun _ => fun
  | [d1, d2, d3] => { results := [.lit (.bool false)], args := [d1, d2, d3] }
  | _ => none }
def DiagramMetricWrongFalsely : Prop := diagramMetricRow.holds Try.pinned (OpenSpec.ofChange diagramMetricWrong)

/-- 'cocyclelaw21.DiagramSame': WHATEVER THE INPUT: true; the input reads as it did. -/
def diagramSameSpec : ChangeSpec := { name := "diagramSame", fn := fun _ => fun
  | [d1, d2, d3] => { results := [.lit (.bool true)], args := [d1, d2, d3] }
  | _ => none }
def diagramSameRow : OpenClaim := { program := "ythdkhnjnhhofgaa", sum := "cee3fce7fe9efbbdd536bdfdc5e6a0206602a7567406c9058e1d747b1ec78bb9", func := "cocycle/cocyclelaw21.DiagramSame", spec := "diagramSame", unfollowed := true, recurses := true, plainKeys := false, apart := false }
def DiagramSameSaid : Prop := diagramSameRow.holds Try.pinned (OpenSpec.ofChange diagramSameSpec)

/-- ITS FALSE NEIGHBOUR: 'it returns false'. Refute it at one input. -/
def diagramSameWrong : ChangeSpec := { name := "diagramSame", fn := fun _ => fun
  | [d1, d2, d3] => { results := [.lit (.bool false)], args := [d1, d2, d3] }
  | _ => none }
def DiagramSameWrongFalsely : Prop := diagramSameRow.holds Try.pinned (OpenSpec.ofChange diagramSameWrong)

/- THE SECOND FORM. 'bulk': how many values and letters a reading holds, each counted each time it is reached (what is shared counts as often as it is met; a slice's spare places count too). A statement '..UptoSaid' is the law's where the arguments, and the package variables that the reading takes, are together of bulk at most 1048576: NARROWER than '..Said'. Prove '..Said' where nothing that the law and all that it calls make is longer than what came in: it says more and counts as full. Else prove '..UptoSaid'. A law counts once. -/
mutual
def uptoBulk {H : Type} : DataW H → Nat
  | .lit (.string bytes) => bytes.length + 1
  | .lit _ => 1
  | .nil => 1
  | .ptr d => uptoBulk d + 1
  | .slice elems spare => uptoBulkAll elems + uptoBulkAll spare + 1
  | .agg parts => uptoBulkAll parts + 1
  | .iface _ d => uptoBulk d + 1
  | .map entries => uptoBulkEntries entries + 1
  | .held _ => 1
def uptoBulkAll {H : Type} : List (DataW H) → Nat
  | [] => 0
  | d :: r => uptoBulk d + uptoBulkAll r
def uptoBulkEntries {H : Type} : List (Lit × DataW H) → Nat
  | [] => 0
  | x :: r => uptoBulkEntry x + uptoBulkEntries r
def uptoBulkEntry {H : Type} : Lit × DataW H → Nat
  | (.string bytes, d) => bytes.length + uptoBulk d + 1
  | (_, d) => uptoBulk d + 1
 end
def uptoSmall : (H : Type) → List (DataW H) → Bool := fun _ ds => decide (uptoBulkAll ds ≤ 1048576)
def OpenSpec.upto (s : _root_.Go.ChangeSpec) : _root_.Go.OpenSpec := { _root_.Go.OpenSpec.ofChange s with cond := some uptoSmall }

/-- 'cocyclelaw21.DiagramDistances', WHERE WHAT IT READS IS OF BULK AT MOST 1048576: true; the input reads as it did. -/
def diagramDistancesUptoRow : OpenClaim := { program := "ythdkhnjnhhofgaa", sum := "cee3fce7fe9efbbdd536bdfdc5e6a0206602a7567406c9058e1d747b1ec78bb9", func := "cocycle/cocyclelaw21.DiagramDistances", spec := "diagramDistances", unfollowed := true, recurses := true, plainKeys := false, apart := false, narrowed := true }
def DiagramDistancesUptoSaid : Prop := diagramDistancesUptoRow.holds Try.pinned (OpenSpec.upto diagramDistancesSpec)

/-- 'cocyclelaw21.DiagramSmall', WHERE WHAT IT READS IS OF BULK AT MOST 1048576: true; the input reads as it did. -/
def diagramSmallUptoRow : OpenClaim := { program := "ythdkhnjnhhofgaa", sum := "cee3fce7fe9efbbdd536bdfdc5e6a0206602a7567406c9058e1d747b1ec78bb9", func := "cocycle/cocyclelaw21.DiagramSmall", spec := "diagramSmall", unfollowed := true, recurses := true, plainKeys := false, apart := false, narrowed := true }
def DiagramSmallUptoSaid : Prop := diagramSmallUptoRow.holds Try.pinned (OpenSpec.upto diagramSmallSpec)

/-- 'cocyclelaw21.DiagramShifted', WHERE WHAT IT READS IS OF BULK AT MOST 1048576: true; the input reads as it did. -/
def diagramShiftedUptoRow : OpenClaim := { program := "ythdkhnjnhhofgaa", sum := "cee3fce7fe9efbbdd536bdfdc5e6a0206602a7567406c9058e1d747b1ec78bb9", func := "cocycle/cocyclelaw21.DiagramShifted", spec := "diagramShifted", unfollowed := true, recurses := true, plainKeys := false, apart := false, narrowed := true }
def DiagramShiftedUptoSaid : Prop := diagramShiftedUptoRow.holds Try.pinned (OpenSpec.upto diagramShiftedSpec)

/-- 'cocyclelaw21.DiagramOrder', WHERE WHAT IT READS IS OF BULK AT MOST 1048576: true; the input reads as it did. -/
def diagramOrderUptoRow : OpenClaim := { program := "ythdkhnjnhhofgaa", sum := "cee3fce7fe9efbbdd536bdfdc5e6a0206602a7567406c9058e1d747b1ec78bb9", func := "cocycle/cocyclelaw21.DiagramOrder", spec := "diagramOrder", unfollowed := true, recurses := true, plainKeys := false, apart := false, narrowed := true }
def DiagramOrderUptoSaid : Prop := diagramOrderUptoRow.holds Try.pinned (OpenSpec.upto diagramOrderSpec)

/-- 'cocyclelaw21.DiagramMetric', WHERE WHAT IT READS IS OF BULK AT MOST 1048576: true; the input reads as it did. -/
def diagramMetricUptoRow : OpenClaim := { program := "ythdkhnjnhhofgaa", sum := "cee3fce7fe9efbbdd536bdfdc5e6a0206602a7567406c9058e1d747b1ec78bb9", func := "cocycle/cocyclelaw21.DiagramMetric", spec := "diagramMetric", unfollowed := true, recurses := true, plainKeys := false, apart := false, narrowed := true }
def DiagramMetricUptoSaid : Prop := diagramMetricUptoRow.holds Try.pinned (OpenSpec.upto diagramMetricSpec)

/-- 'cocyclelaw21.DiagramSame', WHERE WHAT IT READS IS OF BULK AT MOST 1048576: true; the input reads as it did. -/
def diagramSameUptoRow : OpenClaim := { program := "ythdkhnjnhhofgaa", sum := "cee3fce7fe9efbbdd536bdfdc5e6a0206602a7567406c9058e1d747b1ec78bb9", func := "cocycle/cocyclelaw21.DiagramSame", spec := "diagramSame", unfollowed := true, recurses := true, plainKeys := false, apart := false, narrowed := true }
def DiagramSameUptoSaid : Prop := diagramSameUptoRow.holds Try.pinned (OpenSpec.upto diagramSameSpec)

end Rows
end Go.Proofs.Ythdkhnjnhhofgaa
