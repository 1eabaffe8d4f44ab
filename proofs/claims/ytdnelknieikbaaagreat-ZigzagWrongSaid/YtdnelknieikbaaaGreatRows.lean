/-
  No cell of these rows narrows 'for every input' (looked for: loops, veiled, ifaces, maps, wideKeys, modest, calm, conditions, laid).
  DERIVED. THE GIVEN ROWS OF THIS SEAT. 11 by the template 'for every input the law returns true; each argument reads behind the call as it read before'; 0 by the template 'total and deterministic' (their statements: YtdnelknieikbaaaGreatTotals.lean).
  GIVEN WITH THE SEED: the statements are not yours to turn. If you find one false, say at which input.
  Laid BY PROGRAM, IN A SANDBOX (cutbox-rows.mjs): the forced cells as the released guide's own fill.sh prints them over the translation 1392e7ecc5927cb3… (all of the seat's roots in one cut). By AI agents, Wed Nov 11 2026. No macro, syntax, notation, axiom, sorry.
-/
import Derived.Test.YtdnelknieikbaaaGreatChecked
import GoSem.Claim
import GoSem.ClaimJoined
import GoSem.ClaimMapViews
import Derived.JoinedTies
import Derived.KernelRfl
namespace Go.Proofs.YtdnelknieikbaaaGreat
/- THE CELL 'sum', in the pinned program and in every row, IS THE sha256 OF THE DUMP (.gsa) THAT YtdnelknieikbaaaGreatProg.lean LOADS. Nothing in Lean hashes anything: it is a label: what it is worth is what the hold of that sum in a sandbox is worth. -/
noncomputable def Tryz.pinned : Pinned := { name := "ytdnelknieikbaaagreat", sum := "1392e7ecc5927cb389c859450dc4acb4b36dc6f8dc56e8832208b11c9c933649", checked := Tryz.checked }
namespace Rows
def none {H : Type} : Left H := { results := [], args := [] }

/-- 'cocyclelaw22.ZigzagBars': WHATEVER THE INPUT: true; the input reads as it did. -/
def zigzagBarsSpec : ChangeSpec := { name := "zigzagBars", fn := fun _ => fun
  | [d] => { results := [.lit (.bool true)], args := [d] }
  | _ => none }
def zigzagBarsRow : OpenClaim := { program := "ytdnelknieikbaaagreat", sum := "1392e7ecc5927cb389c859450dc4acb4b36dc6f8dc56e8832208b11c9c933649", func := "cocycle/cocyclelaw22.ZigzagBars", spec := "zigzagBars", unfollowed := true, recurses := true, plainKeys := false, apart := false }
def ZigzagBarsSaid : Prop := zigzagBarsRow.holds Tryz.pinned (OpenSpec.ofChange zigzagBarsSpec)

/-- ITS FALSE NEIGHBOUR: 'it returns false'. Refute it at one input. -/
def zigzagBarsWrong : ChangeSpec := { name := "zigzagBars", fn := fun _ => fun
  | [d] => { results := [.lit (.bool false)], args := [d] }
  | _ => none }
def ZigzagBarsWrongFalsely : Prop := zigzagBarsRow.holds Tryz.pinned (OpenSpec.ofChange zigzagBarsWrong)

/-- 'cocyclelaw22.ZigzagParts': WHATEVER THE INPUT: true; the input reads as it did. -/
def zigzagPartsSpec : ChangeSpec := { name := "zigzagParts", fn := fun _ => fun
  | [d1, d2, d3] => { results := [.lit (.bool true)], args := [d1, d2, d3] }
  | _ => none }
def zigzagPartsRow : OpenClaim := { program := "ytdnelknieikbaaagreat", sum := "1392e7ecc5927cb389c859450dc4acb4b36dc6f8dc56e8832208b11c9c933649", func := "cocycle/cocyclelaw22.ZigzagParts", spec := "zigzagParts", unfollowed := true, recurses := true, plainKeys := false, apart := false }
def ZigzagPartsSaid : Prop := zigzagPartsRow.holds Tryz.pinned (OpenSpec.ofChange zigzagPartsSpec)

/-- ITS FALSE NEIGHBOUR: 'it returns false'. Refute it at one input. -/
def zigzagPartsWrong : ChangeSpec := { name := "zigzagParts", fn := fun _ => fun
  | [d1, d2, d3] => { results := [.lit (.bool false)], args := [d1, d2, d3] }
  | _ => none }
def ZigzagPartsWrongFalsely : Prop := zigzagPartsRow.holds Tryz.pinned (OpenSpec.ofChange zigzagPartsWrong)

/-- 'cocyclelaw22.ZigzagBasis': WHATEVER THE INPUT: true; the input reads as it did. -/
def zigzagBasisSpec : ChangeSpec := { name := "zigzagBasis", fn := fun _ => fun
  | [d1, d2, d3] => { results := [.lit (.bool true)], args := [d1, d2, d3] }
  | _ => none }
def zigzagBasisRow : OpenClaim := { program := "ytdnelknieikbaaagreat", sum := "1392e7ecc5927cb389c859450dc4acb4b36dc6f8dc56e8832208b11c9c933649", func := "cocycle/cocyclelaw22.ZigzagBasis", spec := "zigzagBasis", unfollowed := true, recurses := true, plainKeys := false, apart := false }
def ZigzagBasisSaid : Prop := zigzagBasisRow.holds Tryz.pinned (OpenSpec.ofChange zigzagBasisSpec)

/-- ITS FALSE NEIGHBOUR: 'it returns false'. Refute it at one input. -/
def zigzagBasisWrong : ChangeSpec := { name := "zigzagBasis", fn := fun _ => fun
  | [d1, d2, d3] => { results := [.lit (.bool false)], args := [d1, d2, d3] }
  | _ => none }
def ZigzagBasisWrongFalsely : Prop := zigzagBasisRow.holds Tryz.pinned (OpenSpec.ofChange zigzagBasisWrong)

/-- 'cocyclelaw22.ZigzagSums': WHATEVER THE INPUT: true; the input reads as it did. -/
def zigzagSumsSpec : ChangeSpec := { name := "zigzagSums", fn := fun _ => fun
  | [d1, d2] => { results := [.lit (.bool true)], args := [d1, d2] }
  | _ => none }
def zigzagSumsRow : OpenClaim := { program := "ytdnelknieikbaaagreat", sum := "1392e7ecc5927cb389c859450dc4acb4b36dc6f8dc56e8832208b11c9c933649", func := "cocycle/cocyclelaw22.ZigzagSums", spec := "zigzagSums", unfollowed := true, recurses := true, plainKeys := false, apart := false }
def ZigzagSumsSaid : Prop := zigzagSumsRow.holds Tryz.pinned (OpenSpec.ofChange zigzagSumsSpec)

/-- ITS FALSE NEIGHBOUR: 'it returns false'. Refute it at one input. -/
def zigzagSumsWrong : ChangeSpec := { name := "zigzagSums", fn := fun _ => fun
  | [d1, d2] => { results := [.lit (.bool false)], args := [d1, d2] }
  | _ => none }
def ZigzagSumsWrongFalsely : Prop := zigzagSumsRow.holds Tryz.pinned (OpenSpec.ofChange zigzagSumsWrong)

/-- 'cocyclelaw22.ZigzagRank': WHATEVER THE INPUT: true; the input reads as it did. -/
def zigzagRankSpec : ChangeSpec := { name := "zigzagRank", fn := fun _ => fun
  | [d1, d2, d3] => { results := [.lit (.bool true)], args := [d1, d2, d3] }
  | _ => none }
def zigzagRankRow : OpenClaim := { program := "ytdnelknieikbaaagreat", sum := "1392e7ecc5927cb389c859450dc4acb4b36dc6f8dc56e8832208b11c9c933649", func := "cocycle/cocyclelaw22.ZigzagRank", spec := "zigzagRank", unfollowed := true, recurses := true, plainKeys := false, apart := false }
def ZigzagRankSaid : Prop := zigzagRankRow.holds Tryz.pinned (OpenSpec.ofChange zigzagRankSpec)

/-- ITS FALSE NEIGHBOUR: 'it returns false'. Refute it at one input. -/
def zigzagRankWrong : ChangeSpec := { name := "zigzagRank", fn := fun _ => fun
  | [d1, d2, d3] => { results := [.lit (.bool false)], args := [d1, d2, d3] }
  | _ => none }
def ZigzagRankWrongFalsely : Prop := zigzagRankRow.holds Tryz.pinned (OpenSpec.ofChange zigzagRankWrong)

/-- 'cocyclelaw22.ZigzagTurn': WHATEVER THE INPUT: true; the input reads as it did. -/
def zigzagTurnSpec : ChangeSpec := { name := "zigzagTurn", fn := fun _ => fun
  | [d] => { results := [.lit (.bool true)], args := [d] }
  | _ => none }
def zigzagTurnRow : OpenClaim := { program := "ytdnelknieikbaaagreat", sum := "1392e7ecc5927cb389c859450dc4acb4b36dc6f8dc56e8832208b11c9c933649", func := "cocycle/cocyclelaw22.ZigzagTurn", spec := "zigzagTurn", unfollowed := true, recurses := true, plainKeys := false, apart := false }
def ZigzagTurnSaid : Prop := zigzagTurnRow.holds Tryz.pinned (OpenSpec.ofChange zigzagTurnSpec)

/-- ITS FALSE NEIGHBOUR: 'it returns false'. Refute it at one input. -/
def zigzagTurnWrong : ChangeSpec := { name := "zigzagTurn", fn := fun _ => fun
  | [d] => { results := [.lit (.bool false)], args := [d] }
  | _ => none }
def ZigzagTurnWrongFalsely : Prop := zigzagTurnRow.holds Tryz.pinned (OpenSpec.ofChange zigzagTurnWrong)

/-- 'cocyclelaw22.ZigzagForward': WHATEVER THE INPUT: true; the input reads as it did. -/
def zigzagForwardSpec : ChangeSpec := { name := "zigzagForward", fn := fun _ => fun
  | [d] => { results := [.lit (.bool true)], args := [d] }
  | _ => none }
def zigzagForwardRow : OpenClaim := { program := "ytdnelknieikbaaagreat", sum := "1392e7ecc5927cb389c859450dc4acb4b36dc6f8dc56e8832208b11c9c933649", func := "cocycle/cocyclelaw22.ZigzagForward", spec := "zigzagForward", unfollowed := true, recurses := true, plainKeys := false, apart := false }
def ZigzagForwardSaid : Prop := zigzagForwardRow.holds Tryz.pinned (OpenSpec.ofChange zigzagForwardSpec)

/-- ITS FALSE NEIGHBOUR: 'it returns false'. Refute it at one input. -/
def zigzagForwardWrong : ChangeSpec := { name := "zigzagForward", fn := fun _ => fun
  | [d] => { results := [.lit (.bool false)], args := [d] }
  | _ => none }
def ZigzagForwardWrongFalsely : Prop := zigzagForwardRow.holds Tryz.pinned (OpenSpec.ofChange zigzagForwardWrong)

/-- 'cocyclelaw22.ZigzagStrands': WHATEVER THE INPUT: true; the input reads as it did. -/
def zigzagStrandsSpec : ChangeSpec := { name := "zigzagStrands", fn := fun _ => fun
  | [d] => { results := [.lit (.bool true)], args := [d] }
  | _ => none }
def zigzagStrandsRow : OpenClaim := { program := "ytdnelknieikbaaagreat", sum := "1392e7ecc5927cb389c859450dc4acb4b36dc6f8dc56e8832208b11c9c933649", func := "cocycle/cocyclelaw22.ZigzagStrands", spec := "zigzagStrands", unfollowed := true, recurses := true, plainKeys := false, apart := false }
def ZigzagStrandsSaid : Prop := zigzagStrandsRow.holds Tryz.pinned (OpenSpec.ofChange zigzagStrandsSpec)

/-- ITS FALSE NEIGHBOUR: 'it returns false'. Refute it at one input. -/
def zigzagStrandsWrong : ChangeSpec := { name := "zigzagStrands", fn := fun _ => fun
  | [d] => { results := [.lit (.bool false)], args := [d] }
  | _ => none }
def ZigzagStrandsWrongFalsely : Prop := zigzagStrandsRow.holds Tryz.pinned (OpenSpec.ofChange zigzagStrandsWrong)

/-- 'cocyclelaw22.ZigzagChecks': WHATEVER THE INPUT: true; the input reads as it did. -/
def zigzagChecksSpec : ChangeSpec := { name := "zigzagChecks", fn := fun _ => fun
  | [d1, d2] => { results := [.lit (.bool true)], args := [d1, d2] }
  | _ => none }
def zigzagChecksRow : OpenClaim := { program := "ytdnelknieikbaaagreat", sum := "1392e7ecc5927cb389c859450dc4acb4b36dc6f8dc56e8832208b11c9c933649", func := "cocycle/cocyclelaw22.ZigzagChecks", spec := "zigzagChecks", unfollowed := true, recurses := true, plainKeys := false, apart := false }
def ZigzagChecksSaid : Prop := zigzagChecksRow.holds Tryz.pinned (OpenSpec.ofChange zigzagChecksSpec)

/-- ITS FALSE NEIGHBOUR: 'it returns false'. Refute it at one input. -/
def zigzagChecksWrong : ChangeSpec := { name := "zigzagChecks", fn := fun _ => fun
  | [d1, d2] => { results := [.lit (.bool false)], args := [d1, d2] }
  | _ => none }
def ZigzagChecksWrongFalsely : Prop := zigzagChecksRow.holds Tryz.pinned (OpenSpec.ofChange zigzagChecksWrong)

/-- 'cocyclelaw22.ZigzagKeeps': WHATEVER THE INPUT: true; the input reads as it did. -/
def zigzagKeepsSpec : ChangeSpec := { name := "zigzagKeeps", fn := fun _ => fun
  | [d] => { results := [.lit (.bool true)], args := [d] }
  | _ => none }
def zigzagKeepsRow : OpenClaim := { program := "ytdnelknieikbaaagreat", sum := "1392e7ecc5927cb389c859450dc4acb4b36dc6f8dc56e8832208b11c9c933649", func := "cocycle/cocyclelaw22.ZigzagKeeps", spec := "zigzagKeeps", unfollowed := true, recurses := true, plainKeys := false, apart := false }
def ZigzagKeepsSaid : Prop := zigzagKeepsRow.holds Tryz.pinned (OpenSpec.ofChange zigzagKeepsSpec)

/-- ITS FALSE NEIGHBOUR: 'it returns false'. Refute it at one input. -/
def zigzagKeepsWrong : ChangeSpec := { name := "zigzagKeeps", fn := fun _ => fun
  | [d] => { results := [.lit (.bool false)], args := [d] }
  | _ => none }
def ZigzagKeepsWrongFalsely : Prop := zigzagKeepsRow.holds Tryz.pinned (OpenSpec.ofChange zigzagKeepsWrong)

/-- 'cocyclelaw22.ZigzagWrong': WHATEVER THE INPUT: true; the input reads as it did. -/
def zigzagWrongSpec : ChangeSpec := { name := "zigzagWrong", fn := fun _ => fun
  | [d1, d2] => { results := [.lit (.bool true)], args := [d1, d2] }
  | _ => none }
def zigzagWrongRow : OpenClaim := { program := "ytdnelknieikbaaagreat", sum := "1392e7ecc5927cb389c859450dc4acb4b36dc6f8dc56e8832208b11c9c933649", func := "cocycle/cocyclelaw22.ZigzagWrong", spec := "zigzagWrong", unfollowed := true, recurses := true, plainKeys := false, apart := false }
def ZigzagWrongSaid : Prop := zigzagWrongRow.holds Tryz.pinned (OpenSpec.ofChange zigzagWrongSpec)

/-- ITS FALSE NEIGHBOUR: 'it returns false'. Refute it at one input. -/
def zigzagWrongWrong : ChangeSpec := { name := "zigzagWrong", fn := fun _ => fun
  | [d1, d2] => { results := [.lit (.bool false)], args := [d1, d2] }
  | _ => none }
def ZigzagWrongWrongFalsely : Prop := zigzagWrongRow.holds Tryz.pinned (OpenSpec.ofChange zigzagWrongWrong)

/- THE SECOND FORM. 'bulk': how many values and letters a reading holds, each counted each time it is reached (what is shared counts as often as it is met; a slice's spare places count too). A statement '..UptoSaid' is the law's where the arguments, and the package variables that the reading takes, are together of bulk at most 1048576: NARROWER than '..Said'. Prove '..Said' where nothing that the law and all that it calls make is longer than what came in: it says more and counts as full. Else prove '..UptoSaid'. A law counts once. -/
mutual
def uptoBulk {H : Type} : DataW H → Nat
  | .lit (.string bytes) => bytes.length + 1
  | .lit _ => 1
  | .nil => 1
  | .ptr d => uptoBulk d + 1
  | .slice elems spare => uptoBulkAll elems + uptoBulkAll spare + 1
  | .agg parts => uptoBulkAll parts + 1
  | .iface _ d => uptoBulk d + 1
  | .map entries => uptoBulkEntries entries + 1
  | .held _ => 1
def uptoBulkAll {H : Type} : List (DataW H) → Nat
  | [] => 0
  | d :: r => uptoBulk d + uptoBulkAll r
def uptoBulkEntries {H : Type} : List (Lit × DataW H) → Nat
  | [] => 0
  | x :: r => uptoBulkEntry x + uptoBulkEntries r
def uptoBulkEntry {H : Type} : Lit × DataW H → Nat
  | (.string bytes, d) => bytes.length + uptoBulk d + 1
  | (_, d) => uptoBulk d + 1
 end
def uptoSmall : (H : Type) → List (DataW H) → Bool := fun _ ds => decide (uptoBulkAll ds ≤ 1048576)
def OpenSpec.upto (s : _root_.Go.ChangeSpec) : _root_.Go.OpenSpec := { _root_.Go.OpenSpec.ofChange s with cond := some uptoSmall }

/-- 'cocyclelaw22.ZigzagBars', WHERE WHAT IT READS IS OF BULK AT MOST 1048576: true; the input reads as it did. -/
def zigzagBarsUptoRow : OpenClaim := { program := "ytdnelknieikbaaagreat", sum := "1392e7ecc5927cb389c859450dc4acb4b36dc6f8dc56e8832208b11c9c933649", func := "cocycle/cocyclelaw22.ZigzagBars", spec := "zigzagBars", unfollowed := true, recurses := true, plainKeys := false, apart := false, narrowed := true }
def ZigzagBarsUptoSaid : Prop := zigzagBarsUptoRow.holds Tryz.pinned (OpenSpec.upto zigzagBarsSpec)

/-- 'cocyclelaw22.ZigzagParts', WHERE WHAT IT READS IS OF BULK AT MOST 1048576: true; the input reads as it did. -/
def zigzagPartsUptoRow : OpenClaim := { program := "ytdnelknieikbaaagreat", sum := "1392e7ecc5927cb389c859450dc4acb4b36dc6f8dc56e8832208b11c9c933649", func := "cocycle/cocyclelaw22.ZigzagParts", spec := "zigzagParts", unfollowed := true, recurses := true, plainKeys := false, apart := false, narrowed := true }
def ZigzagPartsUptoSaid : Prop := zigzagPartsUptoRow.holds Tryz.pinned (OpenSpec.upto zigzagPartsSpec)

/-- 'cocyclelaw22.ZigzagBasis', WHERE WHAT IT READS IS OF BULK AT MOST 1048576: true; the input reads as it did. -/
def zigzagBasisUptoRow : OpenClaim := { program := "ytdnelknieikbaaagreat", sum := "1392e7ecc5927cb389c859450dc4acb4b36dc6f8dc56e8832208b11c9c933649", func := "cocycle/cocyclelaw22.ZigzagBasis", spec := "zigzagBasis", unfollowed := true, recurses := true, plainKeys := false, apart := false, narrowed := true }
def ZigzagBasisUptoSaid : Prop := zigzagBasisUptoRow.holds Tryz.pinned (OpenSpec.upto zigzagBasisSpec)

/-- 'cocyclelaw22.ZigzagSums', WHERE WHAT IT READS IS OF BULK AT MOST 1048576: true; the input reads as it did. -/
def zigzagSumsUptoRow : OpenClaim := { program := "ytdnelknieikbaaagreat", sum := "1392e7ecc5927cb389c859450dc4acb4b36dc6f8dc56e8832208b11c9c933649", func := "cocycle/cocyclelaw22.ZigzagSums", spec := "zigzagSums", unfollowed := true, recurses := true, plainKeys := false, apart := false, narrowed := true }
def ZigzagSumsUptoSaid : Prop := zigzagSumsUptoRow.holds Tryz.pinned (OpenSpec.upto zigzagSumsSpec)

/-- 'cocyclelaw22.ZigzagRank', WHERE WHAT IT READS IS OF BULK AT MOST 1048576: true; the input reads as it did. -/
def zigzagRankUptoRow : OpenClaim := { program := "ytdnelknieikbaaagreat", sum := "1392e7ecc5927cb389c859450dc4acb4b36dc6f8dc56e8832208b11c9c933649", func := "cocycle/cocyclelaw22.ZigzagRank", spec := "zigzagRank", unfollowed := true, recurses := true, plainKeys := false, apart := false, narrowed := true }
def ZigzagRankUptoSaid : Prop := zigzagRankUptoRow.holds Tryz.pinned (OpenSpec.upto zigzagRankSpec)

/-- 'cocyclelaw22.ZigzagTurn', WHERE WHAT IT READS IS OF BULK AT MOST 1048576: true; the input reads as it did. -/
def zigzagTurnUptoRow : OpenClaim := { program := "ytdnelknieikbaaagreat", sum := "1392e7ecc5927cb389c859450dc4acb4b36dc6f8dc56e8832208b11c9c933649", func := "cocycle/cocyclelaw22.ZigzagTurn", spec := "zigzagTurn", unfollowed := true, recurses := true, plainKeys := false, apart := false, narrowed := true }
def ZigzagTurnUptoSaid : Prop := zigzagTurnUptoRow.holds Tryz.pinned (OpenSpec.upto zigzagTurnSpec)

/-- 'cocyclelaw22.ZigzagForward', WHERE WHAT IT READS IS OF BULK AT MOST 1048576: true; the input reads as it did. -/
def zigzagForwardUptoRow : OpenClaim := { program := "ytdnelknieikbaaagreat", sum := "1392e7ecc5927cb389c859450dc4acb4b36dc6f8dc56e8832208b11c9c933649", func := "cocycle/cocyclelaw22.ZigzagForward", spec := "zigzagForward", unfollowed := true, recurses := true, plainKeys := false, apart := false, narrowed := true }
def ZigzagForwardUptoSaid : Prop := zigzagForwardUptoRow.holds Tryz.pinned (OpenSpec.upto zigzagForwardSpec)

/-- 'cocyclelaw22.ZigzagStrands', WHERE WHAT IT READS IS OF BULK AT MOST 1048576: true; the input reads as it did. -/
def zigzagStrandsUptoRow : OpenClaim := { program := "ytdnelknieikbaaagreat", sum := "1392e7ecc5927cb389c859450dc4acb4b36dc6f8dc56e8832208b11c9c933649", func := "cocycle/cocyclelaw22.ZigzagStrands", spec := "zigzagStrands", unfollowed := true, recurses := true, plainKeys := false, apart := false, narrowed := true }
def ZigzagStrandsUptoSaid : Prop := zigzagStrandsUptoRow.holds Tryz.pinned (OpenSpec.upto zigzagStrandsSpec)

/-- 'cocyclelaw22.ZigzagChecks', WHERE WHAT IT READS IS OF BULK AT MOST 1048576: true; the input reads as it did. -/
def zigzagChecksUptoRow : OpenClaim := { program := "ytdnelknieikbaaagreat", sum := "1392e7ecc5927cb389c859450dc4acb4b36dc6f8dc56e8832208b11c9c933649", func := "cocycle/cocyclelaw22.ZigzagChecks", spec := "zigzagChecks", unfollowed := true, recurses := true, plainKeys := false, apart := false, narrowed := true }
def ZigzagChecksUptoSaid : Prop := zigzagChecksUptoRow.holds Tryz.pinned (OpenSpec.upto zigzagChecksSpec)

/-- 'cocyclelaw22.ZigzagKeeps', WHERE WHAT IT READS IS OF BULK AT MOST 1048576: true; the input reads as it did. -/
def zigzagKeepsUptoRow : OpenClaim := { program := "ytdnelknieikbaaagreat", sum := "1392e7ecc5927cb389c859450dc4acb4b36dc6f8dc56e8832208b11c9c933649", func := "cocycle/cocyclelaw22.ZigzagKeeps", spec := "zigzagKeeps", unfollowed := true, recurses := true, plainKeys := false, apart := false, narrowed := true }
def ZigzagKeepsUptoSaid : Prop := zigzagKeepsUptoRow.holds Tryz.pinned (OpenSpec.upto zigzagKeepsSpec)

/-- 'cocyclelaw22.ZigzagWrong', WHERE WHAT IT READS IS OF BULK AT MOST 1048576: true; the input reads as it did. -/
def zigzagWrongUptoRow : OpenClaim := { program := "ytdnelknieikbaaagreat", sum := "1392e7ecc5927cb389c859450dc4acb4b36dc6f8dc56e8832208b11c9c933649", func := "cocycle/cocyclelaw22.ZigzagWrong", spec := "zigzagWrong", unfollowed := true, recurses := true, plainKeys := false, apart := false, narrowed := true }
def ZigzagWrongUptoSaid : Prop := zigzagWrongUptoRow.holds Tryz.pinned (OpenSpec.upto zigzagWrongSpec)

end Rows
end Go.Proofs.YtdnelknieikbaaaGreat
