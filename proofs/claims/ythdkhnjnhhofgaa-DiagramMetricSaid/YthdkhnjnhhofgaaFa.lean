/- The frame: how arguments are opened. -/
import Derived.Test.YthdkhnjnhhofgaaWC
import Derived.Test.YthdkhnjnhhofgaaEB
import Derived.Test.YthdkhnjnhhofgaaRows
import Derived.WalkKit
import Derived.ProofKit
import Derived.ChangeOld
set_option linter.unusedSimpArgs false
set_option linter.unusedVariables false
set_option maxRecDepth 100000
namespace Go.Proofs.Ythdkhnjnhhofgaa
open Go.Eng Go.ChangeShapes Go.WideShapes Go.ChangeAt Go.RowKit Go.Deep

theorem own : ownKnob Try.prog.godebug = none := by kernel_rfl
theorem laidOut : laidOutB Try.prog = true := by kernel_rfl
section
variable {H : Type} {enc : TypeId × Value → H} {w : World} {base : Nat} {spare : Nat → Bool} {held : Bool}
theorem open_int1 (n : Nat) (cs : List Value) (y : DataW H × List MemPlace) (h : DataW.trod enc Try.prog w base spare held n 3 cs = some y) : ∃ a, cs = cI a ∧ I64 a := by
  obtain ⟨b, h1, _, h2⟩ := DataW.trod_int Try.underlying3 h
  exact ⟨b, h1, bounds_i64 h2⟩
theorem open_tri (n : Nat) (cs : List Value) (y : DataW H × List MemPlace) (h : DataW.trod enc Try.prog w base spare held n 50 cs = some y) : ∃ a, cs = cT a ∧ TOk a := by
  obtain ⟨xs, hl, rfl, hw⟩ := trod_ints Try.underlying50 Try.underlying3 (by kernel_rfl) (by kernel_rfl) h
  match xs, hl with
  | [a, b, c], _ => exact ⟨(a, b, c), rfl, bounds_i64 (hw a (by simp)), bounds_i64 (hw b (by simp)), bounds_i64 (hw c (by simp))⟩
theorem open_tris {v : Value} {fuel : Nat} {x : DataW H × List MemPlace} (h : DataW.trod enc Try.prog w base spare held fuel 22 [v] = some x) : ∃ l, RdL cT 3 (whole w) [] v l ∧ ∀ a ∈ l, TOk a :=
  open_rdl Try.underlying22 (by kernel_rfl) cT_len (by decide) open_tri h
theorem open_is {v : Value} {fuel : Nat} {x : DataW H × List MemPlace} (h : DataW.trod enc Try.prog w base spare held fuel 23 [v] = some x) : ∃ l, RdL cI 1 (whole w) [] v l ∧ ∀ a ∈ l, I64 a :=
  open_rdl Try.underlying23 (by kernel_rfl) cI_len (by decide) open_int1 h
end
end Go.Proofs.Ythdkhnjnhhofgaa
