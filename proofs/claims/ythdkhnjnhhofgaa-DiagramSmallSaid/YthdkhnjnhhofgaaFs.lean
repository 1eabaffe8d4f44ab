/- The frame: pairs of bytes. -/
import Derived.Test.YthdkhnjnhhofgaaPA
import Derived.Test.YthdkhnjnhhofgaaFa
set_option linter.unusedSimpArgs false
set_option linter.unusedVariables false
set_option maxRecDepth 100000
namespace Go.Proofs.Ythdkhnjnhhofgaa
open Go.Eng Go.ChangeShapes Go.WideShapes Go.ChangeAt Go.RowKit Go.Deep
section
variable {H : Type} {enc : TypeId × Value → H} {w : World} {base : Nat} {spare : Nat → Bool} {held : Bool}
theorem open_duo (n : Nat) (cs : List Value) (y : DataW H × List MemPlace) (h : DataW.trod enc Try.prog w base spare held n 63 cs = some y) : ∃ a, cs = cU a ∧ UOk a := by
  obtain ⟨xs, hl, rfl, hw⟩ := trod_ints Try.underlying63 Try.underlying5 (by kernel_rfl) (by kernel_rfl) h
  match xs, hl with
  | [a, b], _ => exact ⟨(a, b), rfl, bounds_u8 (hw a (by simp)), bounds_u8 (hw b (by simp))⟩
theorem open_duos {v : Value} {fuel : Nat} {x : DataW H × List MemPlace} (h : DataW.trod enc Try.prog w base spare held fuel 32 [v] = some x) : ∃ l, RdL cU 2 (whole w) [] v l ∧ ∀ a ∈ l, UOk a :=
  open_rdl Try.underlying32 (by kernel_rfl) cU_len (by decide) open_duo h
end
end Go.Proofs.Ythdkhnjnhhofgaa
