/- The engine, part 14: a guard that says yes falls away. -/
import Derived.Test.YthdkhnjnhhofgaaEng13
set_option linter.unusedSimpArgs false
set_option linter.unusedVariables false
namespace Go.Eng
open Go.RowKit
section
variable {e : Entry} {Q : Exit → Act → World → Prop} {ops : Array Oper} {rest : List Oper} {o : Oper} {s : Slots} {h : Hp} {ms : List Hp}
theorem wl_yes {j dj : Nat} {b : Bool} {oj : Oper} (hg : o.guard = some (j, b)) (hj : ops[j]? = some oj) (hdj : oj.dst = some dj) (hv : lk s dj = some (.bool b))
    (k : WL e ops Q ({ o with guard := none } :: rest) s h ms) : WL e ops Q (o :: rest) s h ms := fun a w ha hw => by
  have h1 := k a w ha hw
  unfold wpList at h1 ⊢
  rw [if_pos (by simp [Region.wanted])] at h1
  rw [if_pos (by simp [Region.wanted, hg, ha.yields hj hdj hv])]
  exact h1
end
end Go.Eng
