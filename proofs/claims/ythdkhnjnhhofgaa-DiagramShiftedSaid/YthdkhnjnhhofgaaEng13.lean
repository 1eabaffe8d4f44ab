/- The engine, part 13: slices that are made in a region whose order is open. -/
import Derived.Test.YthdkhnjnhhofgaaEng12
set_option linter.unusedSimpArgs false
set_option linter.unusedVariables false
namespace Go.Eng
open Go.RowKit
section
variable {e : Entry} {ops : Array Oper} {Q : Exit → Act → World → Prop} {tl : List Oper} {h : Hp} {ms : List Hp} {l : List Oper} {o : Oper} {s : Slots} {q : List (Nat × VP)} {al : List (Nat × Nb)}
theorem wr_gb {d j dj : Nat} {b : Bool} {x : Nb} (hx : ONB e.P o s h ms x) (hd : o.dst = some d) (hg : o.guard = some (j, b)) (hj : dstAt ops j = some dj) (hv : lk s dj = some (.bool b)) (k : WR e ops Q tl h ms l s q (al ++ [(d, x)])) : WR e ops Q tl h ms (o :: l) s q al :=
  .inr (.inr ⟨x, ⟨.yes hg hj hv, ⟨d, hd⟩, hx⟩, by rw [hd]; exact k⟩)
theorem onb_make {P : Program} {t el : TypeId} {z : Value} {bytes n : Nat} {x y : Operand} {k1 k2 : IntKind} {l c : Int} (ho : o.op = .makeSlice t x y) (ht : P.underlying t = some (.slice el)) (hs : Elem P el 1 z bytes) (hz : z.cells = #[z])
    (hx : ev s x = some (.int k1 l)) (hy : ev s y = some (.int k2 c)) (hl : l = (n : Int)) (hc : c = (n : Int)) (hb : bytes * n ≤ 281474976710656) (h63 : n ≤ 9223372036854775807) : ONB P o s h ms ((el, List.replicate n z), fun g => .slice (some ⟨g, 0, none⟩) n n) := fun ρ w hρ hw => by
  obtain ⟨i, hi, hz', his, hib⟩ := hs.info
  have hb' : (i.bytes : Int) * c ≤ 281474976710656 := by
    rw [hib, hc]
    have h : ((bytes * n : Nat) : Int) ≤ 281474976710656 := by omega
    rwa [Int.natCast_mul] at h
  have hr := run_make (P := P) w t el i z ht hi hz' k1 k2 l c (by omega) (by omega) hb' (by omega)
  have : (execOp ρ o).run P w = .ok (.value (.slice (some ⟨w.heap.size, 0, none⟩) n n)) (w.alloc (.cells (List.replicate n z).toArray el)) := by
    have e1 : l.toNat = n := by omega
    have e2 : c.toNat = n := by omega
    rw [e1, e2, his, hz, Nat.mul_one, madeCells_one] at hr
    simp only [execOp, ho, hρ _ _ hx, hρ _ _ hy, Sem.run_bind, hr, Result.andThen_ok, Sem.run_pure]
  unfold OpRes; rw [this]; exact ⟨rfl, rfl⟩
end
end Go.Eng
