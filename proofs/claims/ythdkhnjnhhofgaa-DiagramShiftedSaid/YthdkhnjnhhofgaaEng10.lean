/- The engine, part 10: elements that are stored; arrays. -/
import Derived.Test.YthdkhnjnhhofgaaEng8
import Derived.Test.YthdkhnjnhhofgaaEng9
import Derived.Sort.AssemblyPlain
set_option linter.unusedSimpArgs false
set_option linter.unusedVariables false
namespace Go.Eng
open Go.RowKit

section
variable {P : Program} {o : Oper} {s : Slots} {t u : TypeId} {x y : Operand} {a b : Int}
theorem px_add (ho : o.op = .binOp .add t x y u) (hx : ev s x = some (.int .i64 a)) (hy : ev s y = some (.int .i64 b)) (hr : -9223372036854775808 ≤ a + b ∧ a + b ≤ 9223372036854775807) : PX P o s (.int .i64 (a + b)) := fun ρ hρ w => by
  have : (execOp ρ o).run P w = .ok (.value (.int .i64 (IntKind.i64.wrap (a + b)))) w := by simp [execOp, ho, hρ _ _ hx, hρ _ _ hy, go_sem]
  rwa [wrap_i64 hr] at this
theorem px_sub (ho : o.op = .binOp .sub t x y u) (hx : ev s x = some (.int .i64 a)) (hy : ev s y = some (.int .i64 b)) (hr : -9223372036854775808 ≤ a - b ∧ a - b ≤ 9223372036854775807) : PX P o s (.int .i64 (a - b)) := fun ρ hρ w => by
  have : (execOp ρ o).run P w = .ok (.value (.int .i64 (IntKind.i64.wrap (a - b)))) w := by simp [execOp, ho, hρ _ _ hx, hρ _ _ hy, go_sem]
  rwa [wrap_i64 hr] at this
theorem px_mul (ho : o.op = .binOp .mul t x y u) (hx : ev s x = some (.int .i64 a)) (hy : ev s y = some (.int .i64 b)) (hr : -9223372036854775808 ≤ a * b ∧ a * b ≤ 9223372036854775807) : PX P o s (.int .i64 (a * b)) := fun ρ hρ w => by
  have : (execOp ρ o).run P w = .ok (.value (.int .i64 (IntKind.i64.wrap (a * b)))) w := by simp [execOp, ho, hρ _ _ hx, hρ _ _ hy, go_sem]
  rwa [wrap_i64 hr] at this
end

section
variable {e : Entry} {Q : Exit → Act → World → Prop} {ops : Array Oper} {rest : List Oper} {o : Oper} {s : Slots} {h : Hp} {ms : List Hp} {α : Type} {F : α → List Value} {l : List α} {v : Value} {m : Hp} {el : TypeId} {sz : Nat}

/-- One cell of an owned row. -/
theorem wl_storeE {t : TypeId} {x y : Operand} {u : Value} {z : Value} {bytes k : Nat} {l' : List α} (i : Nat) (O : OwnL F sz el m v l) (ho : o.op = .store t x y) (hs : Elem e.P t 1 z bytes) (hx : ev s x = some (.pointer (some ((vbase v).add k)))) (hy : ev s y = some u) (h1 : u.oneCell' = true)
    (hm : ms[i]? = some m) (hk : k < l.length * sz) (hset : (l.flatMap F).set k u = l'.flatMap F) (hl : l'.length = l.length) (hd : o.dst = none) (hg : o.guard = none)
    (K : ∀ m', OwnL F sz el m' v l' → WL e ops Q rest s h (ms.set i m')) : WL e ops Q (o :: rest) s h ms := by
  obtain ⟨⟨h2, h3⟩, hF⟩ := O
  rcases h3 with ⟨rfl, h4, rfl⟩ | ⟨g, cap, spare, rfl, rfl, e1, e2, e3⟩
  · rw [h4] at hk; simp at hk
  · refine wl_storeAt i k ho hs hx hy h1 hm rfl (by rw [List.length_append]; omega) hd hg (K _ ⟨⟨?_, .inr ⟨g, cap, spare, by rw [hl], ?_, ?_, by omega, e3⟩⟩, hF⟩)
    · rw [← hset, List.length_set, h2, hl]
    · rw [List.set_append_left _ _ (by omega), hset]
    · rw [← hset, List.length_append, List.length_set, ← List.length_append]; exact e1

/-- An element of one cell. -/
theorem wl_storeL1 {f : α → Value} {t : TypeId} {x y : Operand} {z : Value} {bytes : Nat} {a : α} (i j : Nat) (hF : ∀ x, F x = [f x]) (O : OwnL F 1 el m v l) (ho : o.op = .store t x y) (hs : Elem e.P t 1 z bytes) (hx : ev s x = some (.pointer (some ((vbase v).add (j * 1))))) (hy : ev s y = some (f a)) (h1 : (f a).oneCell' = true)
    (hm : ms[i]? = some m) (hj : j < l.length) (hd : o.dst = none) (hg : o.guard = none)
    (K : ∀ m', OwnL F 1 el m' v (l.set j a) → WL e ops Q rest s h (ms.set i m')) : WL e ops Q (o :: rest) s h ms := by
  have hF' : F = fun y => [f y] := funext hF
  refine wl_storeE i O ho hs hx hy h1 hm (by omega) ?_ (by simp) hd hg K
  rw [hF', Nat.mul_one]
  exact flatMap_set1 f l j a
/-- .. of an array. -/
theorem wl_storeA1 {f : α → Value} {t : TypeId} {x y : Operand} {z : Value} {bytes : Nat} {a : α} {d : Array α} (i j : Nat) (hF : ∀ x, F x = [f x]) (O : OwnL F 1 el m v d.toList) (ho : o.op = .store t x y) (hs : Elem e.P t 1 z bytes) (hx : ev s x = some (.pointer (some ((vbase v).add (j * 1))))) (hy : ev s y = some (f a)) (h1 : (f a).oneCell' = true)
    (hm : ms[i]? = some m) (hj : j < d.size) (hd : o.dst = none) (hg : o.guard = none)
    (K : ∀ m', OwnL F 1 el m' v (d.setIfInBounds j a).toList → WL e ops Q rest s h (ms.set i m')) : WL e ops Q (o :: rest) s h ms :=
  wl_storeL1 i j hF O ho hs hx hy h1 hm (by simpa using hj) hd hg fun m' O' => K m' (by rw [Array.toList_setIfInBounds]; exact O')

/-- An array's element, read. -/
theorem RdL.getA {f : α → Value} [Inhabited α] {d : Array α} (R : RdL F 1 h ms v d.toList) (hF : ∀ x, F x = [f x]) {j : Nat} (hj : j < d.size) : Cell h ms ((vbase v).add (j * 1)) (f d[j]!) := by
  refine R.cell0 (j := j) (by simpa using hj) ?_
  rw [hF]; simp [hj]
end
end Go.Eng
