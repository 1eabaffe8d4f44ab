/- The engine, part 15: arguments that come in: the whole heap as what is immutable; slices that read as lists. -/
import Derived.Test.YthdkhnjnhhofgaaEng14
import Derived.Deep.Slices
import Derived.OpenShut
set_option linter.unusedSimpArgs false
set_option linter.unusedVariables false
namespace Go.Eng
open Go.RowKit Go.ChangeShapes Go.WideShapes Go.Deep

/-- All that is there. -/
def whole (w : World) : Hp := fun g => w.heap[g]?
theorem St.whole (w : World) : St w (whole w) [] := ⟨fun _ _ h => h, by simp, by simp, List.Pairwise.nil⟩
theorem Cell.ofW {w : World} {ms : List Hp} {a : Addr} {v : Value} (h : w.cell? a = some v) : Cell (whole w) ms a v := by
  unfold World.cell? at h
  split at h
  · rename_i c el fr hb
    split at h
    · cases h
    · rename_i hs
      exact ⟨by simpa using hs, c, el, fr, .inl hb, h⟩
  · cases h

theorem exists_list {α : Type} {Q : Nat → α → Prop} : ∀ n, (∀ i, i < n → ∃ a, Q i a) → ∃ l : List α, l.length = n ∧ ∀ i (hi : i < l.length), Q i l[i]
  | 0, _ => ⟨[], rfl, fun i hi => by simp at hi⟩
  | n + 1, h => by
    obtain ⟨l, hl, hq⟩ := exists_list n fun i hi => h i (by omega)
    obtain ⟨a, ha⟩ := h n (by omega)
    refine ⟨l ++ [a], by simp [hl], fun i hi => ?_⟩
    rw [List.getElem_append]
    split
    · exact hq i (by assumption)
    · have : i = n := by simp at hi; omega
      subst this; simpa using ha

section
variable {H : Type} {enc : TypeId × Value → H} {P : Program} {w : World} {base : Nat} {spare : Nat → Bool} {held : Bool}
/-- A slice among the arguments reads as a list. -/
theorem open_rdl {α : Type} {F : α → List Value} {Ok : α → Prop} {sz : Nat} {t e : TypeId} {fuel : Nat} {v : Value} {x : DataW H × List MemPlace} (ht : P.underlying t = some (.slice e)) (hC : P.cellsOf e = sz) (hF : ∀ x, (F x).length = sz) (hsz : 0 < sz)
    (hel : ∀ n cs y, DataW.trod enc P w base spare held n e cs = some y → ∃ a, cs = F a ∧ Ok a) (h : DataW.trod enc P w base spare held fuel t [v] = some x) : ∃ l, RdL F sz (whole w) [] v l ∧ ∀ a ∈ l, Ok a := by
  rcases open_slice ht h with ⟨h0, _⟩ | ⟨a, len, cap, m, n, D, Pl, hcs, hb, hl, hm, hmm, hx, hi⟩
  · simp only [List.cons.injEq, and_true] at h0
    subst h0
    exact ⟨[], ⟨⟨none, 0, rfl, by simp, by omega, by simp, fun h => by simp at h⟩, hF⟩, by simp⟩
  · simp only [List.cons.injEq, and_true] at hcs
    subst hcs
    rw [hC] at hi
    have hlm : len ≤ m := by rw [hmm]; split <;> omega
    obtain ⟨l, hll, hq⟩ := exists_list (α := α) (Q := fun i b => w.cells? base (a.add (i * sz)) sz = some (F b) ∧ Ok b) len fun i hi' => by
      obtain ⟨cs, h1, h2⟩ := hi i (by omega)
      obtain ⟨b, rfl, h3⟩ := hel n cs _ h2
      exact ⟨b, h1, h3⟩
    refine ⟨l, ⟨⟨some a, cap, by rw [hll], by omega, by unfold maxLen at hm; omega, flatMap_len hF l, fun _ => ⟨a, rfl, fun j u hj => ?_⟩⟩, hF⟩, fun b hb => ?_⟩
    · have hjl := (List.getElem?_eq_some_iff.1 hj).1
      rw [flatMap_len hF l] at hjl
      have h1 : j / sz < l.length := Nat.div_lt_of_lt_mul (by rw [Nat.mul_comm]; exact hjl)
      have h2 : j % sz < sz := Nat.mod_lt _ hsz
      have h3 : j / sz * sz + j % sz = j := by rw [Nat.mul_comm]; exact Nat.div_add_mod j sz
      have h4 := flatMap_get hF l (j / sz) h1 (j % sz) ((F l[j / sz])[j % sz]'(by rw [hF]; exact h2)) (List.getElem?_eq_getElem _)
      rw [h3, hj] at h4
      have h5 := Option.some.inj h4
      obtain ⟨_, _, hat⟩ := World.cells?_some (hq (j / sz) h1).1
      have h6 := hat (j % sz) h2
      rw [addr_add_add, h3] at h6
      refine Cell.ofW (h6.trans ?_)
      rw [List.getElem?_eq_getElem (by rw [hF]; exact h2), ← h5]
    · obtain ⟨i, hi', rfl⟩ := List.getElem_of_mem hb
      exact (hq i hi').2
/-- An array of integers. -/
theorem trod_ints {t e : TypeId} {k : IntKind} {n fuel : Nat} {cs : List Value} {x : DataW H × List MemPlace} (ht : P.underlying t = some (.array n e)) (he : P.underlying e = some (.int k)) (hc : P.cellsOf e = 1) (hct : P.cellsOf t = n) (h : DataW.trod enc P w base spare held fuel t cs = some x) :
    ∃ xs : List Int, xs.length = n ∧ cs = xs.map (Value.int k) ∧ ∀ x ∈ xs, (Lit.int k x).wf = true := by
  obtain ⟨ys, m, _, _, hlen, hyl, hi⟩ := DataW.trod_array ht h
  rw [hct] at hlen
  simp only [hc, Nat.mul_one] at hi
  obtain ⟨xs, hxl, hq⟩ := exists_list (α := Int) (Q := fun i b => cs[i]? = some (.int k b) ∧ (Lit.int k b).wf = true) n fun i hin => by
    have h1 := hi i hin
    have hic : i < cs.length := by omega
    rw [List.getElem?_eq_getElem (show i < ys.length by omega)] at h1
    obtain ⟨b, h2, _, h3⟩ := DataW.trod_int he h1
    have h4 : ((cs.drop i).take 1)[0]? = some (Value.int k b) := by rw [h2]; rfl
    rw [List.getElem?_take_of_lt (by decide), List.getElem?_drop] at h4
    exact ⟨b, h4, h3⟩
  refine ⟨xs, hxl, ?_, fun x hx => ?_⟩
  · refine List.ext_getElem (by simp [hlen, hxl]) fun i h1 h2 => ?_
    have h3 := (hq i (by omega)).1
    rw [List.getElem?_eq_getElem h1] at h3
    simpa using h3
  · obtain ⟨i, hi', rfl⟩ := List.getElem_of_mem hx
    exact (hq i hi').2
end
end Go.Eng
