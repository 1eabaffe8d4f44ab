/- The library's Compact at integers, on a row that is owned. -/
import Derived.Test.YthdkhnjnhhofgaaSu
import Derived.Sort.OwnSortedInts
import Derived.Lib.SlicesCompact
set_option linter.unusedSimpArgs false
set_option linter.unusedVariables false
set_option maxRecDepth 100000
namespace Go.Proofs.Ythdkhnjnhhofgaa
open Go.Eng Go.RowKit Go.Sort

theorem flatMap_cI (l : List Int) : l.flatMap cI = l.map (Value.int .i64) := by
  induction l with
  | nil => rfl
  | cons a l ih => rw [List.flatMap_cons, List.map_cons, ih]; rfl

theorem compact_mem (l : List Int) (x : Int) : x ∈ Lib.compact l ↔ x ∈ l := by
  have key : ∀ m, m ≤ l.length → ∀ j, j < m → l.toArray[j]! ∈ Lib.compactUpTo l.toArray m := by
    intro m
    induction m with
    | zero => intro _ j hj; omega
    | succ m ih =>
      intro hm j hj
      rw [Lib.compactUpTo_succ, List.mem_append]
      by_cases hjm : j < m
      · exact .inl (ih (by omega) j hjm)
      · have : j = m := by omega
        subst this
        cases hk : Lib.keeps l.toArray j with
        | true => right; simp
        | false =>
          left
          unfold Lib.keeps at hk
          have h0 : 0 < j := by
            rcases Nat.eq_zero_or_pos j with h | h
            · subst h; simp at hk
            · exact h
          have : l.toArray[j]! = l.toArray[j - 1]! := by
            simp at hk
            simpa using hk.2
          rw [this]
          exact ih (by omega) (j - 1) (by omega)
  constructor
  · intro h
    unfold Lib.compact Lib.compactUpTo at h
    obtain ⟨j, hj, rfl⟩ := List.mem_map.1 h
    have hj' : j < l.length := by simpa using (List.mem_filter.1 hj).1
    simp [hj']
  · intro h
    obtain ⟨j, hj, rfl⟩ := List.getElem_of_mem h
    have := key l.length (Nat.le_refl _) j hj
    unfold Lib.compact
    simpa [hj] using this
theorem compact_sublist (l : List Int) : (Lib.compact l).Sublist l := by
  unfold Lib.compact Lib.compactUpTo
  have h1 : (List.range l.length).map (fun j => l.toArray[j]!) = l := by
    have := Lib.range_map_get l.toArray
    simpa using this
  have h2 := List.Sublist.map (fun j => l.toArray[j]!) (List.filter_sublist (l := List.range l.length) (p := Lib.keeps l.toArray))
  rw [h1] at h2
  exact h2

theorem compact_ok (l : List Int) (v : Value) (m : Hp) (hO : OwnL cI 1 3 m v l) (hl : l.length ≤ 2305843009213693951) (h : Hp) :
    FnT Try.prog 34 #[v] h [m] (fun r h' ms' => h = h' ∧ ∃ m', ms' = [m'] ∧ OwnL cI 1 3 m' r (Lib.compact l)) := by
  intro w hw
  have hle : (Lib.compact l).length ≤ l.length := (compact_sublist l).length_le
  obtain ⟨⟨e0, hown⟩, hF⟩ := hO
  rcases hown with ⟨rfl, e1, rfl⟩ | ⟨g, cap, spare, rfl, rfl, e1, e2, e3⟩
  · obtain rfl : l = [] := List.length_eq_zero_iff.1 e1
    refine (Try.slices_Compact_int_empty none 0 w).mono fun x w' ⟨hx, hw'⟩ => ?_
    subst hw'
    exact ⟨_, h, [Hp.emp], hx, Ends.refl hw, rfl, _, rfl, OwnL.nil cI_len⟩
  · have hcs : l.flatMap cI = l.map (Value.int .i64) := flatMap_cI l
    have hgw : w.heap[g]? = some (.cells (l.flatMap cI ++ spare).toArray 3 (0, 0)) := hw.own _ (List.mem_singleton.2 rfl) g _ (Hp.one_self _ _)
    have hH : Holds (Value.int .i64) w g 0 l.toArray := holds_of_blockI hgw (by rw [hcs]; simp)
    refine (Try.slices_Compact_int g 0 cap l w hH (by omega) e2).mono fun x w' ⟨hx, q, hw'⟩ => ?_
    generalize hts : Lib.compact l ++ List.replicate (l.length - (Lib.compact l).length) 0 = ts at hw'
    have htl : ts.length = l.length := by rw [← hts]; simp; omega
    have hb := heap_sortedI (n := q) (os := #[]) ts.toArray hgw
    have hgr := grownBy_sortedI (w := w) (g := g) (n := q) (os := #[]) ts.toArray
    rw [grow_empty] at hb hgr
    rw [← hw'] at hb hgr
    have htk := take_putCellsI (l.flatMap cI ++ spare).toArray ts (by rw [hcs]; simp; omega)
    have hsz : (putCells (Value.int .i64) 0 ts.toArray (l.flatMap cI ++ spare).toArray).size = cap * 1 := by simp [putCells]; simpa using e1
    generalize hpc : putCells (Value.int .i64) 0 ts.toArray (l.flatMap cI ++ spare).toArray = pc at hb htk hsz
    have hE := Ends.put (l' := pc.toList) (i := 0) (Ends.refl hw) rfl hgr.os hgr.tape hgr.output hgr.size (by simpa using hb) (fun k hk hne => hgr.block k hk (fun e => hne (by simpa using e)))
    have hk : pc.toList.take (Lib.compact l).length = (Lib.compact l).flatMap cI := by
      have h1 : pc.toList.take (Lib.compact l).length = (pc.toList.take ts.length).take (Lib.compact l).length := by rw [List.take_take, Nat.min_eq_left (by omega)]
      rw [h1, htk, ← hts, List.map_append, List.take_left' (by simp), flatMap_cI]
    refine ⟨_, h, _, hx, hE, rfl, _, rfl, ⟨?_, .inr ⟨g, cap, pc.toList.drop (Lib.compact l).length, rfl, ?_, ?_, by omega, e3⟩⟩, hF⟩
    · rw [flatMap_cI]; simp
    · rw [← hk, List.take_append_drop]
    · rw [← hk, List.take_append_drop]; simpa using hsz
end Go.Proofs.Ythdkhnjnhhofgaa
