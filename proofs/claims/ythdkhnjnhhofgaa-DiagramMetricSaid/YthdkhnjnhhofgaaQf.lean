/- Plain: distances are a metric. -/
import Derived.Test.YthdkhnjnhhofgaaQe
import Derived.Test.YthdkhnjnhhofgaaPg
set_option linter.unusedSimpArgs false
set_option linter.unusedVariables false
set_option maxRecDepth 100000
namespace Go.Proofs.Ythdkhnjnhhofgaa
open Go.Eng Go.RowKit Go.Kuhn

theorem iabs_swap (x y : Int) : iabs (x - y) = iabs (y - x) := by unfold iabs; omega
theorem least_swap (X Y : List Int) : leastOf (X.zip Y) = leastOf (Y.zip X) := by
  have go : ∀ X Y : List Int, leastOf (X.zip Y) ≤ leastOf (Y.zip X) := fun X Y => by
    refine leastOf_iff.2 ⟨(leastOf_iff.1 (Int.le_refl _)).1, fun p hp => ?_⟩
    have h1 : (p.2, p.1) ∈ Y.zip X := by
      obtain ⟨i, hi⟩ := List.getElem?_of_mem hp
      obtain ⟨z1, z2⟩ := List.getElem?_zip_eq_some.1 hi
      exact List.mem_of_getElem? (i := i) (List.getElem?_zip_eq_some.2 ⟨z2, z1⟩)
    have := (leastOf_iff.1 (Int.le_refl (leastOf (Y.zip X)))).2 _ h1
    rw [iabs_swap]; exact this
  exact Int.le_antisymm (go X Y) (go Y X)
theorem dist_symm (d : Int) (a b : List Br) : dist2 d a b = dist2 d b a := by
  unfold dist2
  by_cases h : (birthsOf d a).length = (birthsOf d b).length
  · rw [if_pos h, if_pos h.symm, least_swap, dd_symm]
  · rw [if_neg h, if_neg fun e => h e.symm]
theorem least_tri {X Y Z : List Int} (h1 : X.length = Y.length) (h2 : Y.length = Z.length) : leastOf (X.zip Z) ≤ leastOf (X.zip Y) + leastOf (Y.zip Z) := by
  have a := leastOf_iff.1 (Int.le_refl (leastOf (X.zip Y)))
  have b := leastOf_iff.1 (Int.le_refl (leastOf (Y.zip Z)))
  refine leastOf_iff.2 ⟨by have := a.1; have := b.1; omega, fun p hp => ?_⟩
  obtain ⟨i, hi⟩ := List.getElem?_of_mem hp
  obtain ⟨z1, z2⟩ := List.getElem?_zip_eq_some.1 hi
  have hix := (List.getElem?_eq_some_iff.1 z1).1
  have hiy : i < Y.length := by omega
  have c := a.2 (p.1, Y[i]) (List.mem_of_getElem? (i := i) (List.getElem?_zip_eq_some.2 ⟨z1, List.getElem?_eq_getElem hiy⟩))
  have d := b.2 (Y[i], p.2) (List.mem_of_getElem? (i := i) (List.getElem?_zip_eq_some.2 ⟨List.getElem?_eq_getElem hiy, z2⟩))
  unfold iabs at *; simp only at c d; omega
theorem dist_tri (d : Int) (a b c : List Br) (h1 : (dist2 d a b).2 = true) (h2 : (dist2 d b c).2 = true) : (dist2 d a c).2 = true ∧ (dist2 d a c).1 ≤ (dist2 d a b).1 + (dist2 d b c).1 := by
  unfold dist2 at *
  by_cases e1 : (birthsOf d a).length = (birthsOf d b).length
  · by_cases e2 : (birthsOf d b).length = (birthsOf d c).length
    · rw [if_pos e1, if_pos e2, if_pos (e1.trans e2)]
      refine ⟨rfl, ?_⟩
      show dd _ _ _ ≤ dd _ _ _ + dd _ _ _
      have l1 := dd_lo (a.filter (Br.finIn d)) (b.filter (Br.finIn d)) (leastOf ((birthsOf d a).zip (birthsOf d b)))
      have l2 := dd_lo (b.filter (Br.finIn d)) (c.filter (Br.finIn d)) (leastOf ((birthsOf d b).zip (birthsOf d c)))
      have p1 := pos_inj.1 (dd_pos (a.filter (Br.finIn d)) (b.filter (Br.finIn d)) (leastOf ((birthsOf d a).zip (birthsOf d b))))
      have p2 := pos_inj.1 (dd_pos (b.filter (Br.finIn d)) (c.filter (Br.finIn d)) (leastOf ((birthsOf d b).zip (birthsOf d c))))
      have n1 := (leastOf_iff.1 (Int.le_refl (leastOf ((birthsOf d a).zip (birthsOf d b))))).1
      have n2 := (leastOf_iff.1 (Int.le_refl (leastOf ((birthsOf d b).zip (birthsOf d c))))).1
      have tri := least_tri e1 e2
      refine dd_le (by omega) (pos_inj.2 ⟨p1.1.trans p2.1 (by omega) (by omega), ?_⟩)
      have := p2.2.trans p1.2 (by omega) (by omega)
      rwa [Int.add_comm] at this
    · rw [if_neg e2] at h2; cases h2
  · rw [if_neg e1] at h1; cases h1

/-! Keys, by dimensions. -/
theorem keys_open (d : Int) (l : List Br) : (keysOf l).filter (Br.openIn d) = (l.filter (Br.openIn d)).map Br.norm := by
  unfold keysOf
  rw [List.filter_map, List.filter_filter]
  refine congrArg (List.map Br.norm) (List.filter_congr fun b _ => ?_)
  show (Br.openIn d b.norm && b.cnt) = Br.openIn d b
  unfold Br.openIn Br.norm Br.cnt
  cases b.opn <;> simp
theorem keys_fin (d : Int) (l : List Br) : (keysOf l).filter (Br.finIn d) = (l.filter (Br.finIn d)).map Br.norm := by
  unfold keysOf
  rw [List.filter_map, List.filter_filter]
  refine congrArg (List.map Br.norm) (List.filter_congr fun b _ => ?_)
  show (Br.finIn d b.norm && b.cnt) = Br.finIn d b
  unfold Br.finIn Br.norm Br.cnt
  cases h : b.opn
  · simp only [Bool.false_or, Bool.not_false, Bool.and_true]
    by_cases h1 : b.dim = d <;> by_cases h2 : b.birth < b.death <;> simp [h1, h2]
  · simp
theorem keys_births (d : Int) (l : List Br) : birthsOf d l = isort (((keysOf l).filter (Br.openIn d)).map Br.birth) := by
  rw [keys_open, List.map_map]; rfl
theorem norm_sim {d : Int} {b : Br} (h : Br.finIn d b = true) : b.sim b.norm := by
  unfold Br.finIn at h
  simp at h
  refine ⟨rfl, ?_⟩
  simp [Br.norm, h.1.2]
theorem simL_trans {p q r : List Br} (h : SimL p q) (h' : SimL q r) : SimL p r := by
  obtain ⟨f, h1, h2⟩ := h
  obtain ⟨g, h3, h4⟩ := h'
  refine ⟨fun i => g (f i), fun i hi => ?_, fun i j hi hj e => h2 i j hi hj (h4 _ _ (h1 i hi).1 (h1 j hj).1 e)⟩
  obtain ⟨a1, a2⟩ := h1 i hi
  obtain ⟨b1, b2⟩ := h3 _ a1
  exact ⟨b1, a2.1.trans b2.1, a2.2.trans b2.2⟩
theorem fin_sim {a b : List Br} (d : Int) (h : (keysOf a).Perm (keysOf b)) : SimL (a.filter (Br.finIn d)) (b.filter (Br.finIn d)) := by
  have h1 : ((a.filter (Br.finIn d)).map Br.norm).Perm ((b.filter (Br.finIn d)).map Br.norm) := by
    rw [← keys_fin, ← keys_fin]; exact h.filter _
  have s1 : SimL (a.filter (Br.finIn d)) ((a.filter (Br.finIn d)).map Br.norm) := by
    have := SimL.of_map (f := id) (g := Br.norm) (List.Perm.refl (a.filter (Br.finIn d))) fun x hx => norm_sim (List.mem_filter.1 hx).2
    simpa using this
  have s2 : SimL ((b.filter (Br.finIn d)).map Br.norm) (b.filter (Br.finIn d)) := by
    have := SimL.of_map (f := Br.norm) (g := id) (List.Perm.refl (b.filter (Br.finIn d))) fun x hx => by
      obtain ⟨h1, h2⟩ := norm_sim (List.mem_filter.1 hx).2
      exact ⟨h1.symm, h2.symm⟩
    simpa using this
  exact simL_trans s1 (simL_trans (simL_perm h1) s2)
theorem same_zero {a b : List Br} (h : sameB a b = true) (d : Int) : dist2 d a b = (0, true) := by
  have hp := sameB_iff.1 h
  have hb : birthsOf d a = birthsOf d b := by
    rw [keys_births, keys_births]
    exact isort_of ((((hp.filter _).map _)).trans (isort_perm _).symm) (isort_sorted _)
  have hz : leastOf ((birthsOf d b).zip (birthsOf d b)) = 0 := by
    refine Int.le_antisymm (leastOf_iff.2 ⟨Int.le_refl _, fun p hp => ?_⟩) (leastOf_iff.1 (Int.le_refl _)).1
    obtain ⟨i, hi⟩ := List.getElem?_of_mem hp
    obtain ⟨z1, z2⟩ := List.getElem?_zip_eq_some.1 hi
    rw [z1] at z2
    rw [Option.some.inj z2]; unfold iabs; omega
  unfold dist2
  rw [hb, if_pos rfl, hz]
  have h1 := dd_congr (L := 0) (fin_sim d hp) (fin_sim d hp.symm) (simL_perm (List.Perm.refl (b.filter (Br.finIn d)))) (simL_perm (List.Perm.refl (b.filter (Br.finIn d))))
  rw [h1]
  have hI : Inj (b.filter (Br.finIn d)) (b.filter (Br.finIn d)) 0 := ⟨id, fun x hx _ => ⟨hx, by
    have : ∀ y : Br, y.apart y = 0 := fun y => by unfold Br.apart iabs; omega
    rw [show (b.filter (Br.finIn d))[id x] = (b.filter (Br.finIn d))[x] from rfl, this]; omega⟩, fun x y _ _ _ _ e => e⟩
  have := dd_le (p := b.filter (Br.finIn d)) (q := b.filter (Br.finIn d)) (Int.le_refl 0) (pos_inj.2 ⟨hI, hI⟩)
  have := dd_lo (b.filter (Br.finIn d)) (b.filter (Br.finIn d)) 0
  congr 1; omega

/-- An injection among the places bears on how often a thing occurs. -/
theorem count_range {α : Type} [DecidableEq α] (l : List α) (y : α) : l.count y = ((List.range l.length).filter fun i => decide (l[i]? = some y)).length := by
  induction l with
  | nil => rfl
  | cons x l ih =>
    rw [List.count_cons, ih, List.length_cons, List.range_succ_eq_map, List.filter_cons, List.filter_map]
    by_cases e : x = y
    · simp [e, Function.comp_def]
    · simp [e, Function.comp_def]
theorem count_le {p q : List Br} {f : Nat → Nat} (h1 : ∀ i (hi : i < p.length), ∃ h : f i < q.length, p[i] = q[f i]'h) (h2 : ∀ i j, i < p.length → j < p.length → f i = f j → i = j) (y : Br) : p.count y ≤ q.count y := by
  rw [count_range, count_range]
  have hm : ∀ i ∈ (List.range p.length).filter (fun i => decide (p[i]? = some y)), i < p.length ∧ p[i]? = some y := fun i hi => by
    obtain ⟨g1, g2⟩ := List.mem_filter.1 hi
    exact ⟨by simpa using g1, of_decide_eq_true g2⟩
  have hn : ((List.range p.length).filter (fun i => decide (p[i]? = some y))).Nodup := List.Pairwise.filter _ List.nodup_range
  have := nodup_le (((List.range p.length).filter (fun i => decide (p[i]? = some y))).map f) ((List.range q.length).filter (fun i => decide (q[i]? = some y)))
    (List.pairwise_map.2 (hn.imp_of_mem fun {a b} ha hb hne e => hne (h2 a b (hm a ha).1 (hm b hb).1 e))) fun j hj => by
      obtain ⟨i, hi, rfl⟩ := List.mem_map.1 hj
      obtain ⟨g1, g2⟩ := hm i hi
      obtain ⟨g3, g4⟩ := h1 i g1
      refine List.mem_filter.2 ⟨by simpa using g3, decide_eq_true ?_⟩
      rw [List.getElem?_eq_getElem g3, ← g4, ← g2, List.getElem?_eq_getElem g1]
  simpa using this
theorem inj_zero {d : Int} {a b : List Br} (h : Inj (a.filter (Br.finIn d)) (b.filter (Br.finIn d)) 0) (y : Br) : ((a.filter (Br.finIn d)).map Br.norm).count y ≤ ((b.filter (Br.finIn d)).map Br.norm).count y := by
  obtain ⟨f, h1, h2⟩ := h
  have hlen : ∀ x ∈ a.filter (Br.finIn d), 0 < x.len := fun x hx => by
    have := (List.mem_filter.1 hx).2
    unfold Br.finIn Br.cnt at this
    simp at this
    unfold Br.len
    have h3 := this.1.2
    rw [h3] at this
    have := this.2
    simp at this; omega
  refine count_le (f := f) (fun i hi => ?_) (fun i j hi hj e => ?_) y
  · have hi' : i < (a.filter (Br.finIn d)).length := by simpa using hi
    obtain ⟨g1, g2⟩ := h1 i hi' (hlen _ (List.getElem_mem hi'))
    refine ⟨by simpa using g1, ?_⟩
    rw [List.getElem_map, List.getElem_map, norm_eq]
    have m1 := (List.mem_filter.1 (List.getElem_mem hi')).2
    have m2 := (List.mem_filter.1 (List.getElem_mem g1)).2
    unfold Br.finIn at m1 m2
    simp at m1 m2
    unfold Br.apart iabs at g2
    exact ⟨m1.1.1.trans m2.1.1.symm, by omega, m1.1.2.trans m2.1.2.symm, .inr (by omega)⟩
  · have hi' : i < (a.filter (Br.finIn d)).length := by simpa using hi
    have hj' : j < (a.filter (Br.finIn d)).length := by simpa using hj
    exact h2 i j hi' hj' (hlen _ (List.getElem_mem hi')) (hlen _ (List.getElem_mem hj')) e
theorem zip_zero : ∀ {X Y : List Int}, X.length = Y.length → (∀ p ∈ X.zip Y, p.1 = p.2) → X = Y
  | [], [], _, _ => rfl
  | x :: X, y :: Y, h, hp => by
    rw [List.zip_cons_cons] at hp
    rw [show x = y from hp (x, y) (by simp), zip_zero (by simpa using h) fun p hm => hp p (List.mem_cons_of_mem _ hm)]
theorem zero_parts {d : Int} {a b : List Br} (h : dist2 d a b = (0, true)) : birthsOf d a = birthsOf d b ∧ ∀ y, ((a.filter (Br.finIn d)).map Br.norm).count y = ((b.filter (Br.finIn d)).map Br.norm).count y := by
  unfold dist2 at h
  by_cases e : (birthsOf d a).length = (birthsOf d b).length
  · rw [if_pos e] at h
    have h0 : dd (a.filter (Br.finIn d)) (b.filter (Br.finIn d)) (leastOf ((birthsOf d a).zip (birthsOf d b))) = 0 := congrArg Prod.fst h
    have h1 := dd_lo (a.filter (Br.finIn d)) (b.filter (Br.finIn d)) (leastOf ((birthsOf d a).zip (birthsOf d b)))
    have h2 := dd_pos (a.filter (Br.finIn d)) (b.filter (Br.finIn d)) (leastOf ((birthsOf d a).zip (birthsOf d b)))
    rw [h0] at h1 h2
    refine ⟨zip_zero e fun p hp => ?_, fun y => ?_⟩
    · have := (leastOf_iff.1 h1).2 p hp
      unfold iabs at this; omega
    · obtain ⟨i1, i2⟩ := pos_inj.1 h2
      exact Nat.le_antisymm (inj_zero i1 y) (inj_zero i2 y)
  · rw [if_neg e] at h; cases h
theorem zero_same {a b : List Br} (ha : ∀ x ∈ a, 0 ≤ x.dim ∧ x.dim ≤ 2) (hb : ∀ x ∈ b, 0 ≤ x.dim ∧ x.dim ≤ 2) (h : ∀ d : Int, 0 ≤ d → d ≤ 2 → dist2 d a b = (0, true)) : sameB a b = true := by
  rw [sameB_iff, List.perm_iff_count]
  intro y
  by_cases hd : 0 ≤ y.dim ∧ y.dim ≤ 2
  · obtain ⟨h1, h2⟩ := zero_parts (h y.dim hd.1 hd.2)
    by_cases ho : Br.openIn y.dim y = true
    · rw [← List.count_filter (l := keysOf a) ho, ← List.count_filter (l := keysOf b) ho, keys_open, keys_open]
      have key : ∀ l : List Br, (l.filter (Br.openIn y.dim)).map Br.norm = ((l.filter (Br.openIn y.dim)).map Br.birth).map fun x => (⟨y.dim, x, 0, true, 0, 0⟩ : Br) := fun l => by
        rw [List.map_map]
        refine List.map_congr_left fun x hx => ?_
        have := (List.mem_filter.1 hx).2
        unfold Br.openIn at this
        simp at this
        simp [Br.norm, this.1, this.2]
      rw [key, key]
      have hp : ((a.filter (Br.openIn y.dim)).map Br.birth).Perm ((b.filter (Br.openIn y.dim)).map Br.birth) := by
        have e1 := isort_perm ((a.filter (Br.openIn y.dim)).map Br.birth)
        have e2 := isort_perm ((b.filter (Br.openIn y.dim)).map Br.birth)
        have e3 : isort ((a.filter (Br.openIn y.dim)).map Br.birth) = isort ((b.filter (Br.openIn y.dim)).map Br.birth) := h1
        exact e1.symm.trans (e3 ▸ e2)
      exact List.perm_iff_count.1 (hp.map _) y
    · by_cases hf : Br.finIn y.dim y = true
      · rw [← List.count_filter (l := keysOf a) hf, ← List.count_filter (l := keysOf b) hf, keys_fin, keys_fin]
        exact h2 y
      · have hnot : ∀ l, y ∉ keysOf l := fun l hm => by
          obtain ⟨x, hx, rfl⟩ := List.mem_map.1 hm
          have hc := (List.mem_filter.1 hx).2
          unfold Br.openIn Br.norm at ho
          unfold Br.finIn Br.cnt Br.norm at hf
          unfold Br.cnt at hc
          cases hh : x.opn
          · rw [hh] at hc hf; simp at hc hf; omega
          · rw [hh] at ho; simp at ho
        rw [List.count_eq_zero.2 (hnot a), List.count_eq_zero.2 (hnot b)]
  · have hnot : ∀ l, (∀ x ∈ l, 0 ≤ x.dim ∧ x.dim ≤ 2) → y ∉ keysOf l := fun l hl hm => by
      obtain ⟨x, hx, rfl⟩ := List.mem_map.1 hm
      exact hd (hl x (List.mem_filter.1 hx).1)
    rw [List.count_eq_zero.2 (hnot a ha), List.count_eq_zero.2 (hnot b hb)]
end Go.Proofs.Ythdkhnjnhhofgaa
