/- Plain: who finds no partner shows that not everyone has one. -/
import Derived.Test.YthdkhnjnhhofgaaKm
set_option linter.unusedVariables false
namespace Go.Kuhn

theorem nodup_le {α : Type} [DecidableEq α] : ∀ (l l' : List α), l.Nodup → (∀ x ∈ l, x ∈ l') → l.length ≤ l'.length
  | [], l', _, _ => by simp
  | a :: l, l', hn, h => by
    have h1 : a ∈ l' := h a (by simp)
    have h2 : ∀ x ∈ l, x ∈ l'.erase a := fun x hx => by
      have : x ≠ a := fun e => (List.nodup_cons.1 hn).1 (e ▸ hx)
      exact (List.mem_erase_of_ne this).2 (h x (by simp [hx]))
    have := nodup_le l (l'.erase a) (List.nodup_cons.1 hn).2 h2
    rw [List.length_erase_of_mem h1] at this
    have := List.length_pos_of_mem h1
    simp; omega

/-- Everyone has a partner. -/
def Pos (F : Nat → Nat → Bool) (n : Nat) : Prop := ∃ part : List Int, part.length = n ∧ KPre F n part ∧ ∀ x : Nat, x < n → part.count (x : Int) = 1
/-- Someone finds none. -/
def Neg (F : Nat → Nat → Bool) (n : Nat) : Prop := ∃ (i : Nat) (part : List Int) (seen : List Bool), i < n ∧ part.length = n ∧ KPre F n part ∧ (∀ x : Nat, part.count (x : Int) = if x < i then 1 else 0) ∧ LI F i n n (List.replicate n false) part seen

/-- Those who are not more than once in a list lie at one place each. -/
theorem one_place {part : List Int} {x : Int} (h : part.count x ≤ 1) {j k : Nat} (hj : part[j]? = some x) (hk : part[k]? = some x) : j = k := by
  induction part generalizing j k with
  | nil => simp at hj
  | cons a l ih =>
    cases j with
    | zero =>
      cases k with
      | zero => rfl
      | succ k =>
        simp at hj hk; subst hj
        have h1 : l.count a ≥ 1 := List.count_pos_iff.2 (List.mem_of_getElem? hk)
        rw [List.count_cons_self] at h; omega
    | succ j =>
      cases k with
      | zero =>
        simp at hj hk; subst hk
        have h1 : l.count a ≥ 1 := List.count_pos_iff.2 (List.mem_of_getElem? hj)
        rw [List.count_cons_self] at h; omega
      | succ k =>
        have h1 : l.count x ≤ 1 := Nat.le_trans List.count_le_count_cons h
        have e : j = k := ih h1 (by simpa using hj) (by simpa using hk)
        omega

/-- The general form: the search of i fails; those who have partners have one each. Then no choice of places gives i, and all partners of seen places, places of their own that fit. -/
theorem hall {F : Nat → Nat → Bool} {i n : Nat} {part : List Int} {seen0 seen : List Bool} (h0 : ∀ j : Nat, seen0[j]? ≠ some true) (hs : seen0.length = n) (hone : ∀ x : Nat, part.count (x : Int) ≤ 1) (hi : part.count (i : Int) = 0) (L : LI F i n n seen0 part seen)
    (pos : Nat → Nat) (hpos : ∀ x, x = i ∨ (x : Int) ∈ part → pos x < n ∧ F x (pos x) = true) (hinj : ∀ x y, (x = i ∨ (x : Int) ∈ part) → (y = i ∨ (y : Int) ∈ part) → pos x = pos y → x = y) : False := by
  let S := (List.range n).filter fun k => seen[k]? == some true
  have hS : ∀ k, k ∈ S ↔ seen[k]? = some true := fun k => by
    simp only [S, List.mem_filter, List.mem_range, beq_iff_eq]
    constructor
    · exact fun h => h.2
    · intro h
      refine ⟨?_, h⟩
      obtain ⟨h', _⟩ := List.getElem?_eq_some_iff.1 h
      have e1 := L.slen
      omega
  have hSn : S.Nodup := List.Pairwise.filter _ List.nodup_range
  let f : Nat → Nat := fun k => (part[k]?.getD 0).toNat
  have hf : ∀ k ∈ S, part[k]? = some ((f k : Nat) : Int) ∧ ∀ j', j' < n → F (f k) j' = true → seen[j']? = some true := fun k hk => by
    obtain ⟨p, e1, e2⟩ := L.closed k ((hS k).1 hk) (h0 k)
    have : f k = p := by simp [f, e1]
    rw [this]; exact ⟨e1, e2⟩
  have hmem : ∀ k ∈ S, ((f k : Nat) : Int) ∈ part := fun k hk => List.mem_of_getElem? (hf k hk).1
  have hfi : ∀ k ∈ S, f k ≠ i := fun k hk e => by
    have := hmem k hk
    rw [e] at this
    have := List.count_pos_iff.2 this
    omega
  -- the places of i and of the partners
  have hn : (i :: S.map f).Nodup := by
    refine List.nodup_cons.2 ⟨fun h => ?_, ?_⟩
    · obtain ⟨k, hk, e⟩ := List.mem_map.1 h
      exact hfi k hk e
    · refine List.pairwise_map.2 (hSn.imp_of_mem fun {a b} ha hb hne e => hne ?_)
      have h1 := (hf a ha).1
      have h2 := (hf b hb).1
      rw [e] at h1
      exact one_place (hone (f b)) h1 h2
  have hin : ∀ x ∈ i :: S.map f, x = i ∨ (x : Int) ∈ part := fun x hx => by
    rcases List.mem_cons.1 hx with e | hx
    · exact .inl e
    · obtain ⟨k, hk, e⟩ := List.mem_map.1 hx
      exact .inr (e ▸ hmem k hk)
  have hn2 : ((i :: S.map f).map pos).Nodup := List.pairwise_map.2 (hn.imp_of_mem fun {a b} ha hb hne e => hne (hinj a b (hin a ha) (hin b hb) e))
  have hsub : ∀ y ∈ (i :: S.map f).map pos, y ∈ S := fun y hy => by
    obtain ⟨x, hx, rfl⟩ := List.mem_map.1 hy
    obtain ⟨p1, p2⟩ := hpos x (hin x hx)
    rw [hS]
    rcases List.mem_cons.1 hx with rfl | hx
    · exact L.tried _ p1 p1 p2
    · obtain ⟨k, hk, rfl⟩ := List.mem_map.1 hx
      exact (hf k hk).2 _ p1 p2
  have := nodup_le _ S hn2 hsub
  simp at this
  omega

theorem neg_not_pos {F : Nat → Nat → Bool} {n : Nat} (h : Neg F n) : ¬ Pos F n := by
  rintro ⟨p2, hl2, hK2, hc2⟩
  obtain ⟨i, part, seen, hi, hl, hK, hc, L⟩ := h
  have hex : ∀ x, x < n → ∃ k, p2[k]? = some (x : Int) := fun x hx => by
    have : (x : Int) ∈ p2 := List.count_pos_iff.1 (by rw [hc2 x hx]; decide)
    obtain ⟨k, hk, e⟩ := List.getElem_of_mem this
    exact ⟨k, by rw [List.getElem?_eq_getElem hk, e]⟩
  classical
  let pos : Nat → Nat := fun x => if h : x < n then (hex x h).choose else 0
  have hp : ∀ x, x < n → p2[pos x]? = some (x : Int) := fun x hx => by
    simp only [pos, hx, dif_pos]; exact (hex x hx).choose_spec
  have hlt : ∀ x : Nat, x = i ∨ (x : Int) ∈ part → x < n := fun x hx => by
    rcases hx with rfl | hx
    · exact hi
    · have h1 := List.count_pos_iff.2 hx
      rw [hc x] at h1
      split at h1
      · omega
      · omega
  refine hall (pos := pos) (by simp [List.getElem?_replicate]) (by simp) (fun x => by rw [hc x]; split <;> omega) (by rw [hc i, if_neg (by omega)]) L (fun x hx => ?_) (fun x y hx hy e => ?_)
  · have h1 := hp x (hlt x hx)
    have h2 := (List.getElem?_eq_some_iff.1 h1)
    obtain ⟨h3, h4⟩ := h2
    refine ⟨by omega, ?_⟩
    rcases hK2 _ h3 with h5 | ⟨p, h5, _, h6⟩
    · rw [h4] at h5; omega
    · rw [h4] at h5
      have : p = x := by omega
      rwa [this] at h6
  · have h1 := hp x (hlt x hx)
    have h2 := hp y (hlt y hy)
    rw [e, h2] at h1
    have := Option.some.inj h1
    omega
theorem Pos.mono {F G : Nat → Nat → Bool} {n : Nat} (h : Pos F n) (hFG : ∀ i k, F i k = true → G i k = true) : Pos G n := by
  obtain ⟨p, h1, h2, h3⟩ := h
  exact ⟨p, h1, fun k hk => by
    rcases h2 k hk with h4 | ⟨q, h4, h5, h6⟩
    · exact .inl h4
    · exact .inr ⟨q, h4, h5, hFG _ _ h6⟩, h3⟩
end Go.Kuhn
