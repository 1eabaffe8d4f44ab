/- Plain: both lists are covered exactly if everyone has a partner. -/
import Derived.Test.YthdkhnjnhhofgaaWl
import Derived.Test.YthdkhnjnhhofgaaKr
set_option linter.unusedSimpArgs false
set_option linter.unusedVariables false
set_option maxRecDepth 100000
namespace Go.Proofs.Ythdkhnjnhhofgaa
open Go.Kuhn

theorem place_of {F : Nat → Nat → Bool} {nl : Nat} {part : List Int} (hK : KPre F nl part) {x : Nat} (h : 0 < part.count (x : Int)) : ∃ k, part[k]? = some (x : Int) ∧ k < part.length ∧ F x k = true := by
  obtain ⟨k, hk, e⟩ := List.getElem_of_mem (List.count_pos_iff.1 h)
  refine ⟨k, by rw [List.getElem?_eq_getElem hk, e], hk, ?_⟩
  rcases hK k hk with h1 | ⟨p, h1, _, h2⟩
  · rw [e] at h1; omega
  · rw [e] at h1
    have : p = x := by omega
    rwa [this] at h2
/-- A way to place all that a test names. -/
theorem hall' {F G : Nat → Nat → Bool} {i n : Nat} {part : List Int} {seen : List Bool} (T : Nat → Prop) (hone : ∀ x : Nat, part.count (x : Int) ≤ 1) (hi : part.count (i : Int) = 0) (hT : ∀ x : Nat, x = i ∨ (x : Int) ∈ part → T x) (L : LI F i n n (List.replicate n false) part seen)
    (R : Nat → Nat → Prop) (hex : ∀ x, T x → ∃ k, k < n ∧ F x k = true ∧ R x k) (hinj : ∀ x y k, R x k → R y k → x = y) : False := by
  classical
  let pos : Nat → Nat := fun x => if h : T x then (hex x h).choose else 0
  have hp : ∀ x, T x → pos x < n ∧ F x (pos x) = true ∧ R x (pos x) := fun x hx => by
    have : pos x = (hex x hx).choose := by simp only [pos, hx, dif_pos]
    rw [this]; exact (hex x hx).choose_spec
  exact hall (pos := pos) (by simp [List.getElem?_replicate]) (by simp) hone hi L (fun x hx => ⟨(hp x (hT x hx)).1, (hp x (hT x hx)).2.1⟩)
    (fun x y hx hy e => hinj x y (pos x) (hp x (hT x hx)).2.2 (by rw [e]; exact (hp y (hT y hy)).2.2))

theorem longB_lt {la : List Br} {c : Int} {i : Nat} (h : longB la c i = true) : ∃ hi : i < la.length, c < la[i].len := by
  unfold longB at h
  split at h
  · rename_i hi; exact ⟨hi, of_decide_eq_true h⟩
  · cases h
theorem fitsR_lt {la lb : List Br} {c : Int} {i k : Nat} (h : fitsR la lb c i k = true) : ∃ (hi : i < la.length) (hk : k < lb.length), la[i].apart lb[k] ≤ c := by
  unfold fitsR at h
  split at h
  · rename_i hi; exact ⟨hi.1, hi.2, of_decide_eq_true h⟩
  · cases h
theorem apart_comm (x y : Br) : x.apart y = y.apart x := by unfold Br.apart iabs; omega
theorem fitsR_comm {la lb : List Br} {c : Int} {i k : Nat} (h : fitsR la lb c i k = true) : fitsR lb la c k i = true := by
  obtain ⟨hi, hk, h⟩ := fitsR_lt h
  unfold fitsR; rw [dif_pos ⟨hk, hi⟩, apart_comm]; exact decide_eq_true h

theorem cneg_not_cpos {la lb : List Br} {c : Int} (h : CNeg la lb c) : ¬ CPos la lb c := by
  rintro ⟨p2, hl2, hK2, hc2⟩
  obtain ⟨i, part, seen, hi, hl, hpl, hK, hc, L⟩ := h
  refine hall' (G := fitsR la lb c) (fun x => x < la.length ∧ longB la c x = true) (fun x => by rw [hc x]; split <;> omega) (by rw [hc i, if_neg (by omega)]) (fun x hx => ?_) L (fun x k => p2[k]? = some (x : Int)) (fun x hx => ?_) (fun x y k h1 h2 => by rw [h1] at h2; have := Option.some.inj h2; omega)
  · rcases hx with rfl | hx
    · exact ⟨hi, hl⟩
    · have := List.count_pos_iff.2 hx
      rw [hc x] at this
      split at this
      · rename_i h1; exact ⟨by omega, h1.2⟩
      · omega
  · obtain ⟨k, h1, h2, h3⟩ := place_of hK2 (x := x) (by rw [hc2 x, if_pos hx]; decide)
    exact ⟨k, by omega, h3, h1⟩

theorem cpos_or_cneg (la lb : List Br) (c : Int) : CPos la lb c ∨ CNeg la lb c := by
  have go : ∀ i, i ≤ la.length → (∃ part : List Int, part.length = lb.length ∧ KPre (fitsR la lb c) la.length part ∧ ∀ x : Nat, part.count (x : Int) = if x < i ∧ longB la c x = true then 1 else 0) ∨ CNeg la lb c := by
    intro i
    induction i with
    | zero => exact fun _ => .inl ⟨List.replicate lb.length (-1), by simp, fun k hk => .inl (by simp), fun x => by rw [List.count_replicate, if_neg (by simp), if_neg (by omega)]⟩
    | succ i ih =>
      intro hi
      rcases ih (by omega) with ⟨part, h1, h2, h3⟩ | h
      · cases hl : longB la c i with
        | false =>
          refine .inl ⟨part, h1, h2, fun x => ?_⟩
          rw [h3 x]
          by_cases g2 : x = i
          · subst g2; simp [hl]
          · by_cases g1 : x < i
            · simp [g1, show x < i + 1 by omega]
            · simp [g1, show ¬ x < i + 1 by omega]
        | true =>
          rcases kuhn_ex (fitsR la lb c) la.length lb.length _ i (List.replicate lb.length false) part (Nat.le_refl _) (by omega) (by simp) h1 h2 with ⟨s', p', hT⟩ | ⟨s', hL⟩
          · refine .inl ⟨p', by rw [hT.plen, h1], hT.pre, fun x => ?_⟩
            rw [hT.cnt x, h3 x]
            by_cases g2 : x = i
            · subst g2; simp [hl]
            · by_cases g1 : x < i
              · simp [g1, g2, show x < i + 1 by omega]
              · simp [g1, g2, show ¬ x < i + 1 by omega]
          · exact .inr ⟨i, part, s', by omega, hl, h1, h2, h3, hL⟩
      · exact .inr h
  rcases go la.length (Nat.le_refl _) with ⟨part, h1, h2, h3⟩ | h
  · exact .inl ⟨part, h1, h2, h3⟩
  · exact .inr h

theorem fitsD_real {la lb : List Br} {c : Int} {i k : Nat} (h : fitsD la lb c i k = true) : (i < la.length → k < lb.length → fitsR la lb c i k = true) ∧ (∀ hi : i < la.length, ¬ k < lb.length → la[i].len ≤ c) ∧ (¬ i < la.length → ∀ hk : k < lb.length, lb[k].len ≤ c) := by
  unfold fitsD at h
  refine ⟨fun h1 h2 => ?_, fun h1 h2 => ?_, fun h1 h2 => ?_⟩
  · rw [dif_pos ⟨h1, h2⟩] at h; unfold fitsR; rw [dif_pos ⟨h1, h2⟩]; exact h
  · rw [dif_neg (by omega), dif_pos h1] at h; exact of_decide_eq_true h
  · rw [dif_neg (by omega), dif_neg h1, dif_pos h2] at h; exact of_decide_eq_true h

theorem pos_left {la lb : List Br} {c : Int} (h : Pos (fitsD la lb c) (la.length + lb.length)) : ¬ CNeg la lb c := by
  rintro ⟨i, part, seen, hi, hl, hpl, hK, hc, L⟩
  obtain ⟨p2, hl2, hK2, hc2⟩ := h
  refine hall' (G := fitsR la lb c) (fun x => x < la.length ∧ longB la c x = true) (fun x => by rw [hc x]; split <;> omega) (by rw [hc i, if_neg (by omega)]) (fun x hx => ?_) L (fun x k => p2[k]? = some (x : Int)) (fun x hx => ?_) (fun x y k h1 h2 => by rw [h1] at h2; have := Option.some.inj h2; omega)
  · rcases hx with rfl | hx
    · exact ⟨hi, hl⟩
    · have := List.count_pos_iff.2 hx
      rw [hc x] at this
      split at this
      · rename_i h1; exact ⟨by omega, h1.2⟩
      · omega
  · obtain ⟨k, h1, h2, h3⟩ := place_of hK2 (x := x) (by rw [hc2 x (by omega)]; decide)
    obtain ⟨f1, f2, _⟩ := fitsD_real h3
    obtain ⟨g1, g2⟩ := longB_lt hx.2
    rcases Nat.lt_or_ge k lb.length with hk | hk
    · exact ⟨k, hk, f1 hx.1 hk, h1⟩
    · have := f2 g1 (by omega); omega
theorem full {F : Nat → Nat → Bool} {n : Nat} {part : List Int} (hl : part.length = n) (hK : KPre F n part) (hc : ∀ x : Nat, x < n → part.count (x : Int) = 1) (k : Nat) (hk : k < n) : ∃ p : Nat, p < n ∧ part[k]? = some (p : Int) ∧ F p k = true := by
  rcases hK k (by omega) with h | ⟨p, h1, h2, h3⟩
  · exfalso
    have hex : ∀ x, x < n → ∃ j, part[j]? = some (x : Int) := fun x hx => by
      obtain ⟨j, h1, _, _⟩ := place_of hK (x := x) (by rw [hc x hx]; decide)
      exact ⟨j, h1⟩
    classical
    let pos : Nat → Nat := fun x => if h : x < n then (hex x h).choose else 0
    have hp : ∀ x, x < n → part[pos x]? = some (x : Int) := fun x hx => by
      have : pos x = (hex x hx).choose := by simp only [pos, hx, dif_pos]
      rw [this]; exact (hex x hx).choose_spec
    have h1 : ((List.range n).map pos).Nodup := List.pairwise_map.2 (List.nodup_range.imp_of_mem fun {a b} ha hb hne e => hne (by
      have e1 := hp a (by simpa using ha)
      have e2 := hp b (by simpa using hb)
      rw [e, e2] at e1
      have := Option.some.inj e1
      omega))
    have h2 : ∀ y ∈ (List.range n).map pos, y ∈ (List.range n).erase k := fun y hy => by
      obtain ⟨x, hx, rfl⟩ := List.mem_map.1 hy
      have e1 := hp x (by simpa using hx)
      have hlt := (List.getElem?_eq_some_iff.1 e1).1
      have hne : pos x ≠ k := fun e => by
        rw [e, List.getElem?_eq_getElem (by omega), h] at e1
        have := Option.some.inj e1
        omega
      exact (List.mem_erase_of_ne hne).2 (by simp; omega)
    have := nodup_le _ _ h1 h2
    rw [List.length_map, List.length_erase_of_mem (by simpa using hk), List.length_range] at this
    omega
  · exact ⟨p, h2, by rw [List.getElem?_eq_getElem (by omega), h1], h3⟩
theorem pos_right {la lb : List Br} {c : Int} (h : Pos (fitsD la lb c) (la.length + lb.length)) : ¬ CNeg lb la c := by
  rintro ⟨i, part, seen, hi, hl, hpl, hK, hc, L⟩
  obtain ⟨p2, hl2, hK2, hc2⟩ := h
  refine hall' (G := fitsR lb la c) (fun x => x < lb.length ∧ longB lb c x = true) (fun x => by rw [hc x]; split <;> omega) (by rw [hc i, if_neg (by omega)]) (fun x hx => ?_) L (fun x k => p2[x]? = some (k : Int)) (fun x hx => ?_) (fun x y k h1 h2 => one_place (by
      rcases Nat.lt_or_ge k (la.length + lb.length) with h3 | h3
      · rw [hc2 k h3]; decide
      · exfalso
        have hxl := (List.getElem?_eq_some_iff.1 h1).1
        rcases hK2 x hxl with h4 | ⟨p, h4, h5, _⟩
        · rw [List.getElem?_eq_getElem hxl, h4] at h1; have := Option.some.inj h1; omega
        · rw [List.getElem?_eq_getElem hxl, h4] at h1; have := Option.some.inj h1; omega) h1 h2)
  · rcases hx with rfl | hx
    · exact ⟨hi, hl⟩
    · have := List.count_pos_iff.2 hx
      rw [hc x] at this
      split at this
      · rename_i h1; exact ⟨by omega, h1.2⟩
      · omega
  · obtain ⟨p, h1, h2, h3⟩ := full hl2 hK2 hc2 x (by omega)
    obtain ⟨f1, _, f3⟩ := fitsD_real h3
    obtain ⟨g1, g2⟩ := longB_lt hx.2
    rcases Nat.lt_or_ge p la.length with hp | hp
    · exact ⟨p, hp, fitsR_comm (f1 hp hx.1), h2⟩
    · have := f3 (by omega) g1; omega
end Go.Proofs.Ythdkhnjnhhofgaa
