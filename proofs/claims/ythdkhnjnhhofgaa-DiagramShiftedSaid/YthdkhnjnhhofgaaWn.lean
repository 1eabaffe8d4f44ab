/- Plain: who covers both lists can place everyone. -/
import Derived.Test.YthdkhnjnhhofgaaWm
set_option linter.unusedSimpArgs false
set_option linter.unusedVariables false
set_option maxRecDepth 100000
namespace Go.Proofs.Ythdkhnjnhhofgaa
open Go.Kuhn

theorem violator {F : Nat → Nat → Bool} {n : Nat} (h : Neg F n) : ∃ Ls S : List Nat, Ls.Nodup ∧ S.Nodup ∧ Ls.length = S.length + 1 ∧ (∀ k ∈ S, k < n) ∧ ∀ x ∈ Ls, x < n ∧ ∀ k, k < n → F x k = true → k ∈ S := by
  obtain ⟨i, part, seen, hi, hl, hK, hc, L⟩ := h
  let S := (List.range n).filter fun k => seen[k]? == some true
  have hS : ∀ k, k ∈ S ↔ seen[k]? = some true := fun k => by
    simp only [S, List.mem_filter, List.mem_range, beq_iff_eq]
    constructor
    · exact fun h => h.2
    · intro h
      refine ⟨?_, h⟩
      obtain ⟨h', _⟩ := List.getElem?_eq_some_iff.1 h
      have e1 := L.slen
      simp at e1; omega
  have hSn : S.Nodup := List.Pairwise.filter _ List.nodup_range
  let f : Nat → Nat := fun k => (part[k]?.getD 0).toNat
  have hf : ∀ k ∈ S, part[k]? = some ((f k : Nat) : Int) ∧ ∀ j', j' < n → F (f k) j' = true → seen[j']? = some true := fun k hk => by
    obtain ⟨p, e1, e2⟩ := L.closed k ((hS k).1 hk) (by simp [List.getElem?_replicate])
    have : f k = p := by simp [f, e1]
    rw [this]; exact ⟨e1, e2⟩
  have hlt : ∀ k ∈ S, f k < i := fun k hk => by
    have h1 := List.count_pos_iff.2 (List.mem_of_getElem? (hf k hk).1)
    rw [hc (f k)] at h1
    split at h1
    · assumption
    · omega
  refine ⟨i :: S.map f, S, ?_, hSn, by simp, fun k hk => by simpa using (List.mem_filter.1 hk).1, fun x hx => ?_⟩
  · refine List.nodup_cons.2 ⟨fun h => ?_, ?_⟩
    · obtain ⟨k, hk, e⟩ := List.mem_map.1 h
      have := hlt k hk; omega
    · refine List.pairwise_map.2 (hSn.imp_of_mem fun {a b} ha hb hne e => hne ?_)
      have h1 := (hf a ha).1
      have h2 := (hf b hb).1
      rw [e] at h1
      exact one_place (by rw [hc (f b)]; split <;> omega) h1 h2
  · rcases List.mem_cons.1 hx with rfl | hx
    · exact ⟨hi, fun k hk hF => (hS k).2 (L.tried k hk hk hF)⟩
    · obtain ⟨k, hk, rfl⟩ := List.mem_map.1 hx
      exact ⟨by have := hlt k hk; omega, fun j hj hF => (hS j).2 ((hf k hk).2 j hj hF)⟩


theorem cpos_pos {la lb : List Br} {c : Int} (h : CPos la lb c) : ∃ pos : Nat → Nat, (∀ x, x < la.length → longB la c x = true → pos x < lb.length ∧ fitsR la lb c x (pos x) = true) ∧ ∀ x y, x < la.length → longB la c x = true → y < la.length → longB la c y = true → pos x = pos y → x = y := by
  obtain ⟨p2, hl2, hK2, hc2⟩ := h
  have hex : ∀ x, (x < la.length ∧ longB la c x = true) → ∃ k, p2[k]? = some (x : Int) ∧ k < lb.length ∧ fitsR la lb c x k = true := fun x hx => by
    obtain ⟨k, h1, h2, h3⟩ := place_of hK2 (x := x) (by rw [hc2 x, if_pos hx]; decide)
    exact ⟨k, h1, by omega, h3⟩
  classical
  let pos : Nat → Nat := fun x => if h : x < la.length ∧ longB la c x = true then (hex x h).choose else 0
  have hp : ∀ x, (x < la.length ∧ longB la c x = true) → p2[pos x]? = some (x : Int) ∧ pos x < lb.length ∧ fitsR la lb c x (pos x) = true := fun x hx => by
    have : pos x = (hex x hx).choose := by simp only [pos, hx, and_self, dif_pos]
    rw [this]; exact (hex x hx).choose_spec
  refine ⟨pos, fun x h1 h2 => (hp x ⟨h1, h2⟩).2, fun x y h1 h2 h3 h4 e => ?_⟩
  have e1 := (hp x ⟨h1, h2⟩).1
  have e2 := (hp y ⟨h3, h4⟩).1
  rw [e, e2] at e1
  have := Option.some.inj e1
  omega
theorem range_nodup_map (n a : Nat) : ((List.range n).map (· + a)).Nodup := List.pairwise_map.2 (List.nodup_range.imp fun h e => h (by omega))

theorem both_pos {p q : List Br} {c : Int} (h1 : CPos p q c) (h2 : CPos q p c) : Pos (fitsD p q c) (p.length + q.length) := by
  rcases pos_or_neg (fitsD p q c) (p.length + q.length) with h | h
  · exact h
  exfalso
  obtain ⟨Ls, S, hLn, hSn, hlen, hSl, hL⟩ := violator h
  by_cases hd : ∃ x ∈ Ls, p.length ≤ x
  · -- a place without a bar: all places without bars and all short bars lie in S
    obtain ⟨d, hdL, hdp⟩ := hd
    have hdS := (hL d hdL).2
    have hSd : ∀ k, q.length ≤ k → k < p.length + q.length → k ∈ S := fun k hk hk' => hdS k hk' (by
      unfold fitsD; rw [dif_neg (by omega), dif_neg (by omega), dif_neg (by omega)])
    have hSs : ∀ k (hk : k < q.length), longB q c k = false → k ∈ S := fun k hk hl => hdS k (by omega) (by
      unfold fitsD; rw [dif_neg (by omega), dif_neg (by omega), dif_pos hk]
      unfold longB at hl; rw [dif_pos hk] at hl
      have := of_decide_eq_false hl
      exact decide_eq_true (by omega))
    obtain ⟨pos, hp, hinj⟩ := cpos_pos h2
    let U := (List.range q.length).filter fun k => decide (k ∉ S)
    have hU : ∀ k ∈ U, k < q.length ∧ longB q c k = true ∧ k ∉ S := fun k hk => by
      obtain ⟨g1, g2⟩ := List.mem_filter.1 hk
      have g1 : k < q.length := by simpa using g1
      have g2 : k ∉ S := of_decide_eq_true g2
      refine ⟨g1, ?_, g2⟩
      cases e : longB q c k with
      | true => rfl
      | false => exact absurd (hSs k g1 e) g2
    have hUn : U.Nodup := List.Pairwise.filter _ List.nodup_range
    have c1 := nodup_le (List.range (p.length + q.length)) (S ++ U) List.nodup_range fun k hk => by
      have hk : k < p.length + q.length := by simpa using hk
      by_cases hS : k ∈ S
      · exact List.mem_append_left _ hS
      · refine List.mem_append_right _ (List.mem_filter.2 ⟨?_, decide_eq_true hS⟩)
        rcases Nat.lt_or_ge k q.length with g | g
        · simpa using g
        · exact absurd (hSd k g hk) hS
    have c2 := nodup_le (Ls ++ U.map pos) (List.range (p.length + q.length)) (by
      refine List.nodup_append.2 ⟨hLn, List.pairwise_map.2 (hUn.imp_of_mem fun {a b} ha hb hne e => hne (hinj a b (hU a ha).1 (hU a ha).2.1 (hU b hb).1 (hU b hb).2.1 e)), fun a ha b hb e => ?_⟩
      obtain ⟨k, hk, rfl⟩ := List.mem_map.1 hb
      obtain ⟨g1, g2, g3⟩ := hU k hk
      obtain ⟨g4, g5⟩ := hp k g1 g2
      subst e
      refine g3 ((hL _ ha).2 k (by omega) ?_)
      have := fitsR_comm g5
      obtain ⟨i1, i2, i3⟩ := fitsR_lt this
      unfold fitsD; rw [dif_pos ⟨i1, i2⟩]; exact decide_eq_true i3) fun x hx => by
      rcases List.mem_append.1 hx with hx | hx
      · simpa using (hL x hx).1
      · obtain ⟨k, hk, rfl⟩ := List.mem_map.1 hx
        have := (hp k (hU k hk).1 (hU k hk).2.1).1
        simp; omega
    simp at c1 c2
    omega
  · have hreal : ∀ x ∈ Ls, x < p.length := fun x hx => by
      rcases Nat.lt_or_ge x p.length with g | g
      · exact g
      · exact absurd ⟨x, hx, g⟩ hd
    by_cases hs : ∃ x ∈ Ls, longB p c x = false
    · -- a short bar: all places without bars lie in S
      obtain ⟨x, hx, hl⟩ := hs
      have hxp := hreal x hx
      have hlx : p[x].len ≤ c := by
        unfold longB at hl; rw [dif_pos hxp] at hl
        have := of_decide_eq_false hl
        omega
      have c1 := nodup_le Ls (List.range p.length) hLn fun y hy => by simpa using hreal y hy
      have c2 := nodup_le ((List.range p.length).map (· + q.length)) S (range_nodup_map _ _) fun k hk => by
        obtain ⟨j, hj, rfl⟩ := List.mem_map.1 hk
        have hj : j < p.length := by simpa using hj
        refine (hL x hx).2 _ (by omega) ?_
        unfold fitsD; rw [dif_neg (by omega), dif_pos hxp]; exact decide_eq_true hlx
      simp at c1 c2
      omega
    · have hlong : ∀ x ∈ Ls, longB p c x = true := fun x hx => by
        cases e : longB p c x with
        | true => rfl
        | false => exact absurd ⟨x, hx, e⟩ hs
      obtain ⟨pos, hp, hinj⟩ := cpos_pos h1
      have c1 := nodup_le (Ls.map pos) S (List.pairwise_map.2 (hLn.imp_of_mem fun {a b} ha hb hne e => hne (hinj a b (hreal a ha) (hlong a ha) (hreal b hb) (hlong b hb) e))) fun k hk => by
        obtain ⟨x, hx, rfl⟩ := List.mem_map.1 hk
        obtain ⟨g4, g5⟩ := hp x (hreal x hx) (hlong x hx)
        refine (hL x hx).2 _ (by omega) ?_
        obtain ⟨i1, i2, i3⟩ := fitsR_lt g5
        unfold fitsD; rw [dif_pos ⟨i1, i2⟩]; exact decide_eq_true i3
      simp at c1
      omega
theorem pos_iff (p q : List Br) (c : Int) : Pos (fitsD p q c) (p.length + q.length) ↔ CPos p q c ∧ CPos q p c :=
  ⟨fun h => ⟨(cpos_or_cneg p q c).resolve_right (pos_left h), (cpos_or_cneg q p c).resolve_right (pos_right h)⟩, fun h => both_pos h.1 h.2⟩
end Go.Proofs.Ythdkhnjnhhofgaa
