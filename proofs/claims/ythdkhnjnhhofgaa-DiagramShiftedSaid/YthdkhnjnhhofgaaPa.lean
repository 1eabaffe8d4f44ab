/- Plain: costs that serve, by matchings of lists. -/
import Derived.Test.YthdkhnjnhhofgaaWq
set_option linter.unusedSimpArgs false
set_option linter.unusedVariables false
set_option maxRecDepth 100000
namespace Go.Proofs.Ythdkhnjnhhofgaa
open Go.Kuhn

/-- Who is long has a place of his own. -/
def Inj (p q : List Br) (c : Int) : Prop := ∃ pos : Nat → Nat, (∀ x (hx : x < p.length), c < p[x].len → ∃ h : pos x < q.length, p[x].apart (q[pos x]'h) ≤ c) ∧ ∀ x y (hx : x < p.length) (hy : y < p.length), c < p[x].len → c < p[y].len → pos x = pos y → x = y
theorem longB_of {p : List Br} {c : Int} {x : Nat} (hx : x < p.length) (h : c < p[x].len) : longB p c x = true := by
  unfold longB; rw [dif_pos hx]; exact decide_eq_true h
theorem cpos_inj {p q : List Br} {c : Int} : CPos p q c ↔ Inj p q c := by
  constructor
  · intro h
    obtain ⟨pos, h1, h2⟩ := cpos_pos h
    refine ⟨pos, fun x hx hl => ?_, fun x y hx hy h3 h4 e => h2 x y hx (longB_of hx h3) hy (longB_of hy h4) e⟩
    obtain ⟨h3, h4⟩ := h1 x hx (longB_of hx hl)
    obtain ⟨_, i2, i3⟩ := fitsR_lt h4
    exact ⟨i2, i3⟩
  · rintro ⟨pos, h1, h2⟩
    refine (cpos_or_cneg p q c).resolve_right ?_
    rintro ⟨i, part, seen, hi, hl, hpl, hK, hc, L⟩
    refine hall' (G := fitsR p q c) (fun x => x < p.length ∧ longB p c x = true) (fun x => by rw [hc x]; split <;> omega) (by rw [hc i, if_neg (by omega)]) (fun x hx => ?_) L (fun x k => (x < p.length ∧ longB p c x = true) ∧ pos x = k) (fun x hx => ?_) (fun x y k g1 g2 => ?_)
    · rcases hx with rfl | hx
      · exact ⟨hi, hl⟩
      · have := List.count_pos_iff.2 hx
        rw [hc x] at this
        split at this
        · rename_i g; exact ⟨by omega, g.2⟩
        · omega
    · obtain ⟨g1, g2⟩ := longB_lt hx.2
      obtain ⟨g3, g4⟩ := h1 x g1 g2
      refine ⟨pos x, g3, ?_, hx, rfl⟩
      unfold fitsR; rw [dif_pos ⟨g1, g3⟩]; exact decide_eq_true g4
    · obtain ⟨a1, a2⟩ := longB_lt g1.1.2
      obtain ⟨b1, b2⟩ := longB_lt g2.1.2
      exact h2 x y a1 b1 a2 b2 (by rw [g1.2, g2.2])
theorem pos_inj {p q : List Br} {c : Int} : Pos (fitsD p q c) (p.length + q.length) ↔ Inj p q c ∧ Inj q p c := by rw [pos_iff, cpos_inj, cpos_inj]

/-- Where the elements of a list lie in another order. -/
theorem perm_index {α : Type} {l l' : List α} (h : l.Perm l') : ∃ f : Nat → Nat, (∀ i (hi : i < l.length), ∃ h : f i < l'.length, l[i] = l'[f i]'h) ∧ ∀ i j, i < l.length → j < l.length → f i = f j → i = j := by
  induction h with
  | nil => exact ⟨id, fun i hi => by simp at hi, fun i j _ _ e => e⟩
  | cons x h ih =>
    obtain ⟨f, h1, h2⟩ := ih
    refine ⟨fun i => match i with | 0 => 0 | i + 1 => f i + 1, fun i hi => ?_, fun i j hi hj e => ?_⟩
    · cases i with
      | zero => exact ⟨by simp, rfl⟩
      | succ i =>
        obtain ⟨g1, g2⟩ := h1 i (by simpa using hi)
        exact ⟨by simpa using g1, by simpa using g2⟩
    · cases i with
      | zero => cases j with
        | zero => rfl
        | succ j => simp at e
      | succ i => cases j with
        | zero => simp at e
        | succ j => simp at e; have := h2 i j (by simpa using hi) (by simpa using hj) e; omega
  | swap x y l =>
    refine ⟨fun i => match i with | 0 => 1 | 1 => 0 | i + 2 => i + 2, fun i hi => ?_, fun i j hi hj e => ?_⟩
    · match i, hi with
      | 0, _ => exact ⟨by simp, rfl⟩
      | 1, _ => exact ⟨by simp, rfl⟩
      | i + 2, hi => exact ⟨by simpa using hi, rfl⟩
    · match i, j, e with
      | 0, 0, _ => rfl
      | 0, 1, e => simp at e
      | 0, j + 2, e => simp at e
      | 1, 0, e => simp at e
      | 1, 1, _ => rfl
      | 1, j + 2, e => simp at e
      | i + 2, 0, e => simp at e
      | i + 2, 1, e => simp at e
      | i + 2, j + 2, e => simpa using e
  | trans _ _ ih ih' =>
    obtain ⟨f, h1, h2⟩ := ih
    obtain ⟨g, h3, h4⟩ := ih'
    refine ⟨fun i => g (f i), fun i hi => ?_, fun i j hi hj e => ?_⟩
    · obtain ⟨a1, a2⟩ := h1 i hi
      obtain ⟨b1, b2⟩ := h3 (f i) a1
      exact ⟨b1, a2.trans b2⟩
    · exact h2 i j hi hj (h4 (f i) (f j) (h1 i hi).1 (h1 j hj).1 e)

/-- The same numbers. -/
def Br.sim (x y : Br) : Prop := x.birth = y.birth ∧ x.death = y.death
theorem sim_len {x y : Br} (h : x.sim y) : x.len = y.len := by unfold Br.len; rw [h.1, h.2]
theorem sim_apart {x y z t : Br} (h : x.sim y) (h' : z.sim t) : x.apart z = y.apart t := by unfold Br.apart; rw [h.1, h.2, h'.1, h'.2]
/-- Lists of the same bars, in whatever order. -/
def SimL (p p' : List Br) : Prop := ∃ f : Nat → Nat, (∀ i (hi : i < p.length), ∃ h : f i < p'.length, p[i].sim (p'[f i]'h)) ∧ ∀ i j, i < p.length → j < p.length → f i = f j → i = j
theorem SimL.of_map {α : Type} {l l' : List α} {f g : α → Br} (h : l.Perm l') (hfg : ∀ x ∈ l, (f x).sim (g x)) : SimL (l.map f) (l'.map g) := by
  obtain ⟨w, h1, h2⟩ := perm_index h
  refine ⟨w, fun i hi => ?_, fun i j hi hj e => h2 i j (by simpa using hi) (by simpa using hj) e⟩
  have hi' : i < l.length := by simpa using hi
  obtain ⟨g1, g2⟩ := h1 i hi'
  refine ⟨by simpa using g1, ?_⟩
  rw [List.getElem_map, List.getElem_map, ← g2]
  exact hfg _ (List.getElem_mem hi')
/-- Lists of the same bars serve alike. -/
theorem Inj.simR {p q q' : List Br} {c : Int} (h : Inj p q c) (s : SimL q q') : Inj p q' c := by
  obtain ⟨pos, h1, h2⟩ := h
  obtain ⟨f, h3, h4⟩ := s
  refine ⟨fun x => f (pos x), fun x hx hl => ?_, fun x y hx hy hl hl' e => ?_⟩
  · obtain ⟨g1, g2⟩ := h1 x hx hl
    obtain ⟨g3, g4⟩ := h3 _ g1
    exact ⟨g3, by rw [← sim_apart ⟨rfl, rfl⟩ g4]; exact g2⟩
  · exact h2 x y hx hy hl hl' (h4 _ _ (h1 x hx hl).1 (h1 y hy hl').1 e)
theorem Inj.simL {p p' q : List Br} {c : Int} (h : Inj p q c) (s : SimL p' p) : Inj p' q c := by
  obtain ⟨pos, h1, h2⟩ := h
  obtain ⟨f, h3, h4⟩ := s
  refine ⟨fun x => pos (f x), fun x hx hl => ?_, fun x y hx hy hl hl' e => ?_⟩
  · obtain ⟨g3, g4⟩ := h3 x hx
    obtain ⟨g1, g2⟩ := h1 _ g3 (by rw [← sim_len g4]; exact hl)
    exact ⟨g1, by rw [sim_apart g4 ⟨rfl, rfl⟩]; exact g2⟩
  · obtain ⟨a1, a2⟩ := h3 x hx
    obtain ⟨b1, b2⟩ := h3 y hy
    exact h4 x y hx hy (h2 _ _ a1 b1 (by rw [← sim_len a2]; exact hl) (by rw [← sim_len b2]; exact hl') e)

/-- The triangle. -/
theorem len_apart (x y : Br) : x.len ≤ y.len + x.apart y ∧ y.len ≤ x.len + x.apart y := by unfold Br.len Br.apart iabs; omega
theorem apart_tri (x y z : Br) : x.apart z ≤ x.apart y + y.apart z := by unfold Br.apart iabs; omega
theorem Inj.trans {p q r : List Br} {c d : Int} (h : Inj p q c) (h' : Inj q r d) (hc : 0 ≤ c) (hd : 0 ≤ d) : Inj p r (c + d) := by
  obtain ⟨f, h1, h2⟩ := h
  obtain ⟨g, h3, h4⟩ := h'
  refine ⟨fun x => g (f x), fun x hx hl => ?_, fun x y hx hy hl hl' e => ?_⟩
  · obtain ⟨a1, a2⟩ := h1 x hx (by omega)
    have := len_apart p[x] (q[f x]'a1)
    obtain ⟨b1, b2⟩ := h3 (f x) a1 (by omega)
    have := apart_tri p[x] (q[f x]'a1) (r[g (f x)]'b1)
    exact ⟨b1, by show p[x].apart (r[g (f x)]'b1) ≤ c + d; omega⟩
  · obtain ⟨a1, a2⟩ := h1 x hx (by omega)
    obtain ⟨b1, b2⟩ := h1 y hy (by omega)
    have := len_apart p[x] (q[f x]'a1)
    have := len_apart p[y] (q[f y]'b1)
    exact h2 x y hx hy (by omega) (by omega) (h4 _ _ a1 b1 (by omega) (by omega) e)

/-- A cost that serves lies at or above a cost of the list that serves. -/
theorem dd_le {p q : List Br} {L c : Int} (hL : L ≤ c) (h : Pos (fitsD p q c) (p.length + q.length)) : dd p q L ≤ c := by
  have hLC : L ∈ costsOf p q L := by unfold costsOf; simp
  obtain ⟨M, hM1, hM2⟩ := max_mem ((costsOf p q L).filter fun x => decide (x ≤ c)) (List.ne_nil_of_mem (List.mem_filter.2 ⟨hLC, by simpa using hL⟩))
  obtain ⟨hM3, hM4⟩ := List.mem_filter.1 hM1
  have hM4 : M ≤ c := of_decide_eq_true hM4
  have hle : ∀ x ∈ costsOf p q L, x ≤ c → x ≤ M := fun x hx hxc => hM2 x (List.mem_filter.2 ⟨hx, by simpa using hxc⟩)
  obtain ⟨cl1, cl2⟩ := costs_len p q L
  have hap : ∀ x ∈ p, ∀ y ∈ q, x.apart y ∈ costsOf p q L := fun x hx y hy => by
    unfold costsOf
    exact List.mem_append_left _ (List.mem_cons_of_mem _ (List.mem_flatMap.2 ⟨x, hx, List.mem_cons_of_mem _ (List.mem_map.2 ⟨y, hy, rfl⟩)⟩))
  have hp : Pos (fitsD p q M) (p.length + q.length) := h.mono fun i k hf => by
    unfold fitsD at *
    split
    · rename_i h1; rw [dif_pos h1] at hf
      exact decide_eq_true (hle _ (hap _ (List.getElem_mem h1.1) _ (List.getElem_mem h1.2)) (of_decide_eq_true hf))
    · rename_i h1
      rw [dif_neg h1] at hf
      split
      · rename_i h2; rw [dif_pos h2] at hf
        exact decide_eq_true (hle _ (cl1 _ (List.getElem_mem h2)) (of_decide_eq_true hf))
      · rename_i h2
        rw [dif_neg h2] at hf
        split
        · rename_i h3; rw [dif_pos h3] at hf
          exact decide_eq_true (hle _ (cl2 _ (List.getElem_mem h3)) (of_decide_eq_true hf))
        · rfl
  exact Int.le_trans ((dd_is p q L).2.2.2 M hM3 (hle L hLC hL) hp) hM4
theorem dd_lo (p q : List Br) (L : Int) : L ≤ dd p q L := (dd_is p q L).2.1
theorem dd_pos (p q : List Br) (L : Int) : Pos (fitsD p q (dd p q L)) (p.length + q.length) := (dd_is p q L).2.2.1
theorem dd_eq {p q : List Br} {L c : Int} (hL : L ≤ c) (h : Pos (fitsD p q c) (p.length + q.length)) (hm : ∀ d, L ≤ d → Pos (fitsD p q d) (p.length + q.length) → c ≤ d) : dd p q L = c := by
  have := dd_le hL h
  have := hm _ (dd_lo p q L) (dd_pos p q L)
  omega
theorem dd_congr {p q p' q' : List Br} {L : Int} (h1 : SimL p p') (h2 : SimL p' p) (h3 : SimL q q') (h4 : SimL q' q) : dd p q L = dd p' q' L := by
  have a : dd p' q' L ≤ dd p q L := dd_le (dd_lo p q L) (by
    have := pos_inj.1 (dd_pos p q L)
    exact pos_inj.2 ⟨(this.1.simL h2).simR h3, (this.2.simL h4).simR h1⟩)
  have b : dd p q L ≤ dd p' q' L := dd_le (dd_lo p' q' L) (by
    have := pos_inj.1 (dd_pos p' q' L)
    exact pos_inj.2 ⟨(this.1.simL h1).simR h4, (this.2.simL h3).simR h2⟩)
  omega
theorem dd_symm (p q : List Br) (L : Int) : dd p q L = dd q p L := by
  have a : dd q p L ≤ dd p q L := dd_le (dd_lo p q L) (pos_inj.2 (pos_inj.1 (dd_pos p q L)).symm)
  have b : dd p q L ≤ dd q p L := dd_le (dd_lo q p L) (pos_inj.2 (pos_inj.1 (dd_pos q p L)).symm)
  omega
end Go.Proofs.Ythdkhnjnhhofgaa
