/- Plain: a search for partners along paths: what a success and a failure leave. -/

set_option linter.unusedVariables false
namespace Go.Kuhn

/-- Who is a partner fits. -/
def KPre (fits : Nat → Nat → Bool) (nl : Nat) (part : List Int) : Prop := ∀ k (hk : k < part.length), part[k] = -1 ∨ ∃ p : Nat, part[k] = (p : Int) ∧ p < nl ∧ fits p k = true

structure KT (fits : Nat → Nat → Bool) (nl i : Nat) (seen : List Bool) (part : List Int) (seen' : List Bool) (part' : List Int) : Prop where
  slen : seen'.length = seen.length
  plen : part'.length = part.length
  kept : ∀ k : Nat, seen[k]? = some true → part'[k]? = part[k]?
  pre : KPre fits nl part'
  cnt : ∀ x : Nat, part'.count (x : Int) = part.count (x : Int) + if x = i then 1 else 0

/-- What a search that goes on has seen: the state before, and the first k places tried. -/
structure LI (fits : Nat → Nat → Bool) (i n k : Nat) (seen : List Bool) (part : List Int) (seen' : List Bool) : Prop where
  slen : seen'.length = seen.length
  mono : ∀ j : Nat, seen[j]? = some true → seen'[j]? = some true
  tried : ∀ j : Nat, j < k → j < n → fits i j = true → seen'[j]? = some true
  closed : ∀ j : Nat, seen'[j]? = some true → seen[j]? ≠ some true → ∃ p : Nat, part[j]? = some (p : Int) ∧ ∀ j', j' < n → fits p j' = true → seen'[j']? = some true

variable {fits : Nat → Nat → Bool} {nl i n k : Nat} {seen seen1 seen2 seen3 : List Bool} {part part1 : List Int}

theorem LI.start : LI fits i n 0 seen part seen := ⟨rfl, fun _ h => h, fun j h => by omega, fun j h1 h2 => absurd h1 h2⟩
theorem LI.skip (L : LI fits i n k seen part seen1) (h : seen1[k]? = some true ∨ fits i k = false) : LI fits i n (k + 1) seen part seen1 :=
  ⟨L.slen, L.mono, fun j hj hn hf => by
    rcases Nat.lt_or_ge j k with h1 | h1
    · exact L.tried j h1 hn hf
    · have : j = k := by omega
      subst this
      rcases h with h | h
      · exact h
      · exact absurd (hf.symm.trans h) (by decide), L.closed⟩
theorem set_true {l : List Bool} {k j : Nat} (hk : k < l.length) : (l.set k true)[j]? = some true ↔ j = k ∨ l[j]? = some true := by
  rw [List.getElem?_set]
  by_cases h : k = j
  · subst h; simp [hk]
  · simp [h, Ne.symm h]
theorem LI.fail (L : LI fits i n k seen part seen1) (hk : k < seen1.length) {p : Nat} (hp : part[k]? = some (p : Int)) (F : LI fits p n n (seen1.set k true) part seen3) : LI fits i n (k + 1) seen part seen3 := by
  have m2 : ∀ j : Nat, seen1[j]? = some true → seen3[j]? = some true := fun j h => F.mono j ((set_true hk).2 (.inr h))
  have mk : seen3[k]? = some true := F.mono k ((set_true hk).2 (.inl rfl))
  refine ⟨by rw [F.slen, List.length_set, L.slen], fun j h => m2 j (L.mono j h), fun j hj hn hf => ?_, fun j h1 h2 => ?_⟩
  · rcases Nat.lt_or_ge j k with h1 | h1
    · exact m2 j (L.tried j h1 hn hf)
    · have : j = k := by omega
      subst this; exact mk
  · by_cases h3 : (seen1.set k true)[j]? = some true
    · rcases (set_true hk).1 h3 with rfl | h4
      · exact ⟨p, hp, fun j' hj' hf => F.tried j' hj' hj' hf⟩
      · obtain ⟨q, e1, e2⟩ := L.closed j h4 h2
        exact ⟨q, e1, fun j' hj' hf => m2 j' (e2 j' hj' hf)⟩
    · exact F.closed j h1 h3
theorem count_set' (l : List Int) (k : Nat) (a b : Int) (hk : k < l.length) : (l.set k a).count b + (if l[k] = b then 1 else 0) = l.count b + if a = b then 1 else 0 := by
  induction l generalizing k with
  | nil => simp at hk
  | cons x l ih =>
    cases k with
    | zero => simp only [List.set_cons_zero, List.count_cons, List.getElem_cons_zero, beq_iff_eq]; omega
    | succ k =>
      have := ih k (by simpa using hk)
      simp only [List.set_cons_succ, List.count_cons, List.getElem_cons_succ, beq_iff_eq]; omega
/-- A free place. -/
theorem LI.free (L : LI fits i n k seen part seen1) (hP : KPre fits nl part) (hi : i < nl) (hk : k < part.length) (hks : k < seen1.length) (h0 : seen1[k]? ≠ some true) (hf : fits i k = true) (hp : part[k] < 0) : KT fits nl i seen part (seen1.set k true) (part.set k (i : Int)) := by
  have h1 : part[k] = -1 := by
    rcases hP k hk with h | ⟨p, h, _⟩
    · exact h
    · omega
  refine ⟨by rw [List.length_set, L.slen], List.length_set, fun j hj => ?_, fun j hj => ?_, fun x => ?_⟩
  · have : k ≠ j := fun e => h0 (by rw [e]; exact L.mono j hj)
    rw [List.getElem?_set_ne this]
  · rw [List.getElem_set]
    split
    · rename_i e; subst e; exact .inr ⟨i, rfl, hi, hf⟩
    · exact hP j (by simpa using hj)
  · have := count_set' part k (i : Int) (x : Int) hk
    rw [h1, if_neg (by omega)] at this
    have e : ((i : Int) = (x : Int)) = (x = i) := by apply propext; omega
    rw [Nat.add_zero] at this
    rw [this]; simp only [e]
/-- A place whose partner finds another one. -/
theorem LI.moved (L : LI fits i n k seen part seen1) (hi : i < nl) (hk : k < part.length) (hks : k < seen1.length) (h0 : seen1[k]? ≠ some true) (hf : fits i k = true) {p : Nat} (hp : part[k]? = some (p : Int)) (T : KT fits nl p (seen1.set k true) part seen2 part1) : KT fits nl i seen part seen2 (part1.set k (i : Int)) := by
  have hk1 : k < part1.length := by rw [T.plen]; exact hk
  have h1 : part1[k] = (p : Int) := by
    have := T.kept k ((set_true hks).2 (.inl rfl))
    rw [hp, List.getElem?_eq_getElem hk1] at this
    exact Option.some.inj this
  refine ⟨by rw [T.slen, List.length_set, L.slen], by rw [List.length_set, T.plen], fun j hj => ?_, fun j hj => ?_, fun x => ?_⟩
  · have : k ≠ j := fun e => h0 (by rw [e]; exact L.mono j hj)
    rw [List.getElem?_set_ne this]
    exact T.kept j ((set_true hks).2 (.inr (L.mono j hj)))
  · rw [List.getElem_set]
    split
    · rename_i e; subst e; exact .inr ⟨i, rfl, hi, hf⟩
    · exact T.pre j (by simpa using hj)
  · have e1 := count_set' part1 k (i : Int) (x : Int) hk1
    have e2 := T.cnt x
    rw [h1] at e1
    have e : ((i : Int) = (x : Int)) = (x = i) := by apply propext; omega
    have e' : ((p : Int) = (x : Int)) = (x = p) := by apply propext; omega
    simp only [e, e'] at e1
    omega

/-- How many are not seen. -/
def unseen (l : List Bool) : Nat := l.countP (! ·)
theorem unseen_set (l : List Bool) (k : Nat) (hk : k < l.length) (h : l[k] = false) : unseen (l.set k true) + 1 = unseen l := by
  unfold unseen
  induction l generalizing k with
  | nil => simp at hk
  | cons x l ih =>
    cases k with
    | zero => simp at h; subst h; simp
    | succ k => simp only [List.set_cons_succ, List.countP_cons]; have := ih k (by simpa using hk) (by simpa using h); omega
theorem unseen_mono (l l' : List Bool) (hl : l'.length = l.length) (h : ∀ j : Nat, l[j]? = some true → l'[j]? = some true) : unseen l' ≤ unseen l := by
  unfold unseen
  induction l generalizing l' with
  | nil => have : l' = [] := List.length_eq_zero_iff.1 hl
           subst this; simp
  | cons x l ih =>
    cases l' with
    | nil => simp at hl
    | cons y l' =>
      have h1 := ih l' (by simpa using hl) (fun j hj => by simpa using h (j + 1) (by simpa using hj))
      have h2 : x = true → y = true := fun e => by simpa using h 0 (by simp [e])
      simp only [List.countP_cons]
      cases x <;> cases y <;> simp_all <;> omega
end Go.Kuhn

/- Plain: who finds no partner shows that not everyone has one. -/
set_option linter.unusedVariables false
namespace Go.Kuhn

theorem nodup_le {α : Type} [DecidableEq α] : ∀ (l l' : List α), l.Nodup → (∀ x ∈ l, x ∈ l') → l.length ≤ l'.length
  | [], l', _, _ => by simp
  | a :: l, l', hn, h => by
    have h1 : a ∈ l' := h a (by simp)
    have h2 : ∀ x ∈ l, x ∈ l'.erase a := fun x hx => by
      have : x ≠ a := fun e => (List.nodup_cons.1 hn).1 (e ▸ hx)
      exact (List.mem_erase_of_ne this).2 (h x (by simp [hx]))
    have := nodup_le l (l'.erase a) (List.nodup_cons.1 hn).2 h2
    rw [List.length_erase_of_mem h1] at this
    have := List.length_pos_of_mem h1
    simp; omega

/-- Everyone has a partner. -/
def Pos (F : Nat → Nat → Bool) (n : Nat) : Prop := ∃ part : List Int, part.length = n ∧ KPre F n part ∧ ∀ x : Nat, x < n → part.count (x : Int) = 1
/-- Someone finds none. -/
def Neg (F : Nat → Nat → Bool) (n : Nat) : Prop := ∃ (i : Nat) (part : List Int) (seen : List Bool), i < n ∧ part.length = n ∧ KPre F n part ∧ (∀ x : Nat, part.count (x : Int) = if x < i then 1 else 0) ∧ LI F i n n (List.replicate n false) part seen

/-- Those who are not more than once in a list lie at one place each. -/
theorem one_place {part : List Int} {x : Int} (h : part.count x ≤ 1) {j k : Nat} (hj : part[j]? = some x) (hk : part[k]? = some x) : j = k := by
  induction part generalizing j k with
  | nil => simp at hj
  | cons a l ih =>
    cases j with
    | zero =>
      cases k with
      | zero => rfl
      | succ k =>
        simp at hj hk; subst hj
        have h1 : l.count a ≥ 1 := List.count_pos_iff.2 (List.mem_of_getElem? hk)
        rw [List.count_cons_self] at h; omega
    | succ j =>
      cases k with
      | zero =>
        simp at hj hk; subst hk
        have h1 : l.count a ≥ 1 := List.count_pos_iff.2 (List.mem_of_getElem? hj)
        rw [List.count_cons_self] at h; omega
      | succ k =>
        have h1 : l.count x ≤ 1 := Nat.le_trans List.count_le_count_cons h
        have e : j = k := ih h1 (by simpa using hj) (by simpa using hk)
        omega

/-- The general form: the search of i fails; those who have partners have one each. Then no choice of places gives i, and all partners of seen places, places of their own that fit. -/
theorem hall {F : Nat → Nat → Bool} {i n : Nat} {part : List Int} {seen0 seen : List Bool} (h0 : ∀ j : Nat, seen0[j]? ≠ some true) (hs : seen0.length = n) (hone : ∀ x : Nat, part.count (x : Int) ≤ 1) (hi : part.count (i : Int) = 0) (L : LI F i n n seen0 part seen)
    (pos : Nat → Nat) (hpos : ∀ x, x = i ∨ (x : Int) ∈ part → pos x < n ∧ F x (pos x) = true) (hinj : ∀ x y, (x = i ∨ (x : Int) ∈ part) → (y = i ∨ (y : Int) ∈ part) → pos x = pos y → x = y) : False := by
  let S := (List.range n).filter fun k => seen[k]? == some true
  have hS : ∀ k, k ∈ S ↔ seen[k]? = some true := fun k => by
    simp only [S, List.mem_filter, List.mem_range, beq_iff_eq]
    constructor
    · exact fun h => h.2
    · intro h
      refine ⟨?_, h⟩
      obtain ⟨h', _⟩ := List.getElem?_eq_some_iff.1 h
      have e1 := L.slen
      omega
  have hSn : S.Nodup := List.Pairwise.filter _ List.nodup_range
  let f : Nat → Nat := fun k => (part[k]?.getD 0).toNat
  have hf : ∀ k ∈ S, part[k]? = some ((f k : Nat) : Int) ∧ ∀ j', j' < n → F (f k) j' = true → seen[j']? = some true := fun k hk => by
    obtain ⟨p, e1, e2⟩ := L.closed k ((hS k).1 hk) (h0 k)
    have : f k = p := by simp [f, e1]
    rw [this]; exact ⟨e1, e2⟩
  have hmem : ∀ k ∈ S, ((f k : Nat) : Int) ∈ part := fun k hk => List.mem_of_getElem? (hf k hk).1
  have hfi : ∀ k ∈ S, f k ≠ i := fun k hk e => by
    have := hmem k hk
    rw [e] at this
    have := List.count_pos_iff.2 this
    omega
  -- the places of i and of the partners
  have hn : (i :: S.map f).Nodup := by
    refine List.nodup_cons.2 ⟨fun h => ?_, ?_⟩
    · obtain ⟨k, hk, e⟩ := List.mem_map.1 h
      exact hfi k hk e
    · refine List.pairwise_map.2 (hSn.imp_of_mem fun {a b} ha hb hne e => hne ?_)
      have h1 := (hf a ha).1
      have h2 := (hf b hb).1
      rw [e] at h1
      exact one_place (hone (f b)) h1 h2
  have hin : ∀ x ∈ i :: S.map f, x = i ∨ (x : Int) ∈ part := fun x hx => by
    rcases List.mem_cons.1 hx with e | hx
    · exact .inl e
    · obtain ⟨k, hk, e⟩ := List.mem_map.1 hx
      exact .inr (e ▸ hmem k hk)
  have hn2 : ((i :: S.map f).map pos).Nodup := List.pairwise_map.2 (hn.imp_of_mem fun {a b} ha hb hne e => hne (hinj a b (hin a ha) (hin b hb) e))
  have hsub : ∀ y ∈ (i :: S.map f).map pos, y ∈ S := fun y hy => by
    obtain ⟨x, hx, rfl⟩ := List.mem_map.1 hy
    obtain ⟨p1, p2⟩ := hpos x (hin x hx)
    rw [hS]
    rcases List.mem_cons.1 hx with rfl | hx
    · exact L.tried _ p1 p1 p2
    · obtain ⟨k, hk, rfl⟩ := List.mem_map.1 hx
      exact (hf k hk).2 _ p1 p2
  have := nodup_le _ S hn2 hsub
  simp at this
  omega

theorem neg_not_pos {F : Nat → Nat → Bool} {n : Nat} (h : Neg F n) : ¬ Pos F n := by
  rintro ⟨p2, hl2, hK2, hc2⟩
  obtain ⟨i, part, seen, hi, hl, hK, hc, L⟩ := h
  have hex : ∀ x, x < n → ∃ k, p2[k]? = some (x : Int) := fun x hx => by
    have : (x : Int) ∈ p2 := List.count_pos_iff.1 (by rw [hc2 x hx]; decide)
    obtain ⟨k, hk, e⟩ := List.getElem_of_mem this
    exact ⟨k, by rw [List.getElem?_eq_getElem hk, e]⟩
  classical
  let pos : Nat → Nat := fun x => if h : x < n then (hex x h).choose else 0
  have hp : ∀ x, x < n → p2[pos x]? = some (x : Int) := fun x hx => by
    simp only [pos, hx, dif_pos]; exact (hex x hx).choose_spec
  have hlt : ∀ x : Nat, x = i ∨ (x : Int) ∈ part → x < n := fun x hx => by
    rcases hx with rfl | hx
    · exact hi
    · have h1 := List.count_pos_iff.2 hx
      rw [hc x] at h1
      split at h1
      · omega
      · omega
  refine hall (pos := pos) (by simp [List.getElem?_replicate]) (by simp) (fun x => by rw [hc x]; split <;> omega) (by rw [hc i, if_neg (by omega)]) L (fun x hx => ?_) (fun x y hx hy e => ?_)
  · have h1 := hp x (hlt x hx)
    have h2 := (List.getElem?_eq_some_iff.1 h1)
    obtain ⟨h3, h4⟩ := h2
    refine ⟨by omega, ?_⟩
    rcases hK2 _ h3 with h5 | ⟨p, h5, _, h6⟩
    · rw [h4] at h5; omega
    · rw [h4] at h5
      have : p = x := by omega
      rwa [this] at h6
  · have h1 := hp x (hlt x hx)
    have h2 := hp y (hlt y hy)
    rw [e, h2] at h1
    have := Option.some.inj h1
    omega
theorem Pos.mono {F G : Nat → Nat → Bool} {n : Nat} (h : Pos F n) (hFG : ∀ i k, F i k = true → G i k = true) : Pos G n := by
  obtain ⟨p, h1, h2, h3⟩ := h
  exact ⟨p, h1, fun k hk => by
    rcases h2 k hk with h4 | ⟨q, h4, h5, h6⟩
    · exact .inl h4
    · exact .inr ⟨q, h4, h5, hFG _ _ h6⟩, h3⟩
end Go.Kuhn

/- Plain: either everyone has a partner, or someone finds none. -/
set_option linter.unusedVariables false
namespace Go.Kuhn

theorem kuhn_ex (F : Nat → Nat → Bool) (nl n : Nat) (N : Nat) : ∀ (i : Nat) (seen : List Bool) (part : List Int), unseen seen ≤ N → i < nl → seen.length = n → part.length = n → KPre F nl part →
    (∃ seen' part', KT F nl i seen part seen' part') ∨ ∃ seen', LI F i n n seen part seen' := by
  induction N using Nat.strongRecOn with
  | _ N ih =>
  intro i seen part hN hi hsl hpl hK
  have go : ∀ q k seen1, n - k ≤ q → k ≤ n → LI F i n k seen part seen1 → (∃ seen' part', KT F nl i seen part seen' part') ∨ ∃ seen', LI F i n n seen part seen' := by
    intro q
    induction q with
    | zero => intro k seen1 hq hk hL; have : k = n := by omega
              subst this; exact .inr ⟨_, hL⟩
    | succ q ihq =>
      intro k seen1 hq hk hL
      rcases Nat.lt_or_ge k n with hkn | hkn
      · have hks : k < seen1.length := by rw [hL.slen]; omega
        have hkp : k < part.length := by omega
        cases hsk : seen1[k] with
        | true => exact ihq (k + 1) seen1 (by omega) (by omega) (hL.skip (.inl (by rw [List.getElem?_eq_getElem hks, hsk])))
        | false =>
          cases hf : F i k with
          | false => exact ihq (k + 1) seen1 (by omega) (by omega) (hL.skip (.inr hf))
          | true =>
            have h0 : seen1[k]? ≠ some true := by rw [List.getElem?_eq_getElem hks, hsk]; simp
            rcases hK k hkp with h1 | ⟨p, hp, hpn, hpf⟩
            · exact .inl ⟨_, _, hL.free hK hi hkp hks h0 hf (by omega)⟩
            · have hp' : part[k]? = some (p : Int) := by rw [List.getElem?_eq_getElem hkp, hp]
              have u1 := unseen_set seen1 k hks hsk
              have u2 := unseen_mono seen seen1 hL.slen hL.mono
              rcases ih (unseen (seen1.set k true)) (by omega) p (seen1.set k true) part (Nat.le_refl _) hpn (by rw [List.length_set, hL.slen]; exact hsl) hpl hK with ⟨s', p', hT⟩ | ⟨s', hLF⟩
              · exact .inl ⟨_, _, hL.moved hi hkp hks h0 hf hp' hT⟩
              · exact ihq (k + 1) s' (by omega) (by omega) (hL.fail hks hp' hLF)
      · have : k = n := by omega
        subst this; exact .inr ⟨_, hL⟩
  exact go n 0 seen (by omega) (by omega) LI.start

theorem pos_or_neg (F : Nat → Nat → Bool) (n : Nat) : Pos F n ∨ Neg F n := by
  have go : ∀ i, i ≤ n → (∃ part : List Int, part.length = n ∧ KPre F n part ∧ ∀ x : Nat, part.count (x : Int) = if x < i then 1 else 0) ∨ Neg F n := by
    intro i
    induction i with
    | zero => exact fun _ => .inl ⟨List.replicate n (-1), by simp, fun k hk => .inl (by simp), fun x => by rw [List.count_replicate, if_neg (by simp), if_neg (by omega)]⟩
    | succ i ih =>
      intro hi
      rcases ih (by omega) with ⟨part, h1, h2, h3⟩ | h
      · rcases kuhn_ex F n n _ i (List.replicate n false) part (Nat.le_refl _) (by omega) (by simp) h1 h2 with ⟨s', p', hT⟩ | ⟨s', hL⟩
        · refine .inl ⟨p', by rw [hT.plen, h1], hT.pre, fun x => ?_⟩
          rw [hT.cnt x, h3 x]
          by_cases g1 : x < i
          · rw [if_pos g1, if_neg (by omega), if_pos (by omega)]
          · by_cases g2 : x = i
            · rw [if_neg g1, if_pos g2, if_pos (by omega)]
            · rw [if_neg g1, if_neg g2, if_neg (by omega)]
        · exact .inr ⟨i, part, s', by omega, h1, h2, h3, hL⟩
      · exact .inr h
  rcases go n (Nat.le_refl _) with ⟨part, h1, h2, h3⟩ | h
  · exact .inl ⟨part, h1, h2, fun x hx => by rw [h3 x, if_pos hx]⟩
  · exact .inr h
end Go.Kuhn
