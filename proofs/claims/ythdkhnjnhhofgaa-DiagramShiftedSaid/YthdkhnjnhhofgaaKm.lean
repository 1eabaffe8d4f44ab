/- Plain: a search for partners along paths: what a success and a failure leave. -/
set_option linter.unusedVariables false
namespace Go.Kuhn

/-- Who is a partner fits. -/
def KPre (fits : Nat → Nat → Bool) (nl : Nat) (part : List Int) : Prop := ∀ k (hk : k < part.length), part[k] = -1 ∨ ∃ p : Nat, part[k] = (p : Int) ∧ p < nl ∧ fits p k = true

structure KT (fits : Nat → Nat → Bool) (nl i : Nat) (seen : List Bool) (part : List Int) (seen' : List Bool) (part' : List Int) : Prop where
  slen : seen'.length = seen.length
  plen : part'.length = part.length
  kept : ∀ k : Nat, seen[k]? = some true → part'[k]? = part[k]?
  pre : KPre fits nl part'
  cnt : ∀ x : Nat, part'.count (x : Int) = part.count (x : Int) + if x = i then 1 else 0

/-- What a search that goes on has seen: the state before, and the first k places tried. -/
structure LI (fits : Nat → Nat → Bool) (i n k : Nat) (seen : List Bool) (part : List Int) (seen' : List Bool) : Prop where
  slen : seen'.length = seen.length
  mono : ∀ j : Nat, seen[j]? = some true → seen'[j]? = some true
  tried : ∀ j : Nat, j < k → j < n → fits i j = true → seen'[j]? = some true
  closed : ∀ j : Nat, seen'[j]? = some true → seen[j]? ≠ some true → ∃ p : Nat, part[j]? = some (p : Int) ∧ ∀ j', j' < n → fits p j' = true → seen'[j']? = some true

variable {fits : Nat → Nat → Bool} {nl i n k : Nat} {seen seen1 seen2 seen3 : List Bool} {part part1 : List Int}

theorem LI.start : LI fits i n 0 seen part seen := ⟨rfl, fun _ h => h, fun j h => by omega, fun j h1 h2 => absurd h1 h2⟩
theorem LI.skip (L : LI fits i n k seen part seen1) (h : seen1[k]? = some true ∨ fits i k = false) : LI fits i n (k + 1) seen part seen1 :=
  ⟨L.slen, L.mono, fun j hj hn hf => by
    rcases Nat.lt_or_ge j k with h1 | h1
    · exact L.tried j h1 hn hf
    · have : j = k := by omega
      subst this
      rcases h with h | h
      · exact h
      · exact absurd (hf.symm.trans h) (by decide), L.closed⟩
theorem set_true {l : List Bool} {k j : Nat} (hk : k < l.length) : (l.set k true)[j]? = some true ↔ j = k ∨ l[j]? = some true := by
  rw [List.getElem?_set]
  by_cases h : k = j
  · subst h; simp [hk]
  · simp [h, Ne.symm h]
theorem LI.fail (L : LI fits i n k seen part seen1) (hk : k < seen1.length) {p : Nat} (hp : part[k]? = some (p : Int)) (F : LI fits p n n (seen1.set k true) part seen3) : LI fits i n (k + 1) seen part seen3 := by
  have m2 : ∀ j : Nat, seen1[j]? = some true → seen3[j]? = some true := fun j h => F.mono j ((set_true hk).2 (.inr h))
  have mk : seen3[k]? = some true := F.mono k ((set_true hk).2 (.inl rfl))
  refine ⟨by rw [F.slen, List.length_set, L.slen], fun j h => m2 j (L.mono j h), fun j hj hn hf => ?_, fun j h1 h2 => ?_⟩
  · rcases Nat.lt_or_ge j k with h1 | h1
    · exact m2 j (L.tried j h1 hn hf)
    · have : j = k := by omega
      subst this; exact mk
  · by_cases h3 : (seen1.set k true)[j]? = some true
    · rcases (set_true hk).1 h3 with rfl | h4
      · exact ⟨p, hp, fun j' hj' hf => F.tried j' hj' hj' hf⟩
      · obtain ⟨q, e1, e2⟩ := L.closed j h4 h2
        exact ⟨q, e1, fun j' hj' hf => m2 j' (e2 j' hj' hf)⟩
    · exact F.closed j h1 h3
theorem count_set' (l : List Int) (k : Nat) (a b : Int) (hk : k < l.length) : (l.set k a).count b + (if l[k] = b then 1 else 0) = l.count b + if a = b then 1 else 0 := by
  induction l generalizing k with
  | nil => simp at hk
  | cons x l ih =>
    cases k with
    | zero => simp only [List.set_cons_zero, List.count_cons, List.getElem_cons_zero, beq_iff_eq]; omega
    | succ k =>
      have := ih k (by simpa using hk)
      simp only [List.set_cons_succ, List.count_cons, List.getElem_cons_succ, beq_iff_eq]; omega
/-- A free place. -/
theorem LI.free (L : LI fits i n k seen part seen1) (hP : KPre fits nl part) (hi : i < nl) (hk : k < part.length) (hks : k < seen1.length) (h0 : seen1[k]? ≠ some true) (hf : fits i k = true) (hp : part[k] < 0) : KT fits nl i seen part (seen1.set k true) (part.set k (i : Int)) := by
  have h1 : part[k] = -1 := by
    rcases hP k hk with h | ⟨p, h, _⟩
    · exact h
    · omega
  refine ⟨by rw [List.length_set, L.slen], List.length_set, fun j hj => ?_, fun j hj => ?_, fun x => ?_⟩
  · have : k ≠ j := fun e => h0 (by rw [e]; exact L.mono j hj)
    rw [List.getElem?_set_ne this]
  · rw [List.getElem_set]
    split
    · rename_i e; subst e; exact .inr ⟨i, rfl, hi, hf⟩
    · exact hP j (by simpa using hj)
  · have := count_set' part k (i : Int) (x : Int) hk
    rw [h1, if_neg (by omega)] at this
    have e : ((i : Int) = (x : Int)) = (x = i) := by apply propext; omega
    rw [Nat.add_zero] at this
    rw [this]; simp only [e]
/-- A place whose partner finds another one. -/
theorem LI.moved (L : LI fits i n k seen part seen1) (hi : i < nl) (hk : k < part.length) (hks : k < seen1.length) (h0 : seen1[k]? ≠ some true) (hf : fits i k = true) {p : Nat} (hp : part[k]? = some (p : Int)) (T : KT fits nl p (seen1.set k true) part seen2 part1) : KT fits nl i seen part seen2 (part1.set k (i : Int)) := by
  have hk1 : k < part1.length := by rw [T.plen]; exact hk
  have h1 : part1[k] = (p : Int) := by
    have := T.kept k ((set_true hks).2 (.inl rfl))
    rw [hp, List.getElem?_eq_getElem hk1] at this
    exact Option.some.inj this
  refine ⟨by rw [T.slen, List.length_set, L.slen], by rw [List.length_set, T.plen], fun j hj => ?_, fun j hj => ?_, fun x => ?_⟩
  · have : k ≠ j := fun e => h0 (by rw [e]; exact L.mono j hj)
    rw [List.getElem?_set_ne this]
    exact T.kept j ((set_true hks).2 (.inr (L.mono j hj)))
  · rw [List.getElem_set]
    split
    · rename_i e; subst e; exact .inr ⟨i, rfl, hi, hf⟩
    · exact T.pre j (by simpa using hj)
  · have e1 := count_set' part1 k (i : Int) (x : Int) hk1
    have e2 := T.cnt x
    rw [h1] at e1
    have e : ((i : Int) = (x : Int)) = (x = i) := by apply propext; omega
    have e' : ((p : Int) = (x : Int)) = (x = p) := by apply propext; omega
    simp only [e, e'] at e1
    omega

/-- How many are not seen. -/
def unseen (l : List Bool) : Nat := l.countP (! ·)
theorem unseen_set (l : List Bool) (k : Nat) (hk : k < l.length) (h : l[k] = false) : unseen (l.set k true) + 1 = unseen l := by
  unfold unseen
  induction l generalizing k with
  | nil => simp at hk
  | cons x l ih =>
    cases k with
    | zero => simp at h; subst h; simp
    | succ k => simp only [List.set_cons_succ, List.countP_cons]; have := ih k (by simpa using hk) (by simpa using h); omega
theorem unseen_mono (l l' : List Bool) (hl : l'.length = l.length) (h : ∀ j : Nat, l[j]? = some true → l'[j]? = some true) : unseen l' ≤ unseen l := by
  unfold unseen
  induction l generalizing l' with
  | nil => have : l' = [] := List.length_eq_zero_iff.1 hl
           subst this; simp
  | cons x l ih =>
    cases l' with
    | nil => simp at hl
    | cons y l' =>
      have h1 := ih l' (by simpa using hl) (fun j hj => by simpa using h (j + 1) (by simpa using hj))
      have h2 : x = true → y = true := fun e => by simpa using h 0 (by simp [e])
      simp only [List.countP_cons]
      cases x <;> cases y <;> simp_all <;> omega
end Go.Kuhn
