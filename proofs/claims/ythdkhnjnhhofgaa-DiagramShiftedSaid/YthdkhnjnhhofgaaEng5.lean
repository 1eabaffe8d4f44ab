/- The engine, part 5: a region whose order is open. Its operations but the last ones only yield values (or make memory); the last ones wait for all others. -/
import Derived.Test.YthdkhnjnhhofgaaEng4
import Derived.Deep.Quiet
set_option linter.unusedSimpArgs false
set_option linter.unusedVariables false
namespace Go.Eng
open Go.RowKit

abbrev VP := Hp → Value → Prop
/-- A new block: its element's type, its cells, the value that leads to it. -/
abbrev Nb := (TypeId × List Value) × (Nat → Value)
/-- What is known of an operation's value: the value; a property; a new block. -/
abbrev Stp := Value ⊕ (VP ⊕ Nb)

def edge (o : Oper) (j : Nat) : Bool := o.after.any fun e => Region.binds .any e && e.on == j
def backs (o : Oper) (i : Nat) : Bool := o.after.all fun e => !Region.binds .any e || e.on < i
/-- Does i wait for j, on whatever way? -/
def reach (ops : Array Oper) : Nat → Nat → Nat → Bool
  | 0, _, _ => false
  | n + 1, i, j => match ops[i]? with
    | none => false
    | some o => edge o j || o.after.any fun e => Region.binds .any e && reach ops n e.on j
def dstAt (ops : Array Oper) (j : Nat) : Option Nat := (ops[j]?).bind (·.dst)

def preOK (pu : List Nat) (ops : Array Oper) (np : Nat) : Bool :=
  Nat.ble np ops.size && (pu.all fun i => Nat.blt i np) && Region.noSelect ops &&
  (List.range ops.size).all fun i => match ops[i]? with
    | none => false
    | some o => backs o i &&
      if i < np then
        ((List.range np).all fun j => j == i || (match o.dst with | some d => dstAt ops j != some d | none => true)) &&
        ((o.looksAt ops).all fun t => (List.range np).all fun j => dstAt ops j != some t || (j < i && edge o j))
      else (List.range i).all fun j => pu.contains j || reach ops ops.size i j

def OPX (P : Program) (o : Oper) (s : Slots) (h : Hp) (ms : List Hp) (V : VP) : Prop :=
  ∀ ρ w, Evs s ρ → St w h ms → OpRes P o ρ w (fun u w' => ∃ h', h.le h' ∧ h'.inW w' ∧ (∀ k, k < w.heap.size → h' k = h k) ∧ Ext w w' ∧ V h' u)
def Mono (V : VP) : Prop := ∀ h h' u, Hp.le h h' → V h u → V h' u
def valQ (q : List (Nat × VP)) (val : Nat → Value) : Slots := q.map fun p => (p.1, val p.1)
def SatQ (q : List (Nat × VP)) (val : Nat → Value) (h : Hp) : Prop := ∀ d V, (d, V) ∈ q → V h (val d)

/-- The guard, by what the slots say. -/
def Wants (ops : Array Oper) (o : Oper) (s : Slots) (b : Bool) : Prop :=
  match o.guard with
  | none => b = true
  | some (j, want) => (∃ dj b', dstAt ops j = some dj ∧ lk s dj = some (.bool b') ∧ b = (b' == want)) ∨ ∃ dj, dstAt ops j = some dj ∧ lk s dj = some undef ∧ b = false

/-- An operation that makes one new block. -/
def ONB (P : Program) (o : Oper) (s : Slots) (h : Hp) (ms : List Hp) (x : Nb) : Prop :=
  ∀ ρ w, Evs s ρ → St w h ms → OpRes P o ρ w (fun u w' => u = x.2 w.heap.size ∧ w' = w.alloc (.cells x.1.2.toArray x.1.1))
/-- One step of the plan is paid. -/
def StpOK (P : Program) (ops : Array Oper) (h : Hp) (ms : List Hp) (o : Oper) (s : Slots) (q : List (Nat × VP)) : Stp → Prop
  | .inl v => (Wants ops o s true ∧ OX P o s h ms v) ∨ (Wants ops o s true ∧ ∃ q', (∀ p ∈ q', p ∈ q ∧ p.1 ∈ o.looksAt ops) ∧ ∀ h', h.le h' → ∀ val, SatQ q' val h' → OX P o (valQ q' val ++ s) h' ms v) ∨ (Wants ops o s false ∧ v = undef)
  | .inr (.inl V) => Wants ops o s true ∧ Mono V ∧ (OPX P o s h ms V ∨ ∃ q', (∀ p ∈ q', p ∈ q ∧ p.1 ∈ o.looksAt ops) ∧ ∀ h', h.le h' → ∀ val, SatQ q' val h' → OPX P o (valQ q' val ++ s) h' ms V)
  | .inr (.inr x) => Wants ops o s true ∧ (∃ d, o.dst = some d) ∧ ONB P o s h ms x

def pushS : List Oper → List Stp → Slots → Slots
  | o :: l, .inl v :: p, s => pushS l p (match o.dst with | some d => (d, v) :: s | none => s)
  | _ :: l, .inr _ :: p, s => pushS l p s
  | _, _, s => s
def pushQ : List Oper → List Stp → List (Nat × VP)
  | o :: l, .inr (.inl V) :: p => (match o.dst with | some d => [(d, V)] | none => []) ++ pushQ l p
  | _ :: l, _ :: p => pushQ l p
  | _, _ => []
def pushA : List Oper → List Stp → List (Nat × Nb)
  | o :: l, .inr (.inr x) :: p => (match o.dst with | some d => [(d, x)] | none => []) ++ pushA l p
  | _ :: l, _ :: p => pushA l p
  | _, _ => []

def valA (al : List (Nat × Nb)) (γ : Nat → Nat) : Slots := al.map fun p => (p.1, p.2.2 (γ p.1))
def blkA (al : List (Nat × Nb)) (γ : Nat → Nat) : List Hp := al.map fun p => Blk (γ p.1) p.2.1.1 p.2.1.2

/-- The judgement: l is what is left of the first operations. -/
def WR (e : Entry) (ops : Array Oper) (Q : Exit → Act → World → Prop) (tl : List Oper) (h : Hp) (ms : List Hp) : List Oper → Slots → List (Nat × VP) → List (Nat × Nb) → Prop
  | [], s, q, al => (q = [] ∧ ∀ γ, WL e ops Q tl (valA al γ ++ s) h (blkA al γ ++ ms)) ∨ ∀ h', h.le h' → ∀ val γ, SatQ q val h' → WL e ops Q tl (valQ q val ++ (valA al γ ++ s)) h' (blkA al γ ++ ms)
  | o :: l, s, q, al =>
    (∃ v, StpOK e.P ops h ms o s q (.inl v) ∧ WR e ops Q tl h ms l (match o.dst with | some d => (d, v) :: s | none => s) q al) ∨
    (∃ V, StpOK e.P ops h ms o s q (.inr (.inl V)) ∧ WR e ops Q tl h ms l s (q ++ match o.dst with | some d => [(d, V)] | none => []) al) ∨
    (∃ x, StpOK e.P ops h ms o s q (.inr (.inr x)) ∧ WR e ops Q tl h ms l s q (al ++ match o.dst with | some d => [(d, x)] | none => []))

/-- A plan for all of l. -/
def PlanOK (P : Program) (ops : Array Oper) (h : Hp) (ms : List Hp) : List Oper → List Stp → Slots → List (Nat × VP) → Prop
  | [], [], _, _ => True
  | o :: l, st :: p, s, q => StpOK P ops h ms o s q st ∧ PlanOK P ops h ms l p (match st with | .inl v => (match o.dst with | some d => (d, v) :: s | none => s) | _ => s) (match st with | .inr (.inl V) => q ++ (match o.dst with | some d => [(d, V)] | none => []) | _ => q)
  | _, _, _, _ => False

theorem wr_plan {e : Entry} {ops : Array Oper} {Q : Exit → Act → World → Prop} {tl : List Oper} {h : Hp} {ms : List Hp} : ∀ (l : List Oper) (s : Slots) (q : List (Nat × VP)) (al : List (Nat × Nb)), WR e ops Q tl h ms l s q al →
    ∃ pl, pl.length = l.length ∧ PlanOK e.P ops h ms l pl s q ∧
      ((q ++ pushQ l pl = [] ∧ ∀ γ, WL e ops Q tl (valA (al ++ pushA l pl) γ ++ pushS l pl s) h (blkA (al ++ pushA l pl) γ ++ ms)) ∨
        ∀ h', h.le h' → ∀ val γ, SatQ (q ++ pushQ l pl) val h' → WL e ops Q tl (valQ (q ++ pushQ l pl) val ++ (valA (al ++ pushA l pl) γ ++ pushS l pl s)) h' (blkA (al ++ pushA l pl) γ ++ ms))
  | [], s, q, al, H => ⟨[], rfl, trivial, by simp only [WR] at H; simpa [pushQ, pushA, pushS] using H⟩
  | o :: l, s, q, al, H => by
    rcases H with ⟨v, h1, h2⟩ | ⟨V, h1, h2⟩ | ⟨x, h1, h2⟩
    · obtain ⟨pl, e1, e2, e3⟩ := wr_plan l _ _ _ h2
      exact ⟨.inl v :: pl, by simp [e1], ⟨h1, e2⟩, by simpa [pushQ, pushA, pushS] using e3⟩
    · obtain ⟨pl, e1, e2, e3⟩ := wr_plan l _ _ _ h2
      exact ⟨.inr (.inl V) :: pl, by simp [e1], ⟨h1, e2⟩, by simpa [pushQ, pushA, pushS, List.append_assoc] using e3⟩
    · obtain ⟨pl, e1, e2, e3⟩ := wr_plan l _ _ _ h2
      exact ⟨.inr (.inr x) :: pl, by simp [e1], ⟨h1, e2⟩, by simpa [pushQ, pushA, pushS, List.append_assoc] using e3⟩

theorem PlanOK.get {P : Program} {ops : Array Oper} {h : Hp} {ms : List Hp} : ∀ (l : List Oper) (pl : List Stp) (s : Slots) (q : List (Nat × VP)), PlanOK P ops h ms l pl s q →
    ∀ i o, l[i]? = some o → ∃ st, pl[i]? = some st ∧ StpOK P ops h ms o (pushS (l.take i) (pl.take i) s) (q ++ pushQ (l.take i) (pl.take i)) st
  | [], [], _, _, _, i, o, e => by cases e
  | [], _ :: _, _, _, H, _, _, _ => H.elim
  | _ :: _, [], _, _, H, _, _, _ => H.elim
  | o :: l, st :: p, s, q, H, i, o', e => by
    cases i with
    | zero => simp at e; subst e; exact ⟨st, rfl, by simpa [pushS, pushQ] using H.1⟩
    | succ i =>
      obtain ⟨st', e1, e2⟩ := PlanOK.get l p _ _ H.2 i o' (by simpa using e)
      refine ⟨st', by simpa using e1, ?_⟩
      rcases st with v | V | x <;> simpa [pushS, pushQ, List.append_assoc] using e2

theorem lk_pushS : ∀ (l : List Oper) (pl : List Stp) (s : Slots) (t : Nat) (u : Value), lk (pushS l pl s) t = some u →
    (∃ (j : Nat) (o : Oper), l[j]? = some o ∧ o.dst = some t ∧ pl[j]? = some (.inl u)) ∨ lk s t = some u
  | [], _, s, t, u, h => .inr (by simpa [pushS] using h)
  | o :: l, [], s, t, u, h => .inr (by simpa [pushS] using h)
  | o :: l, .inl v :: p, s, t, u, h => by
    rcases lk_pushS l p _ t u (by simpa [pushS] using h) with ⟨j, o', h1, h2, h3⟩ | h
    · exact .inl ⟨j + 1, o', by simpa using h1, h2, by simpa using h3⟩
    · cases hd : o.dst with
      | none => simp [hd] at h; exact .inr h
      | some d =>
        simp [hd] at h
        by_cases hdt : d = t
        · subst hdt; rw [lk_cons_self] at h; cases h
          exact .inl ⟨0, o, rfl, hd, rfl⟩
        · rw [lk_cons_ne _ _ hdt] at h; exact .inr h
  | o :: l, .inr x :: p, s, t, u, h => by
    rcases lk_pushS l p _ t u (by simpa [pushS] using h) with ⟨j, o', h1, h2, h3⟩ | h
    · exact .inl ⟨j + 1, o', by simpa using h1, h2, by simpa using h3⟩
    · exact .inr h

theorem mem_pushQ : ∀ (l : List Oper) (pl : List Stp) (d : Nat) (V : VP), (d, V) ∈ pushQ l pl → ∃ (j : Nat) (o : Oper), l[j]? = some o ∧ o.dst = some d ∧ pl[j]? = some (.inr (.inl V))
  | [], _, d, V, h => by cases h
  | o :: l, [], d, V, h => by cases h
  | o :: l, .inl v :: p, d, V, h => by
    obtain ⟨j, o', h1, h2, h3⟩ := mem_pushQ l p d V (by simpa [pushQ] using h)
    exact ⟨j + 1, o', by simpa using h1, h2, by simpa using h3⟩
  | o :: l, .inr (.inl W) :: p, d, V, h => by
    simp only [pushQ, List.mem_append] at h
    rcases h with h | h
    · cases hd : o.dst with
      | none => simp [hd] at h
      | some d' => simp [hd] at h; exact ⟨0, o, rfl, by rw [hd, h.1], by simp [h.2]⟩
    · obtain ⟨j, o', h1, h2, h3⟩ := mem_pushQ l p d V h
      exact ⟨j + 1, o', by simpa using h1, h2, by simpa using h3⟩
  | o :: l, .inr (.inr x) :: p, d, V, h => by
    obtain ⟨j, o', h1, h2, h3⟩ := mem_pushQ l p d V (by simpa [pushQ] using h)
    exact ⟨j + 1, o', by simpa using h1, h2, by simpa using h3⟩

theorem mem_pushA : ∀ (l : List Oper) (pl : List Stp) (d : Nat) (x : Nb), (d, x) ∈ pushA l pl → ∃ (j : Nat) (o : Oper), l[j]? = some o ∧ o.dst = some d ∧ pl[j]? = some (.inr (.inr x))
  | [], _, d, V, h => by cases h
  | o :: l, [], d, V, h => by cases h
  | o :: l, .inl v :: p, d, V, h => by
    obtain ⟨j, o', h1, h2, h3⟩ := mem_pushA l p d V (by simpa [pushA] using h)
    exact ⟨j + 1, o', by simpa using h1, h2, by simpa using h3⟩
  | o :: l, .inr (.inr W) :: p, d, V, h => by
    simp only [pushA, List.mem_append] at h
    rcases h with h | h
    · cases hd : o.dst with
      | none => simp [hd] at h
      | some d' => simp [hd] at h; exact ⟨0, o, rfl, by rw [hd, h.1], by simp [h.2]⟩
    · obtain ⟨j, o', h1, h2, h3⟩ := mem_pushA l p d V h
      exact ⟨j + 1, o', by simpa using h1, h2, by simpa using h3⟩
  | o :: l, .inr (.inl x) :: p, d, V, h => by
    obtain ⟨j, o', h1, h2, h3⟩ := mem_pushA l p d V (by simpa [pushA] using h)
    exact ⟨j + 1, o', by simpa using h1, h2, by simpa using h3⟩

/-! The check, spelt out. -/
structure Pre (pu : List Nat) (ops : Array Oper) (np : Nat) : Prop where
  le : np ≤ ops.size
  low : ∀ i, pu.contains i = true → i < np
  nosel : Region.noSelect ops = true
  backs : ∀ i o, ops[i]? = some o → ∀ e ∈ o.after, Region.binds .any e = true → e.on < i
  uniq : ∀ i j o d, ops[i]? = some o → i < np → j < np → o.dst = some d → dstAt ops j = some d → j = i
  look : ∀ i o t j, ops[i]? = some o → i < np → t ∈ o.looksAt ops → j < np → dstAt ops j = some t → j < i ∧ edge o j = true
  tail : ∀ i j, i < ops.size → np ≤ i → j < i → pu.contains j = true ∨ reach ops ops.size i j = true

theorem preOK_spec {pu : List Nat} {ops : Array Oper} {np : Nat} (h : preOK pu ops np = true) : Pre pu ops np := by
  simp only [preOK, Bool.and_eq_true, List.all_eq_true, List.mem_range] at h
  obtain ⟨⟨⟨h1, h1'⟩, h2⟩, h3⟩ := h
  have at_ : ∀ i o, ops[i]? = some o → i < ops.size := fun i o e => (Array.getElem?_eq_some_iff.1 e).1
  refine ⟨Nat.le_of_ble_eq_true h1, fun i hi => Nat.le_of_ble_eq_true (h1' i (by simpa using hi)), h2, ?_, ?_, ?_, ?_⟩
  · intro i o e ed hed hb
    have := h3 i (at_ i o e)
    simp only [e, Bool.and_eq_true] at this
    have h4 := Array.all_eq_true_iff_forall_mem.1 this.1 ed hed
    simp [hb] at h4
    exact h4
  · intro i j o d e hi hj hd hdj
    have := h3 i (at_ i o e)
    simp only [e, Bool.and_eq_true, hi, if_true, List.all_eq_true, List.mem_range, hd] at this
    have h4 := this.2.1 j hj
    simp [hdj] at h4
    exact h4
  · intro i o t j e hi ht hj hd
    have := h3 i (at_ i o e)
    simp only [e, Bool.and_eq_true, hi, if_true, List.all_eq_true, List.mem_range] at this
    have h4 := this.2.2 t ht j hj
    simp [hd] at h4
    exact h4
  · intro i j his hi hj
    obtain ⟨o, e⟩ : ∃ o, ops[i]? = some o := ⟨ops[i], by simp [his]⟩
    have := h3 i (at_ i o e)
    have hni : ¬ i < np := by omega
    simp only [e, Bool.and_eq_true, hni, if_false, List.all_eq_true, List.mem_range] at this
    exact Bool.or_eq_true_iff.1 (this.2 j hj)

theorem edge_spec {o : Oper} {j : Nat} (h : edge o j = true) : ∃ e ∈ o.after, Region.binds .any e = true ∧ e.on = j := by
  obtain ⟨e, he, hb⟩ := Array.any_eq_true'.1 h
  simp at hb
  exact ⟨e, he, hb.1, hb.2⟩

/-- A ready operation comes behind all that it waits for. -/
theorem ready_edge {ops : Array Oper} {listed : Array Bool} {i : Nat} {o : Oper} (hi : ops[i]? = some o) (hr : i ∈ Region.ready .any ops listed) {j : Nat} (h : edge o j = true) : listed.getD j false = true := by
  obtain ⟨_, o', ho', hall⟩ := mem_ready.1 hr
  rw [hi] at ho'; cases ho'
  obtain ⟨e, he, hb, rfl⟩ := edge_spec h
  exact hall e he hb

/-- What is listed waits for nothing that is not. -/
def Closed (ops : Array Oper) (listed : Array Bool) : Prop := ∀ i o, listed.getD i false = true → ops[i]? = some o → ∀ e ∈ o.after, Region.binds .any e = true → listed.getD e.on false = true

theorem reach_listed {ops : Array Oper} {listed : Array Bool} (hc : Closed ops listed) : ∀ (n i j : Nat) (o : Oper), ops[i]? = some o → (∀ e ∈ o.after, Region.binds .any e = true → listed.getD e.on false = true) → reach ops n i j = true → listed.getD j false = true
  | 0, _, _, _, _, _, h => by cases h
  | n + 1, i, j, o, ho, hall, h => by
    simp only [reach, ho, Bool.or_eq_true] at h
    rcases h with h | h
    · obtain ⟨e, he, hb, rfl⟩ := edge_spec h
      exact hall e he hb
    · obtain ⟨e, he, hb⟩ := Array.any_eq_true'.1 h
      simp only [Bool.and_eq_true] at hb
      have hl := hall e he hb.1
      cases ho' : ops[e.on]? with
      | none =>
        cases n with
        | zero => cases hb.2
        | succ n => simp [reach, ho'] at hb
      | some o' => exact reach_listed hc n e.on j o' ho' (fun e' he' hb' => hc e.on o' hl ho' e' he' hb') hb.2

theorem ready_reach {ops : Array Oper} {listed : Array Bool} (hc : Closed ops listed) {n i : Nat} (hr : i ∈ Region.ready .any ops listed) {j : Nat} (h : reach ops n i j = true) : listed.getD j false = true := by
  obtain ⟨_, o, ho, hall⟩ := mem_ready.1 hr
  exact reach_listed hc n i j o ho hall h

theorem Closed.set {ops : Array Oper} {listed : Array Bool} (hc : Closed ops listed) {i : Nat} (hr : i ∈ Region.ready .any ops listed) : Closed ops (listed.setIfInBounds i true) := by
  intro k o hk ho e he hb
  refine getD_set_true ?_
  by_cases hki : i = k
  · subst hki
    obtain ⟨_, o', ho', hall⟩ := mem_ready.1 hr
    rw [ho] at ho'; cases ho'
    exact hall e he hb
  · rw [getD_set_ne false hki] at hk
    exact hc k o hk ho e he hb

/-! Counting what is left. -/
def left (listed : Array Bool) : Nat := listed.toList.countP (! ·)
theorem countP_set (l : List Bool) (i : Nat) (h : l[i]? = some false) : (l.set i true).countP (! ·) + 1 = l.countP (! ·) := by
  induction l generalizing i with
  | nil => cases h
  | cons a l ih =>
    cases i with
    | zero => simp at h; subst h; simp
    | succ i => simp at h; simp [List.countP_cons]; have := ih i h; omega
theorem left_set {listed : Array Bool} {i : Nat} (h : listed[i]? = some false) : left (listed.setIfInBounds i true) + 1 = left listed := by
  unfold left
  rw [Array.toList_setIfInBounds]
  exact countP_set _ _ (by simpa using h)
theorem left_zero {listed : Array Bool} (h : left listed = 0) (i : Nat) : listed.getD i true = true := by
  unfold left at h
  rw [List.countP_eq_zero] at h
  rw [Array.getD_eq_getD_getElem?]
  cases e : listed[i]? with
  | none => rfl
  | some b =>
    have := h b (by rw [Array.mem_toList_iff]; exact Array.mem_of_getElem? e)
    simpa using this

theorem getD_false_some {listed : Array Bool} {i : Nat} (h : listed.getD i true = false) : listed[i]? = some false := by
  rw [Array.getD_eq_getD_getElem?] at h
  cases e : listed[i]? with
  | none => rw [e] at h; cases h
  | some b => rw [e] at h; simp at h; rw [h]

/-! The tail: one operation at a time. -/
theorem tail_any {P : Program} {pu : List Nat} {ops : Array Oper} {Q : Exit → Act → World → Prop} {np : Nat} (hp : Pre pu ops np) : ∀ (l : List Oper) (k fuel : Nat) (listed : Array Bool) (a : Act) (w : World),
    ops.toList.drop k = l → np ≤ k → Closed ops listed → listed.size = ops.size → (∀ j, j < ops.size → (listed.getD j false = true ↔ j < k)) → left listed ≤ fuel → wpList P ops Q l a w → wpAny P .any ops Q fuel listed a w := by
  intro l
  induction l with
  | nil =>
    intro k fuel listed a w hl hk hc hs hlist hf h
    have hk' : ops.size ≤ k := by simpa using List.drop_eq_nil_iff.1 hl
    refine wpAny_done ?_ h fuel
    cases hr : Region.ready .any ops listed with
    | nil => rfl
    | cons x xs =>
      have hx : x ∈ Region.ready .any ops listed := by rw [hr]; exact List.mem_cons_self
      obtain ⟨h0, o, ho, _⟩ := mem_ready.1 hx
      have hlt := (Array.getElem?_eq_some_iff.1 ho).1
      have := (hlist x hlt).2 (by omega)
      have h2 := getD_false_some h0
      rw [Array.getD_eq_getD_getElem?, h2] at this; cases this
  | cons o l ih =>
    intro k fuel listed a w hl hk hc hs hlist hf h
    have hko : ops[k]? = some o := by
      have : (ops.toList.drop k)[0]? = some o := by rw [hl]; rfl
      simpa using this
    have hklt : k < ops.size := (Array.getElem?_eq_some_iff.1 hko).1
    have hkf : listed[k]? = some false := by
      have hlt : k < listed.size := by omega
      cases e : listed[k] with
      | false => simp [hlt, e]
      | true =>
        have := (hlist k hklt).1 (by rw [Array.getD_eq_getD_getElem?]; simp [hlt, e])
        omega
    have hl1 := left_set hkf
    cases fuel with
    | zero => omega
    | succ fuel =>
      have hready : ∀ j ∈ Region.ready .any ops listed, j = k := by
        intro j hj
        obtain ⟨h0, o', ho', _⟩ := mem_ready.1 hj
        have hjlt := (Array.getElem?_eq_some_iff.1 ho').1
        have hjk : ¬ j < k := fun hc => by
          have := (hlist j hjlt).2 hc
          rw [Array.getD_eq_getD_getElem?, getD_false_some h0] at this; cases this
        by_cases hjk' : j = k
        · exact hjk'
        · have := ready_reach hc hj ((hp.tail j k hjlt (by omega) (by omega)).resolve_left fun h' => by have := hp.low k h'; omega)
          rw [Array.getD_eq_getD_getElem?, hkf] at this; cases this
      have hkr : k ∈ Region.ready .any ops listed := mem_ready.2 ⟨by rw [Array.getD_eq_getD_getElem?, hkf]; rfl, o, hko, fun e he hb => (hlist e.on (by have := hp.backs k o hko e he hb; omega)).2 (hp.backs k o hko e he hb)⟩
      refine ⟨fun h0 => (by rw [h0] at hkr; cases hkr), fun j hj => ?_⟩
      obtain rfl := hready j hj
      have hnext : ∀ a w, wpList P ops Q l a w → wpAny P .any ops Q fuel (listed.setIfInBounds j true) a w := fun a w hw => by
        refine ih (j + 1) fuel _ a w ?_ (by omega) (hc.set hkr) (by simpa using hs) ?_ (by omega) hw
        · rw [← List.drop_drop, hl]; rfl
        · intro i hi
          by_cases hij : i = j
          · subst hij
            have : i < listed.size := by omega
            simp [Array.getD_eq_getD_getElem?, this]
          · rw [Array.getD_eq_getD_getElem?, Array.getElem?_setIfInBounds_ne (Ne.symm hij), ← Array.getD_eq_getD_getElem?, hlist i hi]
            omega
      unfold wpOp
      simp only [hko]
      unfold wpList at h
      split
      · rename_i hw
        rw [if_pos hw] at h
        exact h.imp (Oper.wp_mono hnext) id
      · rename_i hw
        rw [if_neg hw] at h
        exact hnext _ _ h

/-! What stands while the first operations come up in whatever order. -/
def resAt (pl : List Stp) (dst : Nat → Option Nat) (γ : Nat → Nat) (j : Nat) : List Hp :=
  match pl[j]?, dst j with
  | some (.inr (.inr x)), some d => [Blk (γ d) x.1.1 x.1.2]
  | _, _ => []
def Rel (h : Hp) (γ : Nat → Nat) (d : Nat) (u : Value) : Stp → Prop
  | .inl v => u = v
  | .inr (.inl V) => Mono V ∧ V h u
  | .inr (.inr x) => u = x.2 (γ d)

structure Mid (e : Entry) (pu : List Nat) (ops : Array Oper) (np : Nat) (pl : List Stp) (s0 : Slots) (h0 : Hp) (ms : List Hp) (listed : Array Bool) (a : Act) (w : World) (h : Hp) (γ : Nat → Nat) : Prop where
  le : h0.le h
  ends : e.Ends w h (((List.range np).flatMap fun j => if listed.getD j false then resAt pl (dstAt ops) γ j else []) ++ ms)
  defers : a.defers = []
  size : a.tmps.size = e.n
  old : ∀ t u, lk s0 t = some u → (∀ j, j < np → dstAt ops j ≠ some t) → a.tmps[t]? = some u
  new : ∀ j, j < np → listed.getD j false = true → ∀ d, dstAt ops j = some d → ∃ u st, a.tmps[d]? = some u ∧ pl[j]? = some st ∧ Rel h γ d u st
  later : ∀ j, np ≤ j → listed.getD j false = false
  lsize : listed.size = ops.size
  closed : Closed ops listed
  pure : ∀ j, pu.contains j = true → listed.getD j false = true

theorem ev_append_nil (s : Slots) : ([] : Slots) ++ s = s := rfl
theorem lk_append (a s : Slots) (t : Nat) : lk (a ++ s) t = (lk a t).or (lk s t) := by
  induction a with
  | nil => simp [lk]
  | cons p a ih =>
    obtain ⟨i, v⟩ := p
    by_cases hi : i = t
    · subst hi; rw [List.cons_append, lk_cons_self, lk_cons_self]; rfl
    · rw [List.cons_append, lk_cons_ne _ _ hi, lk_cons_ne _ _ hi, ih]
theorem lk_mem : ∀ (s : Slots) (t : Nat) (u : Value), lk s t = some u → (t, u) ∈ s
  | (i, v) :: s, t, u, h => by
    by_cases hi : i = t
    · subst hi; rw [lk_cons_self] at h; cases h; exact List.mem_cons_self
    · rw [lk_cons_ne _ _ hi] at h; exact List.mem_cons_of_mem _ (lk_mem s t u h)

/-- The immutable part grows by what a call made. -/
theorem Ends.grow {w0 w w' : World} {h0 h h1 h1' : Hp} {ms0 ms : List Hp} (H : Ends w0 h0 ms0 w h ms) (hl : h1.le h) (hl' : h1.le h1') (hin : h1'.inW w') (hold : ∀ k, k < w.heap.size → h1' k = h1 k) (he : Ext w w') :
    h.le (h.join h1') ∧ h1'.le (h.join h1') ∧ Ends w0 h0 ms0 w' (h.join h1') ms := by
  have H' := H.ext he
  have e1 : ∀ k, k < w.heap.size → (h.join h1') k = h k := fun k hk => by
    unfold Hp.join
    cases e : h k with
    | some o => rfl
    | none =>
      simp only
      rw [hold k hk]
      cases e2 : h1 k with
      | none => rfl
      | some o => rw [hl k o e2] at e; cases e
  refine ⟨Hp.le_join _ _, ?_, ⟨⟨?_, H'.st.own, ?_, H'.st.apart⟩, H'.os, H'.tape, H'.output, H'.size, H'.block, Hp.le_trans H'.le (Hp.le_join _ _), ?_, H'.mnew⟩⟩
  · intro k o e
    rcases Nat.lt_or_ge k w.heap.size with hk | hk
    · rw [e1 k hk]; rw [hold k hk] at e; exact hl k o e
    · have : h k = none := Hp.inW_none H.st.imm hk
      simp [Hp.join, this, e]
  · intro k o e
    unfold Hp.join at e
    split at e
    · rename_i o' e'; cases e; exact H'.st.imm k _ e'
    · exact hin k o e
  · intro m hm k
    cases e : m k with
    | none => exact .inl rfl
    | some o =>
      right
      have hk : k < w.heap.size := Hp.inW_lt (H.st.own m hm) e
      rw [e1 k hk]
      rcases H.st.off m hm k with e2 | e2
      · rw [e2] at e; cases e
      · exact e2
  · intro k hk hm
    rw [e1 k (Nat.lt_of_lt_of_le hk H.size)]
    exact H.hnew k hk hm

theorem St.weaken {w : World} {h h1 : Hp} {ms ms1 : List Hp} (s : St w h ms) (hl : h1.le h) (hm : ms1.Sublist ms) : St w h1 ms1 :=
  ⟨fun g o e => s.imm g o (hl g o e), fun m h' => s.own m (hm.subset h'), fun m h' k => by
    rcases s.off m (hm.subset h') k with e | e
    · exact .inl e
    · right
      cases e2 : h1 k with
      | none => rfl
      | some o => (rw [hl k o e2] at e; cases e), s.apart.sublist hm⟩


theorem Ends.back {w0 w w1 : World} {h0 h h1 : Hp} {ms0 ms ms1 : List Hp} (H : Ends w0 h0 ms0 w h ms) (H1 : Ends w0 h0 ms0 w1 h1 ms1) (hl : h1.le h) : Ends w0 h0 ms0 w h1 ms :=
  ⟨H.st.weaken hl (List.Sublist.refl _), H.os, H.tape, H.output, H.size, H.block, H1.le, H1.hnew, H.mnew⟩

theorem OpRes.congr {P : Program} {o : Oper} {ρ ρ' : Operand → Value} {w : World} {Φ : Value → World → Prop} (hs : ∀ cs b, o.op ≠ .select cs b) (h : ∀ x ∈ o.op.operands, ρ x = ρ' x) (k : OpRes P o ρ w Φ) : OpRes P o ρ' w Φ := by
  unfold OpRes at *; rwa [← execOp_congr o hs h]

theorem Act.eval_of_slot {a : Act} {t : Nat} {u : Value} (h : a.tmps[t]? = some u) : a.eval (.tmp t) = u := by
  simp only [Act.eval]; rw [Array.getD_eq_getD_getElem?, h]; rfl

/-- To pay for an operation it is enough to know the slots that it looks at. -/
theorem OpRes.looks {P : Program} {ops : Array Oper} {o : Oper} {a : Act} {w : World} {s : Slots} {Φ : Value → World → Prop} (hs : ∀ cs b, o.op ≠ .select cs b) (hl : ∀ t ∈ o.looksAt ops, ∀ u, lk s t = some u → a.tmps[t]? = some u)
    (k : ∀ ρ, Evs s ρ → OpRes P o ρ w Φ) : OpRes P o a.eval w Φ := by
  classical
  refine OpRes.congr (ρ := fun x => if x ∈ o.op.operands then a.eval x else (ev s x).getD undef) hs (fun x hx => if_pos hx) (k _ fun x u hu => ?_)
  show (if x ∈ o.op.operands then a.eval x else (ev s x).getD undef) = u
  split
  · rename_i hx
    cases x with
    | tmp t =>
      refine Act.eval_of_slot (hl t ?_ u hu)
      exact List.mem_append_left _ (List.mem_filterMap.2 ⟨.tmp t, by simpa using hx, rfl⟩)
    | const v => cases hu; rfl
    | global g => cases hu; rfl
    | func f => cases hu; rfl
  · rw [hu]; rfl

theorem flatMap_one {α : Type} (x : α) (f f' : Nat → List α) (i : Nat) : ∀ (l : List Nat), l.Nodup → i ∈ l → (∀ j ∈ l, j ≠ i → f' j = f j) → f i = [] → f' i = [x] → (x :: l.flatMap f).Perm (l.flatMap f')
  | [], _, h, _, _, _ => by cases h
  | j :: l, hn, hi, ho, e1, e2 => by
    simp only [List.flatMap_cons]
    by_cases hj : j = i
    · subst hj
      rw [e1, e2]
      have hnot : j ∉ l := (List.nodup_cons.1 hn).1
      have : l.flatMap f' = l.flatMap f := by
        have : ∀ (l' : List Nat), (∀ k ∈ l', k ≠ j ∧ k ∈ j :: l) → l'.flatMap f' = l'.flatMap f := by
          intro l'
          induction l' with
          | nil => intro _; rfl
          | cons k l' ih => intro hk; simp only [List.flatMap_cons]; rw [ho k (hk k (by simp)).2 (hk k (by simp)).1, ih fun k' hk' => hk k' (List.mem_cons_of_mem _ hk')]
        exact this l fun k hk => ⟨fun e => hnot (e ▸ hk), List.mem_cons_of_mem _ hk⟩
      rw [this]
      exact List.Perm.refl _
    · rw [ho j (by simp) hj]
      have hil : i ∈ l := (List.mem_cons.1 hi).resolve_left (fun e => hj e.symm)
      have := flatMap_one x f f' i l (List.nodup_cons.1 hn).2 hil (fun k hk hne => ho k (List.mem_cons_of_mem _ hk) hne) e1 e2
      exact (List.perm_middle.symm).trans (List.Perm.append_left _ this)
theorem flatMap_same {α : Type} (f f' : Nat → List α) : ∀ (l : List Nat), (∀ j ∈ l, f' j = f j) → l.flatMap f' = l.flatMap f
  | [], _ => rfl
  | j :: l, h => by simp only [List.flatMap_cons]; rw [h j (by simp), flatMap_same f f' l fun k hk => h k (List.mem_cons_of_mem _ hk)]

theorem res_all (γ : Nat → Nat) : ∀ (l : List Oper) (pl : List Stp), pl.length = l.length →
    (List.range l.length).flatMap (fun j => resAt pl (fun j => (l[j]?).bind (·.dst)) γ j) = blkA (pushA l pl) γ
  | [], [], _ => rfl
  | o :: l, st :: pl, h => by
    have ih := res_all γ l pl (by simpa using h)
    rw [List.length_cons, List.range_succ_eq_map, List.flatMap_cons, List.flatMap_map]
    have ih' : (List.range l.length).flatMap (fun a => resAt (st :: pl) (fun j => ((o :: l)[j]?).bind (·.dst)) γ (Nat.succ a)) = blkA (pushA l pl) γ := by
      rw [← ih]
      refine flatMap_same _ _ _ fun j _ => ?_
      simp [resAt]
    rw [ih']
    rcases st with v | V | x
    · simp [pushA, resAt]
    · simp [pushA, resAt]
    · cases hd : o.dst with
      | none => simp [pushA, hd, resAt]
      | some d => simp [pushA, hd, blkA, resAt]

section sound
variable {e : Entry} {pu : List Nat} {ops : Array Oper} {np : Nat} {pl : List Stp} {s0 : Slots} {h0 : Hp} {ms : List Hp} {listed : Array Bool} {a : Act} {w : World} {h : Hp} {γ : Nat → Nat}

/-- What an operation that comes up looks at is as the plan says. -/
theorem Mid.look (M : Mid e pu ops np pl s0 h0 ms listed a w h γ) (hp : Pre pu ops np) (hlen : pl.length = np) (hf : ∀ j, j < np → ∀ d, dstAt ops j = some d → lk s0 d = none) {i : Nat} {o : Oper} (hi : ops[i]? = some o) (hin : i < np) (hr : i ∈ Region.ready .any ops listed) {t : Nat} (ht : t ∈ o.looksAt ops) {u : Value}
    (hu : lk (pushS (ops.toList.take i) (pl.take i) s0) t = some u) : a.tmps[t]? = some u := by
  rcases lk_pushS _ _ _ _ _ hu with ⟨j, o', h1, h2, h3⟩ | h1
  · have hji : j < i := by
      have := (List.getElem?_eq_some_iff.1 h1).1
      simp at this; omega
    have hoj : ops[j]? = some o' := by
      rw [List.getElem?_take, if_pos hji] at h1; simpa using h1
    have hplj : pl[j]? = some (.inl u) := by
      rw [List.getElem?_take, if_pos hji] at h3; exact h3
    have hd : dstAt ops j = some t := by simp [dstAt, hoj, h2]
    obtain ⟨_, hed⟩ := hp.look i o t j hi hin ht (by omega) hd
    obtain ⟨u', st, e1, e2, e3⟩ := M.new j (by omega) (ready_edge hi hr hed) t hd
    rw [hplj] at e2; cases e2
    simp only [Rel] at e3
    rw [e1, e3]
  · exact M.old t u h1 fun j hj hd => by rw [hf j hj t hd] at h1; cases h1

theorem Mid.lookQ (M : Mid e pu ops np pl s0 h0 ms listed a w h γ) (hp : Pre pu ops np) {i : Nat} {o : Oper} (hi : ops[i]? = some o) (hin : i < np) (hr : i ∈ Region.ready .any ops listed) {d : Nat} {V : VP} (hd : d ∈ o.looksAt ops) (hq : (d, V) ∈ pushQ (ops.toList.take i) (pl.take i)) :
    ∃ u, a.tmps[d]? = some u ∧ V h u := by
  obtain ⟨j, o', h1, h2, h3⟩ := mem_pushQ _ _ _ _ hq
  have hji : j < i := by
    have := (List.getElem?_eq_some_iff.1 h1).1
    simp at this; omega
  have hoj : ops[j]? = some o' := by
    rw [List.getElem?_take, if_pos hji] at h1; simpa using h1
  have hplj : pl[j]? = some (.inr (.inl V)) := by
    rw [List.getElem?_take, if_pos hji] at h3; exact h3
  have hdj : dstAt ops j = some d := by simp [dstAt, hoj, h2]
  obtain ⟨_, hed⟩ := hp.look i o d j hi hin hd (by omega) hdj
  obtain ⟨u', st, e1, e2, e3⟩ := M.new j (by omega) (ready_edge hi hr hed) d hdj
  rw [hplj] at e2; cases e2
  exact ⟨u', e1, e3.2⟩

theorem Rel.le {h h' : Hp} {γ : Nat → Nat} {d : Nat} {u : Value} {st : Stp} (hl : h.le h') (r : Rel h γ d u st) : Rel h' γ d u st := by
  rcases st with v | V | x
  · exact r
  · exact ⟨r.1, r.1 _ _ _ hl r.2⟩
  · exact r

/-- What stands once operation i has come up, and yielded u. -/
theorem Mid.next (M : Mid e pu ops np pl s0 h0 ms listed a w h γ) (hp : Pre pu ops np) (hlen : pl.length = np) {i : Nat} {o : Oper} (hi : ops[i]? = some o) (hin : i < np) (hr : i ∈ Region.ready .any ops listed) (hun : listed.getD i true = false) (hbig : ∀ d, o.dst = some d → d < e.n) {st : Stp} (hst : pl[i]? = some st) {u : Value} {w' : World} {h' : Hp} {γ' : Nat → Nat}
    (hl : h.le h') (hγ : ∀ d, o.dst ≠ some d → γ' d = γ d) (hγ0 : (∀ x, st ≠ .inr (.inr x)) → γ' = γ) (hR : ∀ d, o.dst = some d → Rel h' γ' d u st)
    (hE : e.Ends w' h' (resAt pl (dstAt ops) γ' i ++ (((List.range np).flatMap fun j => if listed.getD j false then resAt pl (dstAt ops) γ j else []) ++ ms))) :
    Mid e pu ops np pl s0 h0 ms (listed.setIfInBounds i true) (a.put o.dst u) w' h' γ' := by
  have hilt : i < listed.size := by rw [M.lsize]; exact (Array.getElem?_eq_some_iff.1 hi).1
  have hdi : dstAt ops i = o.dst := by simp [dstAt, hi]
  have hset : ∀ j d, (listed.setIfInBounds i true).getD j d = if j = i then true else listed.getD j d := fun j d => by
    by_cases hj : j = i
    · subst hj; simp [hilt]
    · rw [getD_set_ne d (Ne.symm hj)]; simp [hj]
  have hli : listed.getD i false = false := by rw [Array.getD_eq_getD_getElem?, getD_false_some hun]; rfl
  have hresj : ∀ j, j ≠ i → j < np → resAt pl (dstAt ops) γ' j = resAt pl (dstAt ops) γ j := fun j hj hjn => by
    unfold resAt
    split
    · rename_i x d e1 e2
      rw [hγ d (fun e3 => hj (hp.uniq i j o d hi hin hjn e3 e2))]
    · rfl
  refine ⟨Hp.le_trans M.le hl, ?_, by cases hd : o.dst <;> exact M.defers, ?_, ?_, ?_, ?_, by simpa using M.lsize, M.closed.set hr, fun j hj => getD_set_true (M.pure j hj)⟩
  · -- resources
    cases hr : resAt pl (dstAt ops) γ' i with
    | nil =>
      rw [hr, List.nil_append] at hE
      refine Ends.perm hE (List.Perm.of_eq ?_)
      congr 1
      refine (flatMap_same _ _ _ fun j hj => ?_).symm
      rw [hset]
      by_cases hji : j = i
      · subst hji; simp [hli, hr]
      · simp only [hji, if_false]
        split
        · exact hresj j hji (by simpa using hj)
        · rfl
    | cons x xs =>
      have hx : xs = [] := by
        unfold resAt at hr; split at hr
        · simp at hr; exact hr.2
        · cases hr
      subst hx
      rw [hr, List.singleton_append, ← List.cons_append] at hE
      refine Ends.perm hE (List.Perm.append_right _ ?_)
      refine flatMap_one x _ _ i _ List.nodup_range (by simpa using hin) ?_ (by simp [hli]) (by rw [hset]; simp [hr])
      intro j hj hji
      rw [hset]
      simp only [hji, if_false]
      split
      · exact hresj j hji (by simpa using hj)
      · rfl
  · cases hd : o.dst <;> simp [Act.put, M.size]
  · intro t v hv hno
    have hne : o.dst ≠ some t := by rw [← hdi]; exact hno i hin
    cases hd : o.dst with
    | none => exact M.old t v hv hno
    | some d =>
      have : d ≠ t := fun e => hne (by rw [hd, e])
      simp [Act.put, Array.getElem?_setIfInBounds_ne this, M.old t v hv hno]
  · intro j hj hlj d hd
    by_cases hji : j = i
    · subst hji
      rw [hdi] at hd
      refine ⟨u, st, ?_, hst, hR d hd⟩
      rw [hd]; simp [Act.put, M.size, hbig d hd]
    · rw [hset] at hlj; simp only [hji, if_false] at hlj
      obtain ⟨u', st', e1, e2, e3⟩ := M.new j hj hlj d hd
      have hne : o.dst ≠ some d := fun e' => hji (hp.uniq i j o d hi hin hj e' hd)
      refine ⟨u', st', ?_, e2, ?_⟩
      · cases hd' : o.dst with
        | none => exact e1
        | some d' =>
          have : d' ≠ d := fun e => hne (by rw [hd', e])
          simp [Act.put, Array.getElem?_setIfInBounds_ne this, e1]
      · have := Rel.le hl e3
        rcases st' with v | V | x
        · exact this
        · exact this
        · simp only [Rel] at this ⊢; rw [hγ d hne]; exact this
  · intro j hj
    rw [hset]
    have : j ≠ i := by omega
    simp only [this, if_false]
    exact M.later j hj

theorem wants_spec {s : Slots} {o : Oper} {b : Bool} (hl : ∀ t ∈ o.looksAt ops, ∀ u, lk s t = some u → a.tmps[t]? = some u) (h : Wants ops o s b) : Region.wanted o (yielded ops a.tmps) = b := by
  unfold Wants at h
  unfold Region.wanted
  cases hg : o.guard with
  | none => simp only [hg] at h; simp [h]
  | some p =>
    obtain ⟨j, want⟩ := p
    simp only [hg] at h
    have hlk : ∀ dj u, dstAt ops j = some dj → lk s dj = some u → a.tmps[dj]? = some u := fun dj u e1 e2 => by
      refine hl dj ?_ _ e2
      unfold Oper.looksAt
      refine List.mem_append_right _ ?_
      simp only [hg]
      unfold dstAt at e1
      rw [e1]; simp
    rcases h with ⟨dj, b', e1, e2, e3⟩ | ⟨dj, e1, e2, e3⟩
    rotate_left
    · have h1 := hlk dj _ e1 e2
      have hy : yielded ops a.tmps j = none := by
        unfold yielded
        unfold dstAt at e1
        rw [e1]; simp [h1, undef]
      simp only [hy, e3]; rfl
    have h1 : a.tmps[dj]? = some (.bool b') := hlk dj _ e1 e2
    have hy : yielded ops a.tmps j = some b' := by
      unfold yielded
      unfold dstAt at e1
      rw [e1]; simp [h1]
    simp only [hy, e3]
    cases b' <;> cases want <;> rfl

/-- One operation comes up. -/
theorem Mid.step (M : Mid e pu ops np pl s0 h0 ms listed a w h γ) (hp : Pre pu ops np) (hlen : pl.length = np) (hf : ∀ j, j < np → ∀ d, dstAt ops j = some d → lk s0 d = none) (hbig : ∀ j, j < np → ∀ d, dstAt ops j = some d → d < e.n) {i : Nat} {o : Oper} (hi : ops[i]? = some o) (hin : i < np) (hr : i ∈ Region.ready .any ops listed)
    {st : Stp} (hst : pl[i]? = some st) (hok : StpOK e.P ops h0 ms o (pushS (ops.toList.take i) (pl.take i) s0) (pushQ (ops.toList.take i) (pl.take i)) st) {Q : Exit → Act → World → Prop} {K : Act → World → Prop}
    (hK : ∀ a' w' h' γ', Mid e pu ops np pl s0 h0 ms (listed.setIfInBounds i true) a' w' h' γ' → K a' w') : wpOp e.P ops Q i K a w := by
  have hun := (mem_ready.1 hr).1
  have hdi : dstAt ops i = o.dst := by simp [dstAt, hi]
  have hbig' : ∀ d, o.dst = some d → d < e.n := fun d hd => hbig i hin d (by rw [hdi, hd])
  have hlook := fun (t : Nat) (ht : t ∈ o.looksAt ops) (u : Value) hu => M.look hp hlen hf hi hin hr ht (u := u) hu
  have hsel : ∀ cs b, o.op ≠ .select cs b := fun cs b => Region.noSelect_spec hp.nosel i o cs b hi
  have hst0 : St w h0 ms := M.ends.st.weaken M.le (List.sublist_append_right _ _)
  have hsth : St w h ms := M.ends.st.weaken (Hp.le_refl _) (List.sublist_append_right _ _)
  unfold wpOp
  simp only [hi]
  have hresX : (∀ x, st ≠ .inr (.inr x)) → resAt pl (dstAt ops) γ i = [] := fun hne => by
    unfold resAt; rw [hst]
    rcases st with v | V | x
    · rfl
    · rfl
    · exact absurd rfl (hne x)
  have hvalQ : ∀ q', (∀ p ∈ q', p ∈ pushQ (ops.toList.take i) (pl.take i) ∧ p.1 ∈ o.looksAt ops) → SatQ q' (fun d => (a.tmps[d]?).getD undef) h ∧ ∀ t ∈ o.looksAt ops, ∀ u, lk (valQ q' (fun d => (a.tmps[d]?).getD undef) ++ pushS (ops.toList.take i) (pl.take i) s0) t = some u → a.tmps[t]? = some u := fun q' hq' => by
    refine ⟨fun d V hdV => ?_, fun t ht u hu => ?_⟩
    · obtain ⟨h1, h2⟩ := hq' _ hdV
      obtain ⟨u, e1, e2⟩ := M.lookQ hp hi hin hr h2 h1
      simp only [e1]; exact e2
    · rw [lk_append] at hu
      cases hq : lk (valQ q' fun d => (a.tmps[d]?).getD undef) t with
      | none => rw [hq] at hu; exact hlook t ht u hu
      | some u' =>
        rw [hq] at hu; cases hu
        have hm := lk_mem _ _ _ hq
        unfold valQ at hm
        obtain ⟨p, hp', e1⟩ := List.mem_map.1 hm
        obtain ⟨d, V⟩ := p
        simp only [Prod.mk.injEq] at e1
        obtain ⟨rfl, rfl⟩ := e1
        obtain ⟨h1, h2⟩ := hq' _ hp'
        obtain ⟨u, e1, e2⟩ := M.lookQ hp hi hin hr h2 h1
        simp [e1]
  -- an exact value, or none
  have exact_ : ∀ v, st = .inl v → ∀ w', Ext w w' → K (a.put o.dst v) w' := fun v hv w' he => by
    subst hv
    refine hK _ _ h γ (M.next hp hlen hi hin hr hun hbig' hst (Hp.le_refl _) (fun _ _ => rfl) (fun _ => rfl) (fun d _ => rfl) ?_)
    rw [hresX (fun x hx => by cases hx), List.nil_append]
    exact Ends.ext M.ends he
  rcases st with v | V | x
  · rcases hok with ⟨hw, hx⟩ | ⟨hw, q', hq', hx⟩ | ⟨hw, rfl⟩
    · rw [wants_spec hlook hw, if_pos rfl]
      exact .inl ((OpRes.looks hsel hlook fun ρ hρ => hx ρ w hρ hst0).wp fun v' w' ⟨e1, e2⟩ => by subst e1; exact exact_ _ rfl w' e2)
    · rw [wants_spec hlook hw, if_pos rfl]
      obtain ⟨hsat, hlook'⟩ := hvalQ q' hq'
      exact .inl ((OpRes.looks hsel hlook' fun ρ hρ => hx h M.le _ hsat ρ w hρ hsth).wp fun v' w' ⟨e1, e2⟩ => by subst e1; exact exact_ _ rfl w' e2)
    · rw [wants_spec hlook hw, if_neg (by simp)]
      exact exact_ _ rfl w (Below.refl _ _)
  · obtain ⟨hw, hmono, hx⟩ := hok
    rw [wants_spec hlook hw, if_pos rfl]
    have fin : ∀ (h1 : Hp) (u : Value) (w' : World), h1.le h → (∃ h' : Hp, h1.le h' ∧ h'.inW w' ∧ (∀ k, k < w.heap.size → h' k = h1 k) ∧ Ext w w' ∧ V h' u) → K (a.put o.dst u) w' := fun h1 u w' hl ⟨h', g1, g2, g3, g4, g5⟩ => by
      obtain ⟨l1, l2, E⟩ := Ends.grow M.ends hl g1 g2 g3 g4
      refine hK _ _ _ γ (M.next hp hlen hi hin hr hun hbig' hst l1 (fun _ _ => rfl) (fun _ => rfl) (fun d _ => ⟨hmono, hmono _ _ _ l2 g5⟩) ?_)
      rw [hresX (fun x hx => by cases hx), List.nil_append]
      exact E
    rcases hx with hx | ⟨q', hq', hx⟩
    · exact .inl ((OpRes.looks hsel hlook fun ρ hρ => hx ρ w hρ hst0).wp fun u w' hh => fin h0 u w' M.le hh)
    · obtain ⟨hsat, hlook'⟩ := hvalQ q' hq'
      exact .inl ((OpRes.looks hsel hlook' fun ρ hρ => hx h M.le _ hsat ρ w hρ hsth).wp fun u w' hh => fin h u w' (Hp.le_refl _) hh)
  · obtain ⟨hw, ⟨d, hd⟩, hx⟩ := hok
    rw [wants_spec hlook hw, if_pos rfl]
    refine .inl ((OpRes.looks hsel hlook fun ρ hρ => hx ρ w hρ hst0).wp fun u w' ⟨e1, e2⟩ => ?_)
    subst e1 e2
    refine hK _ _ h (fun y => if y = d then w.heap.size else γ y) (M.next hp hlen hi hin hr hun hbig' hst (Hp.le_refl _) (fun y hy => ?_) (fun hne => absurd rfl (hne _)) (fun y hy => ?_) ?_)
    · have : y ≠ d := fun e => hy (by rw [hd, e])
      simp [this]
    · rw [hd] at hy; cases hy; simp [Rel]
    · have hres : resAt pl (dstAt ops) (fun y => if y = d then w.heap.size else γ y) i = [Blk w.heap.size x.1.1 x.1.2] := by
        unfold resAt; rw [hst, hdi, hd]; simp
      rw [hres, List.singleton_append]
      exact Ends.alloc M.ends _

/-- Whatever order is picked. -/
theorem Mid.any (hp : Pre pu ops np) (hlen : pl.length = np) (hf : ∀ j, j < np → ∀ d, dstAt ops j = some d → lk s0 d = none) (hbig : ∀ j, j < np → ∀ d, dstAt ops j = some d → d < e.n)
    (hplan : ∀ i o, i < np → ops[i]? = some o → ∃ st, pl[i]? = some st ∧ StpOK e.P ops h0 ms o (pushS (ops.toList.take i) (pl.take i) s0) (pushQ (ops.toList.take i) (pl.take i)) st) {Q : Exit → Act → World → Prop}
    (hend : ∀ listed a w h γ, Mid e pu ops np pl s0 h0 ms listed a w h γ → (∀ j, j < np → listed.getD j false = true) → wpList e.P ops Q (ops.toList.drop np) a w) :
    ∀ fuel listed a w h γ, Mid e pu ops np pl s0 h0 ms listed a w h γ → left listed ≤ fuel → wpAny e.P .any ops Q fuel listed a w := by
  have alldone : ∀ fuel listed a w h γ, Mid e pu ops np pl s0 h0 ms listed a w h γ → left listed ≤ fuel → (∀ j, j < np → listed.getD j false = true) → wpAny e.P .any ops Q fuel listed a w := by
    intro fuel listed a w h γ M hle hall
    refine tail_any hp _ np fuel listed a w rfl (Nat.le_refl _) M.closed M.lsize (fun j hj => ⟨fun h1 => ?_, fun h1 => hall j h1⟩) hle (hend _ _ _ _ _ M hall)
    rcases Nat.lt_or_ge j np with h2 | h2
    · exact h2
    · rw [M.later j h2] at h1; cases h1
  intro fuel
  induction fuel with
  | zero =>
    intro listed a w h γ M hle
    refine alldone 0 listed a w h γ M hle fun j hj => ?_
    have h1 := left_zero (show left listed = 0 by omega) j
    have hjlt : j < listed.size := by rw [M.lsize]; exact Nat.lt_of_lt_of_le hj hp.le
    rw [Array.getD_eq_getD_getElem?] at h1 ⊢
    simp [hjlt] at h1 ⊢; exact h1
  | succ fuel ih =>
    intro listed a w h γ M hle
    by_cases hall : ∀ j, j < np → listed.getD j false = true
    · exact alldone _ listed a w h γ M hle hall
    · -- the least that is left is ready
      have hex : ∃ j, j < np ∧ listed.getD j false = false := by
        apply Classical.byContradiction
        intro hne
        exact hall fun j hj => by
          cases hl : listed.getD j false with
          | true => rfl
          | false => exact absurd ⟨j, hj, hl⟩ hne
      obtain ⟨k, hk, hkl, hmin⟩ : ∃ k, k < np ∧ listed.getD k false = false ∧ ∀ j, j < k → listed.getD j false = true := by
        obtain ⟨j, hj, hl⟩ := hex
        have : ∀ n j, j ≤ n → j < np → listed.getD j false = false → ∃ k, k < np ∧ listed.getD k false = false ∧ ∀ i, i < k → listed.getD i false = true := by
          intro n
          induction n with
          | zero => intro j hjn hj hl; exact ⟨j, hj, hl, fun i hi => by omega⟩
          | succ n ihn =>
            intro j hjn hj hl
            by_cases hc : ∃ i, i < j ∧ listed.getD i false = false
            · obtain ⟨i, hi, hil⟩ := hc
              exact ihn i (by omega) (by omega) hil
            · refine ⟨j, hj, hl, fun i hi => ?_⟩
              cases hil : listed.getD i false with
              | true => rfl
              | false => exact absurd ⟨i, hi, hil⟩ hc
        exact this j j (Nat.le_refl _) hj hl
      have hko : ∃ o, ops[k]? = some o := ⟨ops[k]'(Nat.lt_of_lt_of_le hk hp.le), by simp [Nat.lt_of_lt_of_le hk hp.le]⟩
      obtain ⟨ok, hko⟩ := hko
      have hkr : k ∈ Region.ready .any ops listed := by
        refine mem_ready.2 ⟨?_, ok, hko, fun ed hed hb => hmin _ (hp.backs k ok hko ed hed hb)⟩
        have hklt : k < listed.size := by rw [M.lsize]; exact Nat.lt_of_lt_of_le hk hp.le
        rw [Array.getD_eq_getD_getElem?] at hkl ⊢
        simp [hklt] at hkl ⊢; exact hkl
      refine ⟨fun h0' => (by rw [h0'] at hkr; cases hkr), fun i hir => ?_⟩
      obtain ⟨hun, o, ho, _⟩ := mem_ready.1 hir
      have hin : i < np := by
        rcases Nat.lt_or_ge i np with h2 | h2
        · exact h2
        · have := ready_reach M.closed hir ((hp.tail i k (Array.getElem?_eq_some_iff.1 ho).1 h2 (by omega)).resolve_left fun h' => by have := M.pure k h'; rw [hkl] at this; cases this)
          rw [hkl] at this; cases this
      obtain ⟨st, hst, hok⟩ := hplan i o hin ho
      have hls := left_set (getD_false_some hun)
      exact M.step hp hlen hf hbig ho hin hir hst hok fun a' w' h' γ' M' => ih _ a' w' h' γ' M' (by omega)
end sound

def freshB (n : Nat) : List Oper → Slots → Bool
  | [], _ => true
  | o :: l, s => (match o.dst with | some d => (match lk s d with | none => true | some _ => false) && Nat.blt d n | none => true) && freshB n l s

theorem freshB_spec {n : Nat} : ∀ (l : List Oper) (s : Slots), freshB n l s = true → ∀ (j : Nat) (o : Oper) (d : Nat), l[j]? = some o → o.dst = some d → lk s d = none ∧ d < n
  | [], _, _, j, o, d, h, _ => by cases h
  | o :: l, s, H, j, o', d, h, hd => by
    simp only [freshB, Bool.and_eq_true] at H
    cases j with
    | zero =>
      simp at h; subst h
      have h1 := H.1
      simp only [hd, Bool.and_eq_true] at h1
      refine ⟨?_, Nat.le_of_ble_eq_true h1.2⟩
      cases hl : lk s d with
      | none => rfl
      | some v => rw [hl] at h1; cases h1.1
    | succ j => exact freshB_spec l s H.2 j o' d (by simpa using h) hd

/-- The run of a region of which some operations are listed already; these yield nothing. -/
theorem any_draw {e : Entry} {pu : List Nat} {l : List Oper} {Q : Exit → Act → World → Prop} {s : Slots} {h : Hp} {ms : List Hp} (np : Nat) (hp : preOK pu l.toArray np = true) (hf : freshB e.n (l.take np) s = true)
    (k : WR e l.toArray Q (l.drop np) h ms (l.take np) s [] []) {listed : Array Bool} (hl1 : listed.size = l.length) (hl2 : ∀ i, listed.getD i false = pu.contains i) (hl3 : Closed l.toArray listed) (hl4 : ∀ i, pu.contains i = true → dstAt l.toArray i = none) {fuel : Nat} (hfu : left listed ≤ fuel)
    {a : Act} {w : World} (ha : Has e.n a s) (hw : e.Ends w h ms) : wpAny e.P .any l.toArray Q fuel listed a { w with drawn := w.drawn + 1 } := by
  have P := preOK_spec hp
  have hnp : np ≤ l.length := by simpa using P.le
  obtain ⟨pl, hlen, hplan, hfin⟩ := wr_plan _ _ _ _ k
  have hlen' : pl.length = np := by rw [hlen, List.length_take]; omega
  have hd : ∀ j d, j < np → dstAt l.toArray j = some d → lk s d = none ∧ d < e.n := fun j d hj hd => by
    unfold dstAt at hd
    simp only [List.getElem?_toArray] at hd
    cases ho : l[j]? with
    | none => rw [ho] at hd; cases hd
    | some o =>
      rw [ho] at hd
      exact freshB_spec _ _ hf j o d (by rw [List.getElem?_take, if_pos hj]; exact ho) hd
  have hw1 : e.Ends { w with drawn := w.drawn + 1 } h ms := Ends.drew hw
  have M0 : Mid e pu l.toArray np pl s h ms listed a { w with drawn := w.drawn + 1 } h (fun _ => 0) := by
    refine ⟨Hp.le_refl _, ?_, ha.defers, ha.size, fun t u hu _ => ha.slots t u hu, fun j _ hj d hd => ?_, fun j hj => ?_, by simpa using hl1, hl3, fun j hj => by rw [hl2]; exact hj⟩
    · have : (List.range np).flatMap (fun j => if listed.getD j false then resAt pl (dstAt l.toArray) (fun _ => 0) j else []) = [] := by
        rw [List.flatMap_eq_nil_iff]
        intro j _; rw [hl2]
        cases hc : pu.contains j with
        | false => rfl
        | true => simp only [if_true]; unfold resAt; rw [hl4 j hc]; split <;> first | rfl | (rename_i hh; cases hh)
      rw [this]; exact hw1
    · rw [hl2] at hj; rw [hl4 j hj] at hd; cases hd
    · rw [hl2]
      cases hc : pu.contains j with
      | false => rfl
      | true => have := P.low j hc; omega
  refine (Mid.any P hlen' (fun j hj d hdj => (hd j d hj hdj).1) (fun j hj d hdj => (hd j d hj hdj).2) ?_ ?_ _ _ _ _ _ _ M0 hfu)
  · intro i o hi ho
    have ho' : (l.take np)[i]? = some o := by rw [List.getElem?_take, if_pos hi]; simpa using ho
    obtain ⟨st, e1, e2⟩ := PlanOK.get _ _ _ _ hplan i o ho'
    refine ⟨st, e1, ?_⟩
    have e3 : (l.take np).take i = l.toArray.toList.take i := by rw [List.take_take]; congr 1; omega
    rw [e3] at e2
    simpa using e2
  · intro listed a w h' γ M hall
    have hfd : ∀ t u, lk (pushS (l.take np) pl s) t = some u → a.tmps[t]? = some u := fun t u hu => by
      rcases lk_pushS _ _ _ _ _ hu with ⟨j, o, h1, h2, h3⟩ | h1
      · have hj : j < np := by
          have := (List.getElem?_eq_some_iff.1 h1).1; simp at this; omega
        have hdj : dstAt l.toArray j = some t := by
          rw [List.getElem?_take, if_pos hj] at h1; simp [dstAt, h1, h2]
        obtain ⟨u', st, e1, e2, e3⟩ := M.new j hj (hall j hj) t hdj
        rw [h3] at e2; cases e2
        simp only [Rel] at e3; rw [e1, e3]
      · exact M.old t u h1 fun j hj hdj => by rw [(hd j t hj hdj).1] at h1; cases h1
    have hres : ((List.range np).flatMap fun j => if listed.getD j false then resAt pl (dstAt l.toArray) γ j else []) = blkA (pushA (l.take np) pl) γ := by
      rw [← res_all γ (l.take np) pl hlen]
      have hlt : (l.take np).length = np := by rw [List.length_take]; omega
      rw [hlt]
      refine flatMap_same _ _ _ fun j hj => ?_
      have hj' : j < np := by simpa using hj
      rw [hall j hj', if_pos rfl]
      unfold resAt dstAt
      simp only [List.getElem?_toArray]
      rw [List.getElem?_take, if_pos hj']
    have hslotA : ∀ t u, lk (valA (pushA (l.take np) pl) γ) t = some u → a.tmps[t]? = some u := fun t u hu => by
      have hm := lk_mem _ _ _ hu
      unfold valA at hm
      obtain ⟨p, hp', e1⟩ := List.mem_map.1 hm
      obtain ⟨d, x⟩ := p
      simp only [Prod.mk.injEq] at e1
      obtain ⟨rfl, rfl⟩ := e1
      obtain ⟨j, o, h1, h2, h3⟩ := mem_pushA _ _ _ _ hp'
      have hj : j < np := by
        have := (List.getElem?_eq_some_iff.1 h1).1; simp at this; omega
      have hdj : dstAt l.toArray j = some d := by
        rw [List.getElem?_take, if_pos hj] at h1; simp [dstAt, h1, h2]
      obtain ⟨u', st, e1, e2, e3⟩ := M.new j hj (hall j hj) d hdj
      rw [h3] at e2; cases e2
      simp only [Rel] at e3; rw [e1, e3]
    have hq : ∀ d V, (d, V) ∈ pushQ (l.take np) pl → ∃ u, a.tmps[d]? = some u ∧ V h' u := fun d V hm => by
      obtain ⟨j, o, h1, h2, h3⟩ := mem_pushQ _ _ _ _ hm
      have hj : j < np := by
        have := (List.getElem?_eq_some_iff.1 h1).1; simp at this; omega
      have hdj : dstAt l.toArray j = some d := by
        rw [List.getElem?_take, if_pos hj] at h1; simp [dstAt, h1, h2]
      obtain ⟨u', st, e1, e2, e3⟩ := M.new j hj (hall j hj) d hdj
      rw [h3] at e2; cases e2
      exact ⟨u', e1, e3.2⟩
    have hE := M.ends
    rw [hres] at hE
    have hA : ∀ t u, lk (valA (pushA (l.take np) pl) γ ++ pushS (l.take np) pl s) t = some u → a.tmps[t]? = some u := fun t u hu => by
      rw [lk_append] at hu
      cases hv : lk (valA (pushA (l.take np) pl) γ) t with
      | none => rw [hv] at hu; exact hfd t u hu
      | some u' => rw [hv] at hu; cases hu; exact hslotA t _ hv
    simp only [List.nil_append] at hfin
    have hdr : l.toArray.toList.drop np = l.drop np := rfl
    rw [hdr]
    rcases hfin with ⟨_, hfin⟩ | hfin
    · exact hfin γ a w ⟨M.defers, M.size, hA⟩ (Ends.back hE hw M.le)
    · refine hfin h' M.le (fun d => (a.tmps[d]?).getD undef) γ (fun d V hm => ?_) a w ⟨M.defers, M.size, fun t u hu => ?_⟩ hE
      · obtain ⟨u, e1, e2⟩ := hq d V hm
        simp only [e1]; exact e2
      · rw [lk_append] at hu
        cases hv : lk (valQ (pushQ (l.take np) pl) fun d => (a.tmps[d]?).getD undef) t with
        | none => rw [hv] at hu; exact hA t u hu
        | some u' =>
          rw [hv] at hu; cases hu
          have hm := lk_mem _ _ _ hv
          unfold valQ at hm
          obtain ⟨p, hp', e1⟩ := List.mem_map.1 hm
          obtain ⟨d, V⟩ := p
          simp only [Prod.mk.injEq] at e1
          obtain ⟨rfl, rfl⟩ := e1
          obtain ⟨u, e1, e2⟩ := hq d V hp'
          simp [e1]
theorem getD_replicate_false (n i : Nat) : (Array.replicate n false).getD i false = false := by
  rw [Array.getD_eq_getD_getElem?]
  by_cases hi : i < n
  · simp [hi]
  · simp [Array.getElem?_eq_none, hi]
theorem ws_draw {e : Entry} {id : Nat} {l : List Oper} {Q : Exit → Act → World → Prop} {s : Slots} {h : Hp} {ms : List Hp} (np : Nat) (hm : e.P.follows .mixedOrders = true) (hp : preOK [] l.toArray np = true) (hf : freshB e.n (l.take np) s = true)
    (k : WR e l.toArray Q (l.drop np) h ms (l.take np) s [] []) : WS e (.region id l.toArray true) Q s h ms := by
  intro a w ha hw
  refine wp_region_any hm (any_draw np hp hf k (by simp) (fun i => by rw [getD_replicate_false]; rfl) (fun i o hi => by rw [getD_replicate_false] at hi; cases hi) (fun i hi => by cases hi) ?_ ha hw)
  unfold left; rw [Array.toList_replicate]; exact Nat.le_trans (List.countP_le_length) (by simp)
end Go.Eng
