/- A part of the proof. -/
import Derived.Test.YtodheebhahdepaaGreatMA
import Derived.Deep.Quiet
import Derived.Sort.AssemblyPlain
import Derived.Sort.LotD5
import Derived.Sort.Walk13a
import Derived.Lib.BitFns
import Derived.Laws.CopyRow
import Derived.Deep.Slices
import Derived.OpenShut
import Derived.Maps.RangeRun
import Derived.Maps.Keyed
import Derived.Carry
import Derived.Lib.SliceRun
import Derived.Scope
import Derived.RangeFuncLeaves
import Derived.RangeFuncRecord
import Derived.OrdersIn
import Derived.TacticsIn
set_option linter.unusedSimpArgs false
set_option linter.unusedVariables false
set_option linter.unusedSectionVars false
set_option maxRecDepth 100000
set_option maxHeartbeats 4000000
namespace Go.Eng
open Go.RowKit
abbrev VP := Hp → Value → Prop
abbrev Nb := (TypeId × List Value) × (Nat → Value)
abbrev MJ := Value ⊕ (VP ⊕ Nb)
def MF (o : Oper) (j : Nat) : Bool := o.after.any fun e => Region.binds .any e && e.on == j
def backs (o : Oper) (i : Nat) : Bool := o.after.all fun e => !Region.binds .any e || e.on < i
def JC (ops : Array Oper) : Nat → Nat → Nat → Bool
  | 0, _, _ => false
  | n + 1, i, j => match ops[i]? with
    | none => false
    | some o => MF o j || o.after.any fun e => Region.binds .any e && JC ops n e.on j
def AX (ops : Array Oper) (j : Nat) : Option Nat := (ops[j]?).bind (·.dst)
def _root_.Go.Op.idle : Op → Bool
  | .move (.const _) => true
  | _ => false
theorem RF {o : Op} (h : o.idle = true) : ∃ v, o = .move (.const v) := by
  unfold Op.idle at h
  split at h
  · exact ⟨_, rfl⟩
  · cases h
def NH (pu : List Nat) (ops : Array Oper) (np : Nat) : Bool :=
  Nat.ble np ops.size && (pu.all fun i => Nat.blt i ops.size) && Region.noSelect ops &&
  (List.range ops.size).all fun i => match ops[i]? with
    | none => false
    | some o => backs o i &&
      if i < np then
        ((List.range np).all fun j => j == i || (match o.dst with | some d => AX ops j != some d | none => true)) &&
        ((o.looksAt ops).all fun t => (List.range np).all fun j => AX ops j != some t || (j < i && MF o j))
      else if pu.contains i then o.dst.isNone && o.guard.isNone && o.op.idle else (List.range i).all fun j => pu.contains j || JC ops ops.size i j
def OPX (P : Program) (o : Oper) (s : Ar) (h : Hp) (ms : List Hp) (V : VP) : Prop :=
  ∀ ρ w, Evs s ρ → St w h ms → OpRes P o ρ w (fun u w' => ∃ h', h.le h' ∧ h'.inW w' ∧ (∀ k, k < w.heap.size → h' k = h k) ∧ Ext w w' ∧ V h' u)
def Xh (V : VP) : Prop := ∀ h h' u, Hp.le h h' → V h u → V h' u
def Mf (q : List (Nat × VP)) (val : Nat → Value) : Ar := q.map fun p => (p.1, val p.1)
def TP (q : List (Nat × VP)) (val : Nat → Value) (h : Hp) : Prop := ∀ d V, (d, V) ∈ q → V h (val d)
def Wants (ops : Array Oper) (o : Oper) (s : Ar) (b : Bool) : Prop :=
  match o.guard with
  | none => b = true
  | some (j, want) => (∃ dj b', AX ops j = some dj ∧ lk s dj = some (.bool b') ∧ b = (b' == want)) ∨ ∃ dj, AX ops j = some dj ∧ lk s dj = some undef ∧ b = false
def Ya (P : Program) (o : Oper) (s : Ar) (h : Hp) (ms : List Hp) (x : Nb) : Prop :=
  ∀ ρ w, Evs s ρ → St w h ms → OpRes P o ρ w (fun u w' => u = x.2 w.heap.size ∧ w' = w.alloc (.cells x.1.2.toArray x.1.1))
def StpOK (P : Program) (ops : Array Oper) (h : Hp) (ms : List Hp) (o : Oper) (s : Ar) (q : List (Nat × VP)) : MJ → Prop
  | .inl v => (Wants ops o s true ∧ OX P o s h ms v) ∨ (Wants ops o s true ∧ ∃ q', (∀ p ∈ q', p ∈ q ∧ p.1 ∈ o.looksAt ops) ∧ ∀ h', h.le h' → ∀ val, TP q' val h' → OX P o (Mf q' val ++ s) h' ms v) ∨ (Wants ops o s false ∧ v = undef)
  | .inr (.inl V) => Wants ops o s true ∧ Xh V ∧ (OPX P o s h ms V ∨ ∃ q', (∀ p ∈ q', p ∈ q ∧ p.1 ∈ o.looksAt ops) ∧ ∀ h', h.le h' → ∀ val, TP q' val h' → OPX P o (Mf q' val ++ s) h' ms V)
  | .inr (.inr x) => Wants ops o s true ∧ (∃ d, o.dst = some d) ∧ Ya P o s h ms x
def C8 : List Oper → List MJ → Ar → Ar
  | o :: l, .inl v :: p, s => C8 l p (match o.dst with | some d => (d, v) :: s | none => s)
  | _ :: l, .inr _ :: p, s => C8 l p s
  | _, _, s => s
def C9 : List Oper → List MJ → List (Nat × VP)
  | o :: l, .inr (.inl V) :: p => (match o.dst with | some d => [(d, V)] | none => []) ++ C9 l p
  | _ :: l, _ :: p => C9 l p
  | _, _ => []
def CL : List Oper → List MJ → List (Nat × Nb)
  | o :: l, .inr (.inr x) :: p => (match o.dst with | some d => [(d, x)] | none => []) ++ CL l p
  | _ :: l, _ :: p => CL l p
  | _, _ => []
def Nt (al : List (Nat × Nb)) (γ : Nat → Nat) : Ar := al.map fun p => (p.1, p.2.2 (γ p.1))
def N4 (al : List (Nat × Nb)) (γ : Nat → Nat) : List Hp := al.map fun p => Bf (γ p.1) p.2.1.1 p.2.1.2
def WR (e : Entry) (ops : Array Oper) (Q : Exit → Act → World → Prop) (tl : List Oper) (h : Hp) (ms : List Hp) : List Oper → Ar → List (Nat × VP) → List (Nat × Nb) → Prop
  | [], s, q, al => (q = [] ∧ ∀ γ, WL e ops Q tl (Nt al γ ++ s) h (N4 al γ ++ ms)) ∨ ∀ h', h.le h' → ∀ val γ, TP q val h' → WL e ops Q tl (Mf q val ++ (Nt al γ ++ s)) h' (N4 al γ ++ ms)
  | o :: l, s, q, al =>
    (∃ v, StpOK e.P ops h ms o s q (.inl v) ∧ WR e ops Q tl h ms l (match o.dst with | some d => (d, v) :: s | none => s) q al) ∨
    (∃ V, StpOK e.P ops h ms o s q (.inr (.inl V)) ∧ WR e ops Q tl h ms l s (q ++ match o.dst with | some d => [(d, V)] | none => []) al) ∨
    (∃ x, StpOK e.P ops h ms o s q (.inr (.inr x)) ∧ WR e ops Q tl h ms l s q (al ++ match o.dst with | some d => [(d, x)] | none => []))
def PlanOK (P : Program) (ops : Array Oper) (h : Hp) (ms : List Hp) : List Oper → List MJ → Ar → List (Nat × VP) → Prop
  | [], [], _, _ => True
  | o :: l, st :: p, s, q => StpOK P ops h ms o s q st ∧ PlanOK P ops h ms l p (match st with | .inl v => (match o.dst with | some d => (d, v) :: s | none => s) | _ => s) (match st with | .inr (.inl V) => q ++ (match o.dst with | some d => [(d, V)] | none => []) | _ => q)
  | _, _, _, _ => False
theorem Jt {e : Entry} {ops : Array Oper} {Q : Exit → Act → World → Prop} {tl : List Oper} {h : Hp} {ms : List Hp} : ∀ (l : List Oper) (s : Ar) (q : List (Nat × VP)) (al : List (Nat × Nb)), WR e ops Q tl h ms l s q al →
    ∃ pl, pl.length = l.length ∧ PlanOK e.P ops h ms l pl s q ∧
      ((q ++ C9 l pl = [] ∧ ∀ γ, WL e ops Q tl (Nt (al ++ CL l pl) γ ++ C8 l pl s) h (N4 (al ++ CL l pl) γ ++ ms)) ∨
        ∀ h', h.le h' → ∀ val γ, TP (q ++ C9 l pl) val h' → WL e ops Q tl (Mf (q ++ C9 l pl) val ++ (Nt (al ++ CL l pl) γ ++ C8 l pl s)) h' (N4 (al ++ CL l pl) γ ++ ms))
  | [], s, q, al, H => ⟨[], rfl, trivial, by simp only [WR] at H; simpa [C9, CL, C8] using H⟩
  | o :: l, s, q, al, H => by
    rcases H with ⟨v, h1, h2⟩ | ⟨V, h1, h2⟩ | ⟨x, h1, h2⟩
    · obtain ⟨pl, e1, e2, e3⟩ := Jt l _ _ _ h2
      exact ⟨.inl v :: pl, by simp [e1], ⟨h1, e2⟩, by simpa [C9, CL, C8] using e3⟩
    · obtain ⟨pl, e1, e2, e3⟩ := Jt l _ _ _ h2
      exact ⟨.inr (.inl V) :: pl, by simp [e1], ⟨h1, e2⟩, by simpa [C9, CL, C8, List.append_assoc] using e3⟩
    · obtain ⟨pl, e1, e2, e3⟩ := Jt l _ _ _ h2
      exact ⟨.inr (.inr x) :: pl, by simp [e1], ⟨h1, e2⟩, by simpa [C9, CL, C8, List.append_assoc] using e3⟩
theorem PlanOK.get {P : Program} {ops : Array Oper} {h : Hp} {ms : List Hp} : ∀ (l : List Oper) (pl : List MJ) (s : Ar) (q : List (Nat × VP)), PlanOK P ops h ms l pl s q →
    ∀ i o, l[i]? = some o → ∃ st, pl[i]? = some st ∧ StpOK P ops h ms o (C8 (l.take i) (pl.take i) s) (q ++ C9 (l.take i) (pl.take i)) st
  | [], [], _, _, _, i, o, e => by cases e
  | [], _ :: _, _, _, H, _, _, _ => H.elim
  | _ :: _, [], _, _, H, _, _, _ => H.elim
  | o :: l, st :: p, s, q, H, i, o', e => by
    cases i with
    | zero => simp at e; subst e; exact ⟨st, rfl, by simpa [C8, C9] using H.1⟩
    | succ i =>
      obtain ⟨st', e1, e2⟩ := PlanOK.get l p _ _ H.2 i o' (by simpa using e)
      refine ⟨st', by simpa using e1, ?_⟩
      rcases st with v | V | x <;> simpa [C8, C9, List.append_assoc] using e2
theorem HV : ∀ (l : List Oper) (pl : List MJ) (s : Ar) (t : Nat) (u : Value), lk (C8 l pl s) t = some u →
    (∃ (j : Nat) (o : Oper), l[j]? = some o ∧ o.dst = some t ∧ pl[j]? = some (.inl u)) ∨ lk s t = some u
  | [], _, s, t, u, h => .inr (by simpa [C8] using h)
  | o :: l, [], s, t, u, h => .inr (by simpa [C8] using h)
  | o :: l, .inl v :: p, s, t, u, h => by
    rcases HV l p _ t u (by simpa [C8] using h) with ⟨j, o', h1, h2, h3⟩ | h
    · exact .inl ⟨j + 1, o', by simpa using h1, h2, by simpa using h3⟩
    · cases hd : o.dst with
      | none => simp [hd] at h; exact .inr h
      | some d =>
        simp [hd] at h
        by_cases hdt : d = t
        · subst hdt; rw [Bj] at h; cases h
          exact .inl ⟨0, o, rfl, hd, rfl⟩
        · rw [Bd _ _ hdt] at h; exact .inr h
  | o :: l, .inr x :: p, s, t, u, h => by
    rcases HV l p _ t u (by simpa [C8] using h) with ⟨j, o', h1, h2, h3⟩ | h
    · exact .inl ⟨j + 1, o', by simpa using h1, h2, by simpa using h3⟩
    · exact .inr h
theorem Fi : ∀ (l : List Oper) (pl : List MJ) (d : Nat) (V : VP), (d, V) ∈ C9 l pl → ∃ (j : Nat) (o : Oper), l[j]? = some o ∧ o.dst = some d ∧ pl[j]? = some (.inr (.inl V))
  | [], _, d, V, h => by cases h
  | o :: l, [], d, V, h => by cases h
  | o :: l, .inl v :: p, d, V, h => by
    obtain ⟨j, o', h1, h2, h3⟩ := Fi l p d V (by simpa [C9] using h)
    exact ⟨j + 1, o', by simpa using h1, h2, by simpa using h3⟩
  | o :: l, .inr (.inl W) :: p, d, V, h => by
    simp only [C9, List.mem_append] at h
    rcases h with h | h
    · cases hd : o.dst with
      | none => simp [hd] at h
      | some d' => simp [hd] at h; exact ⟨0, o, rfl, by rw [hd, h.1], by simp [h.2]⟩
    · obtain ⟨j, o', h1, h2, h3⟩ := Fi l p d V h
      exact ⟨j + 1, o', by simpa using h1, h2, by simpa using h3⟩
  | o :: l, .inr (.inr x) :: p, d, V, h => by
    obtain ⟨j, o', h1, h2, h3⟩ := Fi l p d V (by simpa [C9] using h)
    exact ⟨j + 1, o', by simpa using h1, h2, by simpa using h3⟩
theorem GD : ∀ (l : List Oper) (pl : List MJ) (d : Nat) (x : Nb), (d, x) ∈ CL l pl → ∃ (j : Nat) (o : Oper), l[j]? = some o ∧ o.dst = some d ∧ pl[j]? = some (.inr (.inr x))
  | [], _, d, V, h => by cases h
  | o :: l, [], d, V, h => by cases h
  | o :: l, .inl v :: p, d, V, h => by
    obtain ⟨j, o', h1, h2, h3⟩ := GD l p d V (by simpa [CL] using h)
    exact ⟨j + 1, o', by simpa using h1, h2, by simpa using h3⟩
  | o :: l, .inr (.inr W) :: p, d, V, h => by
    simp only [CL, List.mem_append] at h
    rcases h with h | h
    · cases hd : o.dst with
      | none => simp [hd] at h
      | some d' => simp [hd] at h; exact ⟨0, o, rfl, by rw [hd, h.1], by simp [h.2]⟩
    · obtain ⟨j, o', h1, h2, h3⟩ := GD l p d V h
      exact ⟨j + 1, o', by simpa using h1, h2, by simpa using h3⟩
  | o :: l, .inr (.inl x) :: p, d, V, h => by
    obtain ⟨j, o', h1, h2, h3⟩ := GD l p d V (by simpa [CL] using h)
    exact ⟨j + 1, o', by simpa using h1, h2, by simpa using h3⟩
structure Wj (pu : List Nat) (ops : Array Oper) (np : Nat) : Prop where
  le : np ≤ ops.size
  low : ∀ i, pu.contains i = true → i < ops.size
  nosel : Region.noSelect ops = true
  backs : ∀ i o, ops[i]? = some o → ∀ e ∈ o.after, Region.binds .any e = true → e.on < i
  uniq : ∀ i j o d, ops[i]? = some o → i < np → j < np → o.dst = some d → AX ops j = some d → j = i
  look : ∀ i o t j, ops[i]? = some o → i < np → t ∈ o.looksAt ops → j < np → AX ops j = some t → j < i ∧ MF o j = true
  tail : ∀ i j, i < ops.size → np ≤ i → pu.contains i = false → j < i → pu.contains j = true ∨ JC ops ops.size i j = true
  zap : ∀ i o, ops[i]? = some o → np ≤ i → pu.contains i = true → o.dst = none ∧ o.guard = none ∧ ∃ v, o.op = .move (.const v)
theorem Kt {pu : List Nat} {ops : Array Oper} {np : Nat} (h : NH pu ops np = true) : Wj pu ops np := by
  simp only [NH, Bool.and_eq_true, List.all_eq_true, List.mem_range] at h
  obtain ⟨⟨⟨h1, h1'⟩, h2⟩, h3⟩ := h
  have at_ : ∀ i o, ops[i]? = some o → i < ops.size := fun i o e => (Array.getElem?_eq_some_iff.1 e).1
  refine ⟨Nat.le_of_ble_eq_true h1, fun i hi => Nat.le_of_ble_eq_true (h1' i (by simpa using hi)), h2, ?_, ?_, ?_, ?_, ?_⟩
  · intro i o e ed hed hb
    have := h3 i (at_ i o e)
    simp only [e, Bool.and_eq_true] at this
    have h4 := Array.all_eq_true_iff_forall_mem.1 this.1 ed hed
    simp [hb] at h4
    exact h4
  · intro i j o d e hi hj hd hdj
    have := h3 i (at_ i o e)
    simp only [e, Bool.and_eq_true, hi, if_true, List.all_eq_true, List.mem_range, hd] at this
    have h4 := this.2.1 j hj
    simp [hdj] at h4
    exact h4
  · intro i o t j e hi ht hj hd
    have := h3 i (at_ i o e)
    simp only [e, Bool.and_eq_true, hi, if_true, List.all_eq_true, List.mem_range] at this
    have h4 := this.2.2 t ht j hj
    simp [hd] at h4
    exact h4
  · intro i j his hi hpu hj
    obtain ⟨o, e⟩ : ∃ o, ops[i]? = some o := ⟨ops[i], by simp [his]⟩
    have := h3 i (at_ i o e)
    have hni : ¬ i < np := by omega
    have hpu' : ¬ pu.contains i = true := by rw [hpu]; simp
    simp only [e, Bool.and_eq_true, if_neg hni, if_neg hpu', List.all_eq_true, List.mem_range] at this
    exact Bool.or_eq_true_iff.1 (this.2 j hj)
  · intro i o e hi hpu
    have := h3 i (at_ i o e)
    have hni : ¬ i < np := by omega
    simp only [e, Bool.and_eq_true, if_neg hni, if_pos hpu] at this
    exact ⟨by simpa using this.2.1.1, by simpa using this.2.1.2, RF this.2.2⟩
theorem En {o : Oper} {j : Nat} (h : MF o j = true) : ∃ e ∈ o.after, Region.binds .any e = true ∧ e.on = j := by
  obtain ⟨e, he, hb⟩ := Array.any_eq_true'.1 h
  simp at hb
  exact ⟨e, he, hb.1, hb.2⟩
theorem Ku {ops : Array Oper} {listed : Array Bool} {i : Nat} {o : Oper} (hi : ops[i]? = some o) (hr : i ∈ Region.ready .any ops listed) {j : Nat} (h : MF o j = true) : listed.getD j false = true := by
  obtain ⟨_, o', ho', BQ⟩ := mem_ready.1 hr
  rw [hi] at ho'; cases ho'
  obtain ⟨e, he, hb, rfl⟩ := En h
  exact BQ e he hb
def Closed (ops : Array Oper) (listed : Array Bool) : Prop := ∀ i o, listed.getD i false = true → ops[i]? = some o → ∀ e ∈ o.after, Region.binds .any e = true → listed.getD e.on false = true
theorem HE {ops : Array Oper} {listed : Array Bool} (hc : Closed ops listed) : ∀ (n i j : Nat) (o : Oper), ops[i]? = some o → (∀ e ∈ o.after, Region.binds .any e = true → listed.getD e.on false = true) → JC ops n i j = true → listed.getD j false = true
  | 0, _, _, _, _, _, h => by cases h
  | n + 1, i, j, o, ho, BQ, h => by
    simp only [JC, ho, Bool.or_eq_true] at h
    rcases h with h | h
    · obtain ⟨e, he, hb, rfl⟩ := En h
      exact BQ e he hb
    · obtain ⟨e, he, hb⟩ := Array.any_eq_true'.1 h
      simp only [Bool.and_eq_true] at hb
      have hl := BQ e he hb.1
      cases ho' : ops[e.on]? with
      | none =>
        cases n with
        | zero => cases hb.2
        | succ n => simp [JC, ho'] at hb
      | some o' => exact HE hc n e.on j o' ho' (fun e' he' hb' => hc e.on o' hl ho' e' he' hb') hb.2
theorem I3 {ops : Array Oper} {listed : Array Bool} (hc : Closed ops listed) {n i : Nat} (hr : i ∈ Region.ready .any ops listed) {j : Nat} (h : JC ops n i j = true) : listed.getD j false = true := by
  obtain ⟨_, o, ho, BQ⟩ := mem_ready.1 hr
  exact HE hc n i j o ho BQ h
theorem Closed.set {ops : Array Oper} {listed : Array Bool} (hc : Closed ops listed) {i : Nat} (hr : i ∈ Region.ready .any ops listed) : Closed ops (listed.setIfInBounds i true) := by
  intro k o hk ho e he hb
  refine getD_set_true ?_
  by_cases hki : i = k
  · subst hki
    obtain ⟨_, o', ho', BQ⟩ := mem_ready.1 hr
    rw [ho] at ho'; cases ho'
    exact BQ e he hb
  · rw [getD_set_ne false hki] at hk
    exact hc k o hk ho e he hb
def left (listed : Array Bool) : Nat := listed.toList.countP (! ·)
theorem Ph (l : List Bool) (i : Nat) (h : l[i]? = some false) : (l.set i true).countP (! ·) + 1 = l.countP (! ·) := by
  induction l generalizing i with
  | nil => cases h
  | cons a l ih =>
    cases i with
    | zero => simp at h; subst h; simp
    | succ i => simp at h; simp [List.countP_cons]; have := ih i h; omega
theorem H2 {listed : Array Bool} {i : Nat} (h : listed[i]? = some false) : left (listed.setIfInBounds i true) + 1 = left listed := by
  unfold left
  rw [Array.toList_setIfInBounds]
  exact Ph _ _ (by simpa using h)
theorem IN {listed : Array Bool} (h : left listed = 0) (i : Nat) : listed.getD i true = true := by
  unfold left at h
  rw [List.countP_eq_zero] at h
  rw [Array.getD_eq_getD_getElem?]
  cases e : listed[i]? with
  | none => rfl
  | some b =>
    have := h b (by rw [Array.mem_toList_iff]; exact Array.mem_of_getElem? e)
    simpa using this
theorem AY {listed : Array Bool} {i : Nat} (h : listed.getD i true = false) : listed[i]? = some false := by
  rw [Array.getD_eq_getD_getElem?] at h
  cases e : listed[i]? with
  | none => rw [e] at h; cases h
  | some b => rw [e] at h; simp at h; rw [h]
theorem TK {P : Program} {pu : List Nat} {ops : Array Oper} {Q : Exit → Act → World → Prop} {np : Nat} (hp : Wj pu ops np) : ∀ (l : List Oper) (k fuel : Nat) (listed : Array Bool) (a : Act) (w : World),
    ops.toList.drop k = l → np ≤ k → Closed ops listed → listed.size = ops.size → (∀ j, j < ops.size → (listed.getD j false = true ↔ (j < k ∨ pu.contains j = true))) → left listed ≤ fuel → wpList P ops Q l a w → wpAny P .any ops Q fuel listed a w := by
  intro l
  induction l with
  | nil =>
    intro k fuel listed a w hl hk hc hs hlist hf h
    have hk' : ops.size ≤ k := by simpa using List.drop_eq_nil_iff.1 hl
    refine wpAny_done ?_ h fuel
    cases hr : Region.ready .any ops listed with
    | nil => rfl
    | cons x xs =>
      have hx : x ∈ Region.ready .any ops listed := by rw [hr]; exact List.mem_cons_self
      obtain ⟨h0, o, ho, _⟩ := mem_ready.1 hx
      have hlt := (Array.getElem?_eq_some_iff.1 ho).1
      have := (hlist x hlt).2 (.inl (by omega))
      have h2 := AY h0
      rw [Array.getD_eq_getD_getElem?, h2] at this; cases this
  | cons o l ih =>
    intro k fuel listed a w hl hk hc hs hlist hf h
    have hko : ops[k]? = some o := by
      have : (ops.toList.drop k)[0]? = some o := by rw [hl]; rfl
      simpa using this
    have hklt : k < ops.size := (Array.getElem?_eq_some_iff.1 hko).1
    by_cases hkpu : pu.contains k = true
    · obtain ⟨z1, z2, v, z3⟩ := hp.zap k o hko hk hkpu
      refine ih (k + 1) fuel listed a w (by rw [← List.drop_drop, hl]; rfl) (by omega) hc hs (fun j hj => ?_) hf ?_
      · rw [hlist j hj]
        constructor
        · rintro (h1 | h1)
          · exact .inl (by omega)
          · exact .inr h1
        · rintro (h1 | h1)
          · by_cases hjk : j = k
            · subst hjk; exact .inr hkpu
            · exact .inl (by omega)
          · exact .inr h1
      · unfold wpList at h
        rw [if_pos (by simp [Region.wanted, z2])] at h
        have hrun : (execOp a.eval o).run P w = .ok (.value v) w := by simp [execOp, z3, Act.eval]
        rcases h with h | h
        · unfold Oper.wp at h
          rw [hrun] at h
          simp only [Oper.upon, z1, Act.put] at h
          exact h
        · have h1 := h.1.1
          have e1 : execOp a.eval o = (pure (Next.value v) : Sem Next) := by simp only [execOp, z3, Act.eval]
          rw [e1] at h1
          have e2 : (Sem.runT P (pure (Next.value v) : Sem Next) w #[]).2 = #[] := rfl
          rw [e2] at h1
          exact absurd h1 (by simp)
    have hkpu' : pu.contains k = false := by simpa using hkpu
    have hkf : listed[k]? = some false := by
      have hlt : k < listed.size := by omega
      cases e : listed[k] with
      | false => simp [hlt, e]
      | true =>
        have := (hlist k hklt).1 (by rw [Array.getD_eq_getD_getElem?]; simp [hlt, e])
        rcases this with h1 | h1
        · omega
        · exact absurd h1 hkpu
    have hl1 := H2 hkf
    cases fuel with
    | zero => omega
    | succ fuel =>
      have hready : ∀ j ∈ Region.ready .any ops listed, j = k := by
        intro j hj
        obtain ⟨h0, o', ho', _⟩ := mem_ready.1 hj
        have hjlt := (Array.getElem?_eq_some_iff.1 ho').1
        have hjn : ¬ (j < k ∨ pu.contains j = true) := fun hc => by
          have := (hlist j hjlt).2 hc
          rw [Array.getD_eq_getD_getElem?, AY h0] at this; cases this
        have hjk : ¬ j < k := fun hc => hjn (.inl hc)
        have hjpu : pu.contains j = false := by
          cases e : pu.contains j with
          | false => rfl
          | true => exact absurd (.inr e) hjn
        by_cases hjk' : j = k
        · exact hjk'
        · have := I3 hc hj ((hp.tail j k hjlt (by omega) hjpu (by omega)).resolve_left hkpu)
          rw [Array.getD_eq_getD_getElem?, hkf] at this; cases this
      have hkr : k ∈ Region.ready .any ops listed := mem_ready.2 ⟨by rw [Array.getD_eq_getD_getElem?, hkf]; rfl, o, hko, fun e he hb => (hlist e.on (by have := hp.backs k o hko e he hb; omega)).2 (.inl (hp.backs k o hko e he hb))⟩
      refine ⟨fun h0 => (by rw [h0] at hkr; cases hkr), fun j hj => ?_⟩
      obtain rfl := hready j hj
      have hnext : ∀ a w, wpList P ops Q l a w → wpAny P .any ops Q fuel (listed.setIfInBounds j true) a w := fun a w hw => by
        refine ih (j + 1) fuel _ a w ?_ (by omega) (hc.set hkr) (by simpa using hs) ?_ (by omega) hw
        · rw [← List.drop_drop, hl]; rfl
        · intro i hi
          by_cases hij : i = j
          · subst hij
            have : i < listed.size := by omega
            simp [Array.getD_eq_getD_getElem?, this]
          · rw [Array.getD_eq_getD_getElem?, Array.getElem?_setIfInBounds_ne (Ne.symm hij), ← Array.getD_eq_getD_getElem?, hlist i hi]
            constructor
            · rintro (h1 | h1)
              · exact .inl (by omega)
              · exact .inr h1
            · rintro (h1 | h1)
              · exact .inl (by omega)
              · exact .inr h1
      unfold wpOp
      simp only [hko]
      unfold wpList at h
      split
      · rename_i hw
        rw [if_pos hw] at h
        exact h.imp (Oper.wp_mono hnext) id
      · rename_i hw
        rw [if_neg hw] at h
        exact hnext _ _ h
def CU (pl : List MJ) (dst : Nat → Option Nat) (γ : Nat → Nat) (j : Nat) : List Hp :=
  match pl[j]?, dst j with
  | some (.inr (.inr x)), some d => [Bf (γ d) x.1.1 x.1.2]
  | _, _ => []
def Rel (h : Hp) (γ : Nat → Nat) (d : Nat) (u : Value) : MJ → Prop
  | .inl v => u = v
  | .inr (.inl V) => Xh V ∧ V h u
  | .inr (.inr x) => u = x.2 (γ d)
structure Mid (e : Entry) (pu : List Nat) (ops : Array Oper) (np : Nat) (pl : List MJ) (s0 : Ar) (h0 : Hp) (ms : List Hp) (listed : Array Bool) (a : Act) (w : World) (h : Hp) (γ : Nat → Nat) : Prop where
  le : h0.le h
  ends : e.Ends w h (((List.range np).flatMap fun j => if listed.getD j false then CU pl (AX ops) γ j else []) ++ ms)
  defers : a.defers = Yj e.ds
  size : a.tmps.size = e.n
  old : ∀ t u, lk s0 t = some u → (∀ j, j < np → AX ops j ≠ some t) → a.tmps[t]? = some u
  new : ∀ j, j < np → listed.getD j false = true → ∀ d, AX ops j = some d → ∃ u st, a.tmps[d]? = some u ∧ pl[j]? = some st ∧ Rel h γ d u st
  later : ∀ j, np ≤ j → listed.getD j false = pu.contains j
  lsize : listed.size = ops.size
  closed : Closed ops listed
  pure : ∀ j, pu.contains j = true → listed.getD j false = true
theorem BT (a s : Ar) (t : Nat) : lk (a ++ s) t = (lk a t).or (lk s t) := by
  induction a with
  | nil => simp [lk]
  | cons p a ih =>
    obtain ⟨i, v⟩ := p
    by_cases hi : i = t
    · subst hi; rw [List.cons_append, Bj, Bj]; rfl
    · rw [List.cons_append, Bd _ _ hi, Bd _ _ hi, ih]
theorem Mc : ∀ (s : Ar) (t : Nat) (u : Value), lk s t = some u → (t, u) ∈ s
  | (i, v) :: s, t, u, h => by
    by_cases hi : i = t
    · subst hi; rw [Bj] at h; cases h; exact List.mem_cons_self
    · rw [Bd _ _ hi] at h; exact List.mem_cons_of_mem _ (Mc s t u h)
theorem Ends.grow {w0 w w' : World} {h0 h h1 h1' : Hp} {ms0 ms : List Hp} (H : Ends w0 h0 ms0 w h ms) (hl : h1.le h) (hl' : h1.le h1') (hin : h1'.inW w') (hold : ∀ k, k < w.heap.size → h1' k = h1 k) (he : Ext w w') :
    h.le (h.join h1') ∧ h1'.le (h.join h1') ∧ Ends w0 h0 ms0 w' (h.join h1') ms := by
  have H' := H.ext he
  have e1 : ∀ k, k < w.heap.size → (h.join h1') k = h k := fun k hk => by
    unfold Hp.join
    cases e : h k with
    | some o => rfl
    | none =>
      simp only
      rw [hold k hk]
      cases e2 : h1 k with
      | none => rfl
      | some o => rw [hl k o e2] at e; cases e
  refine ⟨Hp.le_join _ _, ?_, ⟨⟨?_, H'.st.own, ?_, H'.st.apart⟩, H'.os, H'.tape, H'.output, H'.size, H'.block, Hp.le_trans H'.le (Hp.le_join _ _), ?_, H'.mnew⟩⟩
  · intro k o e
    rcases Nat.lt_or_ge k w.heap.size with hk | hk
    · rw [e1 k hk]; rw [hold k hk] at e; exact hl k o e
    · have : h k = none := Hp.inW_none H.st.imm hk
      simp [Hp.join, this, e]
  · intro k o e
    unfold Hp.join at e
    split at e
    · rename_i o' e'; cases e; exact H'.st.imm k _ e'
    · exact hin k o e
  · intro m hm k
    cases e : m k with
    | none => exact .inl rfl
    | some o =>
      right
      have hk : k < w.heap.size := Hp.inW_lt (H.st.own m hm) e
      rw [e1 k hk]
      rcases H.st.off m hm k with e2 | e2
      · rw [e2] at e; cases e
      · exact e2
  · intro k hk hm
    rw [e1 k (Nat.lt_of_lt_of_le hk H.size)]
    exact H.hnew k hk hm
theorem St.weaken {w : World} {h h1 : Hp} {ms ms1 : List Hp} (s : St w h ms) (hl : h1.le h) (hm : ms1.Sublist ms) : St w h1 ms1 :=
  ⟨fun g o e => s.imm g o (hl g o e), fun m h' => s.own m (hm.subset h'), fun m h' k => by
    rcases s.off m (hm.subset h') k with e | e
    · exact .inl e
    · right
      cases e2 : h1 k with
      | none => rfl
      | some o => (rw [hl k o e2] at e; cases e), s.apart.sublist hm⟩
theorem Ends.back {w0 w w1 : World} {h0 h h1 : Hp} {ms0 ms ms1 : List Hp} (H : Ends w0 h0 ms0 w h ms) (H1 : Ends w0 h0 ms0 w1 h1 ms1) (hl : h1.le h) : Ends w0 h0 ms0 w h1 ms :=
  ⟨H.st.weaken hl (List.Sublist.refl _), H.os, H.tape, H.output, H.size, H.block, H1.le, H1.hnew, H.mnew⟩
theorem OpRes.congr {P : Program} {o : Oper} {ρ ρ' : Operand → Value} {w : World} {Φ : Value → World → Prop} (hs : ∀ cs b, o.op ≠ .select cs b) (h : ∀ x ∈ o.op.operands, ρ x = ρ' x) (k : OpRes P o ρ w Φ) : OpRes P o ρ' w Φ := by
  unfold OpRes at *; rwa [← execOp_congr o hs h]
theorem Act.eval_of_slot {a : Act} {t : Nat} {u : Value} (h : a.tmps[t]? = some u) : a.eval (.tmp t) = u := by
  simp only [Act.eval]; rw [Array.getD_eq_getD_getElem?, h]; rfl
theorem OpRes.looks {P : Program} {ops : Array Oper} {o : Oper} {a : Act} {w : World} {s : Ar} {Φ : Value → World → Prop} (hs : ∀ cs b, o.op ≠ .select cs b) (hl : ∀ t ∈ o.looksAt ops, ∀ u, lk s t = some u → a.tmps[t]? = some u)
    (k : ∀ ρ, Evs s ρ → OpRes P o ρ w Φ) : OpRes P o a.eval w Φ := by
  classical
  refine OpRes.congr (ρ := fun x => if x ∈ o.op.operands then a.eval x else (ev s x).getD undef) hs (fun x hx => if_pos hx) (k _ fun x u hu => ?_)
  show (if x ∈ o.op.operands then a.eval x else (ev s x).getD undef) = u
  split
  · rename_i hx
    cases x with
    | tmp t =>
      refine Act.eval_of_slot (hl t ?_ u hu)
      exact List.mem_append_left _ (List.mem_filterMap.2 ⟨.tmp t, by simpa using hx, rfl⟩)
    | const v => cases hu; rfl
    | global g => cases hu; rfl
    | func f => cases hu; rfl
  · rw [hu]; rfl
theorem I6 {α : Type} (x : α) (f f' : Nat → List α) (i : Nat) : ∀ (l : List Nat), l.Nodup → i ∈ l → (∀ j ∈ l, j ≠ i → f' j = f j) → f i = [] → f' i = [x] → (x :: l.flatMap f).Perm (l.flatMap f')
  | [], _, h, _, _, _ => by cases h
  | j :: l, hn, hi, ho, e1, e2 => by
    simp only [List.flatMap_cons]
    by_cases hj : j = i
    · subst hj
      rw [e1, e2]
      have hnot : j ∉ l := (List.nodup_cons.1 hn).1
      have : l.flatMap f' = l.flatMap f := by
        have : ∀ (l' : List Nat), (∀ k ∈ l', k ≠ j ∧ k ∈ j :: l) → l'.flatMap f' = l'.flatMap f := by
          intro l'
          induction l' with
          | nil => intro _; rfl
          | cons k l' ih => intro hk; simp only [List.flatMap_cons]; rw [ho k (hk k (by simp)).2 (hk k (by simp)).1, ih fun k' hk' => hk k' (List.mem_cons_of_mem _ hk')]
        exact this l fun k hk => ⟨fun e => hnot (e ▸ hk), List.mem_cons_of_mem _ hk⟩
      rw [this]
      exact List.Perm.refl _
    · rw [ho j (by simp) hj]
      have hil : i ∈ l := (List.mem_cons.1 hi).resolve_left (fun e => hj e.symm)
      have := I6 x f f' i l (List.nodup_cons.1 hn).2 hil (fun k hk hne => ho k (List.mem_cons_of_mem _ hk) hne) e1 e2
      exact (List.perm_middle.symm).trans (List.Perm.append_left _ this)
theorem Ec {α : Type} (f f' : Nat → List α) : ∀ (l : List Nat), (∀ j ∈ l, f' j = f j) → l.flatMap f' = l.flatMap f
  | [], _ => rfl
  | j :: l, h => by simp only [List.flatMap_cons]; rw [h j (by simp), Ec f f' l fun k hk => h k (List.mem_cons_of_mem _ hk)]
theorem Qz (γ : Nat → Nat) : ∀ (l : List Oper) (pl : List MJ), pl.length = l.length →
    (List.range l.length).flatMap (fun j => CU pl (fun j => (l[j]?).bind (·.dst)) γ j) = N4 (CL l pl) γ
  | [], [], _ => rfl
  | o :: l, st :: pl, h => by
    have ih := Qz γ l pl (by simpa using h)
    rw [List.length_cons, List.range_succ_eq_map, List.flatMap_cons, List.flatMap_map]
    have ih' : (List.range l.length).flatMap (fun a => CU (st :: pl) (fun j => ((o :: l)[j]?).bind (·.dst)) γ (Nat.succ a)) = N4 (CL l pl) γ := by
      rw [← ih]
      refine Ec _ _ _ fun j _ => ?_
      simp [CU]
    rw [ih']
    rcases st with v | V | x
    · simp [CL, CU]
    · simp [CL, CU]
    · cases hd : o.dst with
      | none => simp [CL, hd, CU]
      | some d => simp [CL, hd, N4, CU]
section sound
variable {e : Entry} {pu : List Nat} {ops : Array Oper} {np : Nat} {pl : List MJ} {s0 : Ar} {h0 : Hp} {ms : List Hp} {listed : Array Bool} {a : Act} {w : World} {h : Hp} {γ : Nat → Nat}
theorem Mid.look (M : Mid e pu ops np pl s0 h0 ms listed a w h γ) (hp : Wj pu ops np) (hlen : pl.length = np) (hf : ∀ j, j < np → ∀ d, AX ops j = some d → lk s0 d = none) {i : Nat} {o : Oper} (hi : ops[i]? = some o) (hin : i < np) (hr : i ∈ Region.ready .any ops listed) {t : Nat} (ht : t ∈ o.looksAt ops) {u : Value}
    (hu : lk (C8 (ops.toList.take i) (pl.take i) s0) t = some u) : a.tmps[t]? = some u := by
  rcases HV _ _ _ _ _ hu with ⟨j, o', h1, h2, h3⟩ | h1
  · have hji : j < i := by
      have := (List.getElem?_eq_some_iff.1 h1).1
      simp at this; omega
    have hoj : ops[j]? = some o' := by
      rw [List.getElem?_take, if_pos hji] at h1; simpa using h1
    have hplj : pl[j]? = some (.inl u) := by
      rw [List.getElem?_take, if_pos hji] at h3; exact h3
    have hd : AX ops j = some t := by simp [AX, hoj, h2]
    obtain ⟨_, hed⟩ := hp.look i o t j hi hin ht (by omega) hd
    obtain ⟨u', st, e1, e2, e3⟩ := M.new j (by omega) (Ku hi hr hed) t hd
    rw [hplj] at e2; cases e2
    simp only [Rel] at e3
    rw [e1, e3]
  · exact M.old t u h1 fun j hj hd => by rw [hf j hj t hd] at h1; cases h1
theorem Mid.lookQ (M : Mid e pu ops np pl s0 h0 ms listed a w h γ) (hp : Wj pu ops np) {i : Nat} {o : Oper} (hi : ops[i]? = some o) (hin : i < np) (hr : i ∈ Region.ready .any ops listed) {d : Nat} {V : VP} (hd : d ∈ o.looksAt ops) (hq : (d, V) ∈ C9 (ops.toList.take i) (pl.take i)) :
    ∃ u, a.tmps[d]? = some u ∧ V h u := by
  obtain ⟨j, o', h1, h2, h3⟩ := Fi _ _ _ _ hq
  have hji : j < i := by
    have := (List.getElem?_eq_some_iff.1 h1).1
    simp at this; omega
  have hoj : ops[j]? = some o' := by
    rw [List.getElem?_take, if_pos hji] at h1; simpa using h1
  have hplj : pl[j]? = some (.inr (.inl V)) := by
    rw [List.getElem?_take, if_pos hji] at h3; exact h3
  have hdj : AX ops j = some d := by simp [AX, hoj, h2]
  obtain ⟨_, hed⟩ := hp.look i o d j hi hin hd (by omega) hdj
  obtain ⟨u', st, e1, e2, e3⟩ := M.new j (by omega) (Ku hi hr hed) d hdj
  rw [hplj] at e2; cases e2
  exact ⟨u', e1, e3.2⟩
theorem Rel.le {h h' : Hp} {γ : Nat → Nat} {d : Nat} {u : Value} {st : MJ} (hl : h.le h') (r : Rel h γ d u st) : Rel h' γ d u st := by
  rcases st with v | V | x
  · exact r
  · exact ⟨r.1, r.1 _ _ _ hl r.2⟩
  · exact r
theorem Mid.next (M : Mid e pu ops np pl s0 h0 ms listed a w h γ) (hp : Wj pu ops np) (hlen : pl.length = np) {i : Nat} {o : Oper} (hi : ops[i]? = some o) (hin : i < np) (hr : i ∈ Region.ready .any ops listed) (hun : listed.getD i true = false) (hbig : ∀ d, o.dst = some d → d < e.n) {st : MJ} (hst : pl[i]? = some st) {u : Value} {w' : World} {h' : Hp} {γ' : Nat → Nat}
    (hl : h.le h') (hγ : ∀ d, o.dst ≠ some d → γ' d = γ d) (hγ0 : (∀ x, st ≠ .inr (.inr x)) → γ' = γ) (hR : ∀ d, o.dst = some d → Rel h' γ' d u st)
    (hE : e.Ends w' h' (CU pl (AX ops) γ' i ++ (((List.range np).flatMap fun j => if listed.getD j false then CU pl (AX ops) γ j else []) ++ ms))) :
    Mid e pu ops np pl s0 h0 ms (listed.setIfInBounds i true) (a.put o.dst u) w' h' γ' := by
  have hilt : i < listed.size := by rw [M.lsize]; exact (Array.getElem?_eq_some_iff.1 hi).1
  have hdi : AX ops i = o.dst := by simp [AX, hi]
  have hset : ∀ j d, (listed.setIfInBounds i true).getD j d = if j = i then true else listed.getD j d := fun j d => by
    by_cases hj : j = i
    · subst hj; simp [hilt]
    · rw [getD_set_ne d (Ne.symm hj)]; simp [hj]
  have hli : listed.getD i false = false := by rw [Array.getD_eq_getD_getElem?, AY hun]; rfl
  have hresj : ∀ j, j ≠ i → j < np → CU pl (AX ops) γ' j = CU pl (AX ops) γ j := fun j hj hjn => by
    unfold CU
    split
    · rename_i x d e1 e2
      rw [hγ d (fun e3 => hj (hp.uniq i j o d hi hin hjn e3 e2))]
    · rfl
  refine ⟨Hp.le_trans M.le hl, ?_, by cases hd : o.dst <;> exact M.defers, ?_, ?_, ?_, ?_, by simpa using M.lsize, M.closed.set hr, fun j hj => getD_set_true (M.pure j hj)⟩
  · -- resources
    cases hr : CU pl (AX ops) γ' i with
    | nil =>
      rw [hr, List.nil_append] at hE
      refine Ends.perm hE (List.Perm.of_eq ?_)
      congr 1
      refine (Ec _ _ _ fun j hj => ?_).symm
      rw [hset]
      by_cases hji : j = i
      · subst hji; simp [hli, hr]
      · simp only [hji, if_false]
        split
        · exact hresj j hji (by simpa using hj)
        · rfl
    | cons x xs =>
      have hx : xs = [] := by
        unfold CU at hr; split at hr
        · simp at hr; exact hr.2
        · cases hr
      subst hx
      rw [hr, List.singleton_append, ← List.cons_append] at hE
      refine Ends.perm hE (List.Perm.append_right _ ?_)
      refine I6 x _ _ i _ List.nodup_range (by simpa using hin) ?_ (by simp [hli]) (by rw [hset]; simp [hr])
      intro j hj hji
      rw [hset]
      simp only [hji, if_false]
      split
      · exact hresj j hji (by simpa using hj)
      · rfl
  · cases hd : o.dst <;> simp [Act.put, M.size]
  · intro t v hv hno
    have hne : o.dst ≠ some t := by rw [← hdi]; exact hno i hin
    cases hd : o.dst with
    | none => exact M.old t v hv hno
    | some d =>
      have : d ≠ t := fun e => hne (by rw [hd, e])
      simp [Act.put, Array.getElem?_setIfInBounds_ne this, M.old t v hv hno]
  · intro j hj hlj d hd
    by_cases hji : j = i
    · subst hji
      rw [hdi] at hd
      refine ⟨u, st, ?_, hst, hR d hd⟩
      rw [hd]; simp [Act.put, M.size, hbig d hd]
    · rw [hset] at hlj; simp only [hji, if_false] at hlj
      obtain ⟨u', st', e1, e2, e3⟩ := M.new j hj hlj d hd
      have hne : o.dst ≠ some d := fun e' => hji (hp.uniq i j o d hi hin hj e' hd)
      refine ⟨u', st', ?_, e2, ?_⟩
      · cases hd' : o.dst with
        | none => exact e1
        | some d' =>
          have : d' ≠ d := fun e => hne (by rw [hd', e])
          simp [Act.put, Array.getElem?_setIfInBounds_ne this, e1]
      · have := Rel.le hl e3
        rcases st' with v | V | x
        · exact this
        · exact this
        · simp only [Rel] at this ⊢; rw [hγ d hne]; exact this
  · intro j hj
    rw [hset]
    have : j ≠ i := by omega
    simp only [this, if_false]
    exact M.later j hj
theorem Ex {s : Ar} {o : Oper} {b : Bool} (hl : ∀ t ∈ o.looksAt ops, ∀ u, lk s t = some u → a.tmps[t]? = some u) (h : Wants ops o s b) : Region.wanted o (yielded ops a.tmps) = b := by
  unfold Wants at h
  unfold Region.wanted
  cases hg : o.guard with
  | none => simp only [hg] at h; simp [h]
  | some p =>
    obtain ⟨j, want⟩ := p
    simp only [hg] at h
    have hlk : ∀ dj u, AX ops j = some dj → lk s dj = some u → a.tmps[dj]? = some u := fun dj u e1 e2 => by
      refine hl dj ?_ _ e2
      unfold Oper.looksAt
      refine List.mem_append_right _ ?_
      simp only [hg]
      unfold AX at e1
      rw [e1]; simp
    rcases h with ⟨dj, b', e1, e2, e3⟩ | ⟨dj, e1, e2, e3⟩
    rotate_left
    · have h1 := hlk dj _ e1 e2
      have hy : yielded ops a.tmps j = none := by
        unfold yielded
        unfold AX at e1
        rw [e1]; simp [h1, undef]
      simp only [hy, e3]; rfl
    have h1 : a.tmps[dj]? = some (.bool b') := hlk dj _ e1 e2
    have hy : yielded ops a.tmps j = some b' := by
      unfold yielded
      unfold AX at e1
      rw [e1]; simp [h1]
    simp only [hy, e3]
    cases b' <;> cases want <;> rfl
theorem Mid.step (M : Mid e pu ops np pl s0 h0 ms listed a w h γ) (hp : Wj pu ops np) (hlen : pl.length = np) (hf : ∀ j, j < np → ∀ d, AX ops j = some d → lk s0 d = none) (hbig : ∀ j, j < np → ∀ d, AX ops j = some d → d < e.n) {i : Nat} {o : Oper} (hi : ops[i]? = some o) (hin : i < np) (hr : i ∈ Region.ready .any ops listed)
    {st : MJ} (hst : pl[i]? = some st) (hok : StpOK e.P ops h0 ms o (C8 (ops.toList.take i) (pl.take i) s0) (C9 (ops.toList.take i) (pl.take i)) st) {Q : Exit → Act → World → Prop} {K : Act → World → Prop}
    (hK : ∀ a' w' h' γ', Mid e pu ops np pl s0 h0 ms (listed.setIfInBounds i true) a' w' h' γ' → K a' w') : wpOp e.P ops Q i K a w := by
  have hun := (mem_ready.1 hr).1
  have hdi : AX ops i = o.dst := by simp [AX, hi]
  have hbig' : ∀ d, o.dst = some d → d < e.n := fun d hd => hbig i hin d (by rw [hdi, hd])
  have hlook := fun (t : Nat) (ht : t ∈ o.looksAt ops) (u : Value) hu => M.look hp hlen hf hi hin hr ht (u := u) hu
  have hsel : ∀ cs b, o.op ≠ .select cs b := fun cs b => Region.noSelect_spec hp.nosel i o cs b hi
  have hst0 : St w h0 ms := M.ends.st.weaken M.le (List.sublist_append_right _ _)
  have hsth : St w h ms := M.ends.st.weaken (Hp.le_refl _) (List.sublist_append_right _ _)
  unfold wpOp
  simp only [hi]
  have hresX : (∀ x, st ≠ .inr (.inr x)) → CU pl (AX ops) γ i = [] := fun hne => by
    unfold CU; rw [hst]
    rcases st with v | V | x
    · rfl
    · rfl
    · exact absurd rfl (hne x)
  have hvalQ : ∀ q', (∀ p ∈ q', p ∈ C9 (ops.toList.take i) (pl.take i) ∧ p.1 ∈ o.looksAt ops) → TP q' (fun d => (a.tmps[d]?).getD undef) h ∧ ∀ t ∈ o.looksAt ops, ∀ u, lk (Mf q' (fun d => (a.tmps[d]?).getD undef) ++ C8 (ops.toList.take i) (pl.take i) s0) t = some u → a.tmps[t]? = some u := fun q' hq' => by
    refine ⟨fun d V hdV => ?_, fun t ht u hu => ?_⟩
    · obtain ⟨h1, h2⟩ := hq' _ hdV
      obtain ⟨u, e1, e2⟩ := M.lookQ hp hi hin hr h2 h1
      simp only [e1]; exact e2
    · rw [BT] at hu
      cases hq : lk (Mf q' fun d => (a.tmps[d]?).getD undef) t with
      | none => rw [hq] at hu; exact hlook t ht u hu
      | some u' =>
        rw [hq] at hu; cases hu
        have hm := Mc _ _ _ hq
        unfold Mf at hm
        obtain ⟨p, hp', e1⟩ := List.mem_map.1 hm
        obtain ⟨d, V⟩ := p
        simp only [Prod.mk.injEq] at e1
        obtain ⟨rfl, rfl⟩ := e1
        obtain ⟨h1, h2⟩ := hq' _ hp'
        obtain ⟨u, e1, e2⟩ := M.lookQ hp hi hin hr h2 h1
        simp [e1]
  -- an exact value, or none
  have exact_ : ∀ v, st = .inl v → ∀ w', Ext w w' → K (a.put o.dst v) w' := fun v hv w' he => by
    subst hv
    refine hK _ _ h γ (M.next hp hlen hi hin hr hun hbig' hst (Hp.le_refl _) (fun _ _ => rfl) (fun _ => rfl) (fun d _ => rfl) ?_)
    rw [hresX (fun x hx => by cases hx), List.nil_append]
    exact Ends.ext M.ends he
  rcases st with v | V | x
  · rcases hok with ⟨hw, hx⟩ | ⟨hw, q', hq', hx⟩ | ⟨hw, rfl⟩
    · rw [Ex hlook hw, if_pos rfl]
      exact .inl ((OpRes.looks hsel hlook fun ρ hρ => hx ρ w hρ hst0).wp fun v' w' ⟨e1, e2⟩ => by subst e1; exact exact_ _ rfl w' e2)
    · rw [Ex hlook hw, if_pos rfl]
      obtain ⟨hsat, hlook'⟩ := hvalQ q' hq'
      exact .inl ((OpRes.looks hsel hlook' fun ρ hρ => hx h M.le _ hsat ρ w hρ hsth).wp fun v' w' ⟨e1, e2⟩ => by subst e1; exact exact_ _ rfl w' e2)
    · rw [Ex hlook hw, if_neg (by simp)]
      exact exact_ _ rfl w (Ext.refl _)
  · obtain ⟨hw, hmono, hx⟩ := hok
    rw [Ex hlook hw, if_pos rfl]
    have fin : ∀ (h1 : Hp) (u : Value) (w' : World), h1.le h → (∃ h' : Hp, h1.le h' ∧ h'.inW w' ∧ (∀ k, k < w.heap.size → h' k = h1 k) ∧ Ext w w' ∧ V h' u) → K (a.put o.dst u) w' := fun h1 u w' hl ⟨h', g1, g2, g3, g4, g5⟩ => by
      obtain ⟨l1, l2, E⟩ := Ends.grow M.ends hl g1 g2 g3 g4
      refine hK _ _ _ γ (M.next hp hlen hi hin hr hun hbig' hst l1 (fun _ _ => rfl) (fun _ => rfl) (fun d _ => ⟨hmono, hmono _ _ _ l2 g5⟩) ?_)
      rw [hresX (fun x hx => by cases hx), List.nil_append]
      exact E
    rcases hx with hx | ⟨q', hq', hx⟩
    · exact .inl ((OpRes.looks hsel hlook fun ρ hρ => hx ρ w hρ hst0).wp fun u w' hh => fin h0 u w' M.le hh)
    · obtain ⟨hsat, hlook'⟩ := hvalQ q' hq'
      exact .inl ((OpRes.looks hsel hlook' fun ρ hρ => hx h M.le _ hsat ρ w hρ hsth).wp fun u w' hh => fin h u w' (Hp.le_refl _) hh)
  · obtain ⟨hw, ⟨d, hd⟩, hx⟩ := hok
    rw [Ex hlook hw, if_pos rfl]
    refine .inl ((OpRes.looks hsel hlook fun ρ hρ => hx ρ w hρ hst0).wp fun u w' ⟨e1, e2⟩ => ?_)
    subst e1 e2
    refine hK _ _ h (fun y => if y = d then w.heap.size else γ y) (M.next hp hlen hi hin hr hun hbig' hst (Hp.le_refl _) (fun y hy => ?_) (fun hne => absurd rfl (hne _)) (fun y hy => ?_) ?_)
    · have : y ≠ d := fun e => hy (by rw [hd, e])
      simp [this]
    · rw [hd] at hy; cases hy; simp [Rel]
    · have hres : CU pl (AX ops) (fun y => if y = d then w.heap.size else γ y) i = [Bf w.heap.size x.1.1 x.1.2] := by
        unfold CU; rw [hst, hdi, hd]; simp
      rw [hres, List.singleton_append]
      exact Ends.alloc M.ends _
theorem Mid.any (hp : Wj pu ops np) (hlen : pl.length = np) (hf : ∀ j, j < np → ∀ d, AX ops j = some d → lk s0 d = none) (hbig : ∀ j, j < np → ∀ d, AX ops j = some d → d < e.n)
    (hplan : ∀ i o, i < np → ops[i]? = some o → ∃ st, pl[i]? = some st ∧ StpOK e.P ops h0 ms o (C8 (ops.toList.take i) (pl.take i) s0) (C9 (ops.toList.take i) (pl.take i)) st) {Q : Exit → Act → World → Prop}
    (hend : ∀ listed a w h γ, Mid e pu ops np pl s0 h0 ms listed a w h γ → (∀ j, j < np → listed.getD j false = true) → wpList e.P ops Q (ops.toList.drop np) a w) :
    ∀ fuel listed a w h γ, Mid e pu ops np pl s0 h0 ms listed a w h γ → left listed ≤ fuel → wpAny e.P .any ops Q fuel listed a w := by
  have alldone : ∀ fuel listed a w h γ, Mid e pu ops np pl s0 h0 ms listed a w h γ → left listed ≤ fuel → (∀ j, j < np → listed.getD j false = true) → wpAny e.P .any ops Q fuel listed a w := by
    intro fuel listed a w h γ M hle BQ
    refine TK hp _ np fuel listed a w rfl (Nat.le_refl _) M.closed M.lsize (fun j hj => ⟨fun h1 => ?_, fun h1 => h1.elim (BQ j) (M.pure j)⟩) hle (hend _ _ _ _ _ M BQ)
    rcases Nat.lt_or_ge j np with h2 | h2
    · exact .inl h2
    · rw [M.later j h2] at h1; exact .inr h1
  intro fuel
  induction fuel with
  | zero =>
    intro listed a w h γ M hle
    refine alldone 0 listed a w h γ M hle fun j hj => ?_
    have h1 := IN (show left listed = 0 by omega) j
    have hjlt : j < listed.size := by rw [M.lsize]; exact Nat.lt_of_lt_of_le hj hp.le
    rw [Array.getD_eq_getD_getElem?] at h1 ⊢
    simp [hjlt] at h1 ⊢; exact h1
  | succ fuel ih =>
    intro listed a w h γ M hle
    by_cases BQ : ∀ j, j < np → listed.getD j false = true
    · exact alldone _ listed a w h γ M hle BQ
    · -- the least that is left is ready
      have hex : ∃ j, j < np ∧ listed.getD j false = false := by
        apply Classical.byContradiction
        intro hne
        exact BQ fun j hj => by
          cases hl : listed.getD j false with
          | true => rfl
          | false => exact absurd ⟨j, hj, hl⟩ hne
      obtain ⟨k, hk, hkl, hmin⟩ : ∃ k, k < np ∧ listed.getD k false = false ∧ ∀ j, j < k → listed.getD j false = true := by
        obtain ⟨j, hj, hl⟩ := hex
        have : ∀ n j, j ≤ n → j < np → listed.getD j false = false → ∃ k, k < np ∧ listed.getD k false = false ∧ ∀ i, i < k → listed.getD i false = true := by
          intro n
          induction n with
          | zero => intro j hjn hj hl; exact ⟨j, hj, hl, fun i hi => by omega⟩
          | succ n ihn =>
            intro j hjn hj hl
            by_cases hc : ∃ i, i < j ∧ listed.getD i false = false
            · obtain ⟨i, hi, hil⟩ := hc
              exact ihn i (by omega) (by omega) hil
            · refine ⟨j, hj, hl, fun i hi => ?_⟩
              cases hil : listed.getD i false with
              | true => rfl
              | false => exact absurd ⟨i, hi, hil⟩ hc
        exact this j j (Nat.le_refl _) hj hl
      have hko : ∃ o, ops[k]? = some o := ⟨ops[k]'(Nat.lt_of_lt_of_le hk hp.le), by simp [Nat.lt_of_lt_of_le hk hp.le]⟩
      obtain ⟨ok, hko⟩ := hko
      have hkr : k ∈ Region.ready .any ops listed := by
        refine mem_ready.2 ⟨?_, ok, hko, fun ed hed hb => hmin _ (hp.backs k ok hko ed hed hb)⟩
        have hklt : k < listed.size := by rw [M.lsize]; exact Nat.lt_of_lt_of_le hk hp.le
        rw [Array.getD_eq_getD_getElem?] at hkl ⊢
        simp [hklt] at hkl ⊢; exact hkl
      refine ⟨fun h0' => (by rw [h0'] at hkr; cases hkr), fun i hir => ?_⟩
      obtain ⟨hun, o, ho, _⟩ := mem_ready.1 hir
      have hin : i < np := by
        rcases Nat.lt_or_ge i np with h2 | h2
        · exact h2
        · have hipu : pu.contains i = false := by
            rw [← M.later i h2]
            rw [Array.getD_eq_getD_getElem?, AY hun]; rfl
          have := I3 M.closed hir ((hp.tail i k (Array.getElem?_eq_some_iff.1 ho).1 h2 hipu (by omega)).resolve_left fun h' => by have := M.pure k h'; rw [hkl] at this; cases this)
          rw [hkl] at this; cases this
      obtain ⟨st, hst, hok⟩ := hplan i o hin ho
      have hls := H2 (AY hun)
      exact M.step hp hlen hf hbig ho hin hir hst hok fun a' w' h' γ' M' => ih _ a' w' h' γ' M' (by omega)
end sound
def Io (n : Nat) : List Oper → Ar → Bool
  | [], _ => true
  | o :: l, s => (match o.dst with | some d => (match lk s d with | none => true | some _ => false) && Nat.blt d n | none => true) && Io n l s
theorem I1 {n : Nat} : ∀ (l : List Oper) (s : Ar), Io n l s = true → ∀ (j : Nat) (o : Oper) (d : Nat), l[j]? = some o → o.dst = some d → lk s d = none ∧ d < n
  | [], _, _, j, o, d, h, _ => by cases h
  | o :: l, s, H, j, o', d, h, hd => by
    simp only [Io, Bool.and_eq_true] at H
    cases j with
    | zero =>
      simp at h; subst h
      have h1 := H.1
      simp only [hd, Bool.and_eq_true] at h1
      refine ⟨?_, Nat.le_of_ble_eq_true h1.2⟩
      cases hl : lk s d with
      | none => rfl
      | some v => rw [hl] at h1; cases h1.1
    | succ j => exact I1 l s H.2 j o' d (by simpa using h) hd
theorem Nz {e : Entry} {pu : List Nat} {l : List Oper} {Q : Exit → Act → World → Prop} {s : Ar} {h : Hp} {ms : List Hp} (np : Nat) (hp : NH pu l.toArray np = true) (hf : Io e.n (l.take np) s = true)
    (k : WR e l.toArray Q (l.drop np) h ms (l.take np) s [] []) {listed : Array Bool} (hl1 : listed.size = l.length) (hl2 : ∀ i, listed.getD i false = pu.contains i) (hl3 : Closed l.toArray listed) (hl4 : ∀ i, pu.contains i = true → AX l.toArray i = none) {fuel : Nat} (hfu : left listed ≤ fuel)
    {a : Act} {w : World} (ha : Has e.n e.ds a s) (hw : e.Ends w h ms) : wpAny e.P .any l.toArray Q fuel listed a { w with drawn := w.drawn + 1 } := by
  have P := Kt hp
  have hnp : np ≤ l.length := by simpa using P.le
  obtain ⟨pl, hlen, hplan, hfin⟩ := Jt _ _ _ _ k
  have hlen' : pl.length = np := by rw [hlen, List.length_take]; omega
  have hd : ∀ j d, j < np → AX l.toArray j = some d → lk s d = none ∧ d < e.n := fun j d hj hd => by
    unfold AX at hd
    simp only [List.getElem?_toArray] at hd
    cases ho : l[j]? with
    | none => rw [ho] at hd; cases hd
    | some o =>
      rw [ho] at hd
      exact I1 _ _ hf j o d (by rw [List.getElem?_take, if_pos hj]; exact ho) hd
  have hw1 : e.Ends { w with drawn := w.drawn + 1 } h ms := Ends.drew hw
  have M0 : Mid e pu l.toArray np pl s h ms listed a { w with drawn := w.drawn + 1 } h (fun _ => 0) := by
    refine ⟨Hp.le_refl _, ?_, ha.defers, ha.size, fun t u hu _ => ha.slots t u hu, fun j _ hj d hd => ?_, fun j hj => ?_, by simpa using hl1, hl3, fun j hj => by rw [hl2]; exact hj⟩
    · have : (List.range np).flatMap (fun j => if listed.getD j false then CU pl (AX l.toArray) (fun _ => 0) j else []) = [] := by
        rw [List.flatMap_eq_nil_iff]
        intro j _; rw [hl2]
        cases hc : pu.contains j with
        | false => rfl
        | true => simp only [if_true]; unfold CU; rw [hl4 j hc]; split <;> first | rfl | (rename_i hh; cases hh)
      rw [this]; exact hw1
    · rw [hl2] at hj; rw [hl4 j hj] at hd; cases hd
    · exact hl2 j
  refine (Mid.any P hlen' (fun j hj d hdj => (hd j d hj hdj).1) (fun j hj d hdj => (hd j d hj hdj).2) ?_ ?_ _ _ _ _ _ _ M0 hfu)
  · intro i o hi ho
    have ho' : (l.take np)[i]? = some o := by rw [List.getElem?_take, if_pos hi]; simpa using ho
    obtain ⟨st, e1, e2⟩ := PlanOK.get _ _ _ _ hplan i o ho'
    refine ⟨st, e1, ?_⟩
    have e3 : (l.take np).take i = l.toArray.toList.take i := by rw [List.take_take]; congr 1; omega
    rw [e3] at e2
    simpa using e2
  · intro listed a w h' γ M BQ
    have hfd : ∀ t u, lk (C8 (l.take np) pl s) t = some u → a.tmps[t]? = some u := fun t u hu => by
      rcases HV _ _ _ _ _ hu with ⟨j, o, h1, h2, h3⟩ | h1
      · have hj : j < np := by
          have := (List.getElem?_eq_some_iff.1 h1).1; simp at this; omega
        have hdj : AX l.toArray j = some t := by
          rw [List.getElem?_take, if_pos hj] at h1; simp [AX, h1, h2]
        obtain ⟨u', st, e1, e2, e3⟩ := M.new j hj (BQ j hj) t hdj
        rw [h3] at e2; cases e2
        simp only [Rel] at e3; rw [e1, e3]
      · exact M.old t u h1 fun j hj hdj => by rw [(hd j t hj hdj).1] at h1; cases h1
    have hres : ((List.range np).flatMap fun j => if listed.getD j false then CU pl (AX l.toArray) γ j else []) = N4 (CL (l.take np) pl) γ := by
      rw [← Qz γ (l.take np) pl hlen]
      have hlt : (l.take np).length = np := by rw [List.length_take]; omega
      rw [hlt]
      refine Ec _ _ _ fun j hj => ?_
      have hj' : j < np := by simpa using hj
      rw [BQ j hj', if_pos rfl]
      unfold CU AX
      simp only [List.getElem?_toArray]
      rw [List.getElem?_take, if_pos hj']
    have hslotA : ∀ t u, lk (Nt (CL (l.take np) pl) γ) t = some u → a.tmps[t]? = some u := fun t u hu => by
      have hm := Mc _ _ _ hu
      unfold Nt at hm
      obtain ⟨p, hp', e1⟩ := List.mem_map.1 hm
      obtain ⟨d, x⟩ := p
      simp only [Prod.mk.injEq] at e1
      obtain ⟨rfl, rfl⟩ := e1
      obtain ⟨j, o, h1, h2, h3⟩ := GD _ _ _ _ hp'
      have hj : j < np := by
        have := (List.getElem?_eq_some_iff.1 h1).1; simp at this; omega
      have hdj : AX l.toArray j = some d := by
        rw [List.getElem?_take, if_pos hj] at h1; simp [AX, h1, h2]
      obtain ⟨u', st, e1, e2, e3⟩ := M.new j hj (BQ j hj) d hdj
      rw [h3] at e2; cases e2
      simp only [Rel] at e3; rw [e1, e3]
    have hq : ∀ d V, (d, V) ∈ C9 (l.take np) pl → ∃ u, a.tmps[d]? = some u ∧ V h' u := fun d V hm => by
      obtain ⟨j, o, h1, h2, h3⟩ := Fi _ _ _ _ hm
      have hj : j < np := by
        have := (List.getElem?_eq_some_iff.1 h1).1; simp at this; omega
      have hdj : AX l.toArray j = some d := by
        rw [List.getElem?_take, if_pos hj] at h1; simp [AX, h1, h2]
      obtain ⟨u', st, e1, e2, e3⟩ := M.new j hj (BQ j hj) d hdj
      rw [h3] at e2; cases e2
      exact ⟨u', e1, e3.2⟩
    have hE := M.ends
    rw [hres] at hE
    have hA : ∀ t u, lk (Nt (CL (l.take np) pl) γ ++ C8 (l.take np) pl s) t = some u → a.tmps[t]? = some u := fun t u hu => by
      rw [BT] at hu
      cases hv : lk (Nt (CL (l.take np) pl) γ) t with
      | none => rw [hv] at hu; exact hfd t u hu
      | some u' => rw [hv] at hu; cases hu; exact hslotA t _ hv
    simp only [List.nil_append] at hfin
    have hdr : l.toArray.toList.drop np = l.drop np := rfl
    rw [hdr]
    rcases hfin with ⟨_, hfin⟩ | hfin
    · exact hfin γ a w ⟨M.defers, M.size, hA⟩ (Ends.back hE hw M.le)
    · refine hfin h' M.le (fun d => (a.tmps[d]?).getD undef) γ (fun d V hm => ?_) a w ⟨M.defers, M.size, fun t u hu => ?_⟩ hE
      · obtain ⟨u, e1, e2⟩ := hq d V hm
        simp only [e1]; exact e2
      · rw [BT] at hu
        cases hv : lk (Mf (C9 (l.take np) pl) fun d => (a.tmps[d]?).getD undef) t with
        | none => rw [hv] at hu; exact hA t u hu
        | some u' =>
          rw [hv] at hu; cases hu
          have hm := Mc _ _ _ hv
          unfold Mf at hm
          obtain ⟨p, hp', e1⟩ := List.mem_map.1 hm
          obtain ⟨d, V⟩ := p
          simp only [Prod.mk.injEq] at e1
          obtain ⟨rfl, rfl⟩ := e1
          obtain ⟨u, e1, e2⟩ := hq d V hp'
          simp [e1]
theorem BB (n i : Nat) : (Array.replicate n false).getD i false = false := by
  rw [Array.getD_eq_getD_getElem?]
  by_cases hi : i < n
  · simp [hi]
  · simp [Array.getElem?_eq_none, hi]
theorem Bb {e : Entry} {id : Nat} {l : List Oper} {Q : Exit → Act → World → Prop} {s : Ar} {h : Hp} {ms : List Hp} (np : Nat) (hm : e.P.follows .mixedOrders = true) (hp : NH [] l.toArray np = true) (hf : Io e.n (l.take np) s = true)
    (k : WR e l.toArray Q (l.drop np) h ms (l.take np) s [] []) : WS e (.region id l.toArray true) Q s h ms := by
  intro a w ha hw
  refine wp_region_any hm (Nz np hp hf k (by simp) (fun i => by rw [BB]; rfl) (fun i o hi => by rw [BB] at hi; cases hi) (fun i hi => by cases hi) ?_ ha hw)
  unfold left; rw [Array.toList_replicate]; exact Nat.le_trans (List.countP_le_length) (by simp)
end Go.Eng
namespace Go.Eng
open Go.RowKit
variable {b : Bool} {s' : Ar} {j dj d t : Nat} {P : Program} {v : Value}
section
variable {e : Entry} {ops : Array Oper} {Q : Exit → Act → World → Prop} {tl : List Oper} {h : Hp} {ms : List Hp} {l : List Oper} {o : Oper} {s : Ar} {q : List (Nat × VP)} {al : List (Nat × Nb)}
theorem Wants.plain (hg : o.guard = none) : Wants ops o s true := by unfold Wants; rw [hg]
theorem Wants.yes (hg : o.guard = some (j, b)) (hj : AX ops j = some dj) (hv : lk s dj = some (.bool b)) : Wants ops o s true := by
  unfold Wants; rw [hg]; exact .inl ⟨dj, b, hj, hv, by cases b <;> rfl⟩
theorem Wants.no {b' : Bool} (hg : o.guard = some (j, b)) (hj : AX ops j = some dj) (hv : lk s dj = some (.bool b')) (hne : (b' == b) = false) : Wants ops o s false := by
  unfold Wants; rw [hg]; exact .inl ⟨dj, b', hj, hv, hne.symm⟩
theorem Wants.nou (hg : o.guard = some (j, b)) (hj : AX ops j = some dj) (hv : lk s dj = some undef) : Wants ops o s false := by
  unfold Wants; rw [hg]; exact .inr ⟨dj, hj, hv, rfl⟩
theorem AM (hx : OX e.P o s h ms v) (hd : o.dst = some d) (hg : o.guard = none) (k : WR e ops Q tl h ms l ((d, v) :: s) q al) : WR e ops Q tl h ms (o :: l) s q al :=
  .inl ⟨v, .inl ⟨.plain hg, hx⟩, by rw [hd]; exact k⟩
theorem AF (hx : OX e.P o s h ms v) (hd : o.dst = some d) (hg : o.guard = some (j, b)) (hj : AX ops j = some dj) (hv : lk s dj = some (.bool b)) (k : WR e ops Q tl h ms l ((d, v) :: s) q al) : WR e ops Q tl h ms (o :: l) s q al :=
  .inl ⟨v, .inl ⟨.yes hg hj hv, hx⟩, by rw [hd]; exact k⟩
theorem Ap {b' : Bool} (hd : o.dst = some d) (hg : o.guard = some (j, b)) (hj : AX ops j = some dj) (hv : lk s dj = some (.bool b')) (hne : (b' == b) = false) (k : WR e ops Q tl h ms l ((d, undef) :: s) q al) : WR e ops Q tl h ms (o :: l) s q al :=
  .inl ⟨undef, .inr (.inr ⟨.no hg hj hv hne, rfl⟩), by rw [hd]; exact k⟩
theorem AL (hd : o.dst = some d) (hg : o.guard = some (j, b)) (hj : AX ops j = some dj) (hv : lk s dj = some undef) (k : WR e ops Q tl h ms l ((d, undef) :: s) q al) : WR e ops Q tl h ms (o :: l) s q al :=
  .inl ⟨undef, .inr (.inr ⟨.nou hg hj hv, rfl⟩), by rw [hd]; exact k⟩
theorem Uw {x : Nb} (hx : Ya e.P o s h ms x) (hd : o.dst = some d) (hg : o.guard = none) (k : WR e ops Q tl h ms l s q (al ++ [(d, x)])) : WR e ops Q tl h ms (o :: l) s q al :=
  .inr (.inr ⟨x, ⟨.plain hg, ⟨d, hd⟩, hx⟩, by rw [hd]; exact k⟩)
theorem KP {sz bytes : Nat} {z : Value} (zl : List Value) (ho : o.op = .alloc t) (hs : Elem P t sz z bytes) (hz : z.cells = zl.toArray) : Ya P o s h ms ((t, zl), fun g => .pointer (some ⟨g, 0, none⟩)) := fun ρ w hρ hw => by
  have : (execOp ρ o).run P w = .ok (.value (.pointer (some ⟨w.heap.size, 0, none⟩))) (w.alloc (.cells zl.toArray t)) := by
    simp [execOp, ho, Instr.alloc, hs.zeroValue, newVar, newRow, hz]
  unfold OpRes; rw [this]; exact ⟨rfl, rfl⟩
theorem Ea {t el : TypeId} {sz : Nat} {z : Value} {bytes : Nat} {x : Operand} (zl : List Value) (ho : o.op = .buildSlice t 1 #[(0, x)]) (ht : P.underlying t = some (.slice el)) (hs : Elem P el sz z bytes) (hx : ev s x = some v) (hv : v.cells = zl.toArray) (hl : zl.length = sz) (hzs : z.cells.size = sz) (hsz : 0 < sz ∧ sz ≤ 1000) :
    Ya P o s h ms ((el, zl), fun g => .slice (some ⟨g, 0, none⟩) 1 1) := fun ρ w hρ hw => by
  have := FT (P := P) zl ht hs hv hl hzs hsz w
  have : (execOp ρ o).run P w = .ok (.value (.slice (some ⟨w.heap.size, 0, none⟩) 1 1)) (w.alloc (.cells zl.toArray el)) := by
    simp [execOp, ho, hρ _ _ hx, this]
  unfold OpRes; rw [this]; exact ⟨rfl, rfl⟩
theorem AU (k : WL e ops Q tl s h ms) : WR e ops Q tl h ms [] s [] [] := .inl ⟨rfl, fun _ => k⟩
theorem Hz {zl : List Value} {f : Nat → Value} (k : ∀ g, WL e ops Q tl ((d, f g) :: s) h (Bf g t zl :: ms)) : WR e ops Q tl h ms [] s [] [(d, ((t, zl), f))] := .inl ⟨rfl, fun γ => k (γ d)⟩
theorem W9 {s : Ar} (he : ∀ t, lk s t = lk s' t) (x : Operand) : ev s x = ev s' x := by cases x <;> first | exact he _ | rfl
theorem Evs.ext {s : Ar} (he : ∀ t, lk s t = lk s' t) {ρ : Operand → Value} (H : Evs s' ρ) : Evs s ρ := fun x u hu => H x u (by rw [← W9 he]; exact hu)
theorem OX.ext {s : Ar} (he : ∀ t, lk s t = lk s' t) (H : OX P o s h ms v) : OX P o s' h ms v := fun ρ w hρ hw => H ρ w (Evs.ext he hρ) hw
theorem OPX.ext {s : Ar} {V : VP} (he : ∀ t, lk s t = lk s' t) (H : OPX P o s h ms V) : OPX P o s' h ms V := fun ρ w hρ hw => H ρ w (Evs.ext he hρ) hw
theorem CG {s : Ar} (he : ∀ t, lk s t = lk s' t) (a : Ar) (t : Nat) : lk (a ++ s) t = lk (a ++ s') t := by rw [BT, BT, he]
theorem Wants.ext {s : Ar} (he : ∀ t, lk s t = lk s' t) (H : Wants ops o s b) : Wants ops o s' b := by
  unfold Wants at *
  cases hg : o.guard with
  | none => simp only [hg] at H; exact H
  | some p => simp only [hg] at H; exact H.imp (fun ⟨dj, b', e1, e2, e3⟩ => ⟨dj, b', e1, by rw [← he]; exact e2, e3⟩) (fun ⟨dj, e1, e2, e3⟩ => ⟨dj, e1, by rw [← he]; exact e2, e3⟩)
theorem StpOK.ext {s : Ar} {st : MJ} (he : ∀ t, lk s t = lk s' t) (H : StpOK P ops h ms o s q st) : StpOK P ops h ms o s' q st := by
  rcases st with v | V | x
  · rcases H with ⟨h1, h2⟩ | ⟨h1, q', h2, h3⟩ | ⟨h1, h2⟩
    · exact .inl ⟨h1.ext he, OX.ext he h2⟩
    · exact .inr (.inl ⟨h1.ext he, q', h2, fun h' hl val hs => OX.ext (CG he _) (h3 h' hl val hs)⟩)
    · exact .inr (.inr ⟨h1.ext he, h2⟩)
  · obtain ⟨h1, h2, h3⟩ := H
    refine ⟨h1.ext he, h2, ?_⟩
    rcases h3 with h3 | ⟨q', h3, h4⟩
    · exact .inl (OPX.ext he h3)
    · exact .inr ⟨q', h3, fun h' hl val hs => OPX.ext (CG he _) (h4 h' hl val hs)⟩
  · exact ⟨H.1.ext he, H.2.1, fun ρ w hρ hw => H.2.2 ρ w (Evs.ext he hρ) hw⟩
theorem WL.ext {s : Ar} (he : ∀ t, lk s t = lk s' t) (H : WL e ops Q l s h ms) : WL e ops Q l s' h ms :=
  fun a w ha hw => H a w ⟨ha.defers, ha.size, fun i v hi => ha.slots i v (by rw [← he]; exact hi)⟩ hw
theorem WR.ext : ∀ (l : List Oper) (s s' : Ar) (q : List (Nat × VP)) (al : List (Nat × Nb)), (∀ t, lk s t = lk s' t) → WR e ops Q tl h ms l s q al → WR e ops Q tl h ms l s' q al
  | [], s, s', q, al, he, H => by
    rcases H with ⟨h1, h2⟩ | h2
    · exact .inl ⟨h1, fun γ => WL.ext (CG he _) (h2 γ)⟩
    · exact .inr fun h' hl val γ hs => WL.ext (CG (CG he _) _) (h2 h' hl val γ hs)
  | o :: l, s, s', q, al, he, H => by
    rcases H with ⟨v, h1, h2⟩ | ⟨V, h1, h2⟩ | ⟨x, h1, h2⟩
    · refine .inl ⟨v, h1.ext he, WR.ext l _ _ _ _ ?_ h2⟩
      cases o.dst with
      | none => exact he
      | some d => exact fun t => CG he [(d, v)] t
    · exact .inr (.inl ⟨V, h1.ext he, WR.ext l _ _ _ _ he h2⟩)
    · exact .inr (.inr ⟨x, h1.ext he, WR.ext l _ _ _ _ he h2⟩)
theorem BV {p : Prop} {_ : Decidable p} (hc : lk s t = some (.bool (decide p))) (kt : p → WR e ops Q tl h ms l ((t, .bool true) :: s) q al) (kf : ¬ p → WR e ops Q tl h ms l ((t, .bool false) :: s) q al) : WR e ops Q tl h ms l s q al := by
  by_cases hp : p
  · refine WR.ext l _ _ _ _ (fun i => ?_) (kt hp)
    by_cases hi : t = i
    · subst hi; rw [Bj, hc]; simp [hp]
    · rw [Bd _ _ hi]
  · refine WR.ext l _ _ _ _ (fun i => ?_) (kf hp)
    by_cases hi : t = i
    · subst hi; rw [Bj, hc]; simp [hp]
    · rw [Bd _ _ hi]
theorem Q4 (hc : lk s t = some (.bool b)) (kt : b = true → WR e ops Q tl h ms l ((t, .bool true) :: s) q al) (kf : b = false → WR e ops Q tl h ms l ((t, .bool false) :: s) q al) : WR e ops Q tl h ms l s q al := by
  have e1 : decide (b = true) = b := by cases b <;> rfl
  exact BV (p := b = true) (by rw [hc, e1]) kt (fun hb => kf (by simpa using hb))
end
end Go.Eng
namespace Go.Eng
open Go.RowKit
variable {j : Nat} {u : Value}
def AI : Value → Addr
  | .slice (some p) _ _ => p
  | _ => ⟨0, 0, none⟩
def GJ (sz : Nat) (v : Value) (i j : Nat) : Value :=
  match v with
  | .slice a _ c => .slice (if c = i then a else a.map (·.add (i * sz))) (j - i) (c - i)
  | u => u
theorem Rd.val {h : Hp} {ms : List Hp} {v : Value} {sz n : Nat} {cs : List Value} (R : Rd h ms v sz n cs) (hn : 0 < n) : ∃ c, v = .slice (some (AI v)) n c ∧ Seg h ms (AI v) cs := by
  obtain ⟨a, c, rfl, e2, e3, e4, e5⟩ := R.ex
  obtain ⟨q, rfl, hs⟩ := e5 hn
  exact ⟨c, rfl, hs⟩
theorem Rd.len_le {h : Hp} {ms : List Hp} {v : Value} {sz n : Nat} {cs : List Value} (R : Rd h ms v sz n cs) : n ≤ 9223372036854775807 := by
  obtain ⟨a, c, rfl, e2, e3, e4, e5⟩ := R.ex; omega
theorem Rd.cells {h : Hp} {ms : List Hp} {v : Value} {sz n : Nat} {cs : List Value} (R : Rd h ms v sz n cs) : v.cells = [v].toArray := by
  obtain ⟨a, c, rfl, _⟩ := R.ex; rfl
theorem Rd.one {h : Hp} {ms : List Hp} {v : Value} {sz n : Nat} {cs : List Value} (R : Rd h ms v sz n cs) : v.oneCell' = true := by
  obtain ⟨a, c, rfl, _⟩ := R.ex; rfl
theorem Rd.blk {h : Hp} {ms : List Hp} {g : Nat} {el : TypeId} {sz n c : Nat} {cs : List Value} (hm : Bf g el cs ∈ ms) (hl : cs.length = n * sz) (hn : n ≤ c) (hc : c ≤ 9223372036854775807) : Rd h ms (.slice (some ⟨g, 0, none⟩) n c) sz n cs := by
  refine ⟨_, c, rfl, hn, hc, hl, fun _ => ⟨_, rfl, ?_⟩⟩
  obtain ⟨i, hi⟩ := List.getElem?_of_mem hm
  exact Seg.blk i hi
theorem Rd.sub_ {h : Hp} {ms : List Hp} {v : Value} {sz n : Nat} {cs : List Value} (R : Rd h ms v sz n cs) {i : Nat} (hi : i ≤ j) (hj : j ≤ n) : Rd h ms (GJ sz v i j) sz (j - i) ((cs.drop (i * sz)).take ((j - i) * sz)) := by
  obtain ⟨a, c, rfl, e2, e3, e4, e5⟩ := R.ex
  refine ⟨_, c - i, rfl, by omega, by omega, ?_, fun hlt => ?_⟩
  · rw [List.length_take, List.length_drop, e4]
    have h1 : (j - i) * sz ≤ n * sz - i * sz := by rw [← Nat.sub_mul]; exact Nat.mul_le_mul_right _ (by omega)
    omega
  · obtain ⟨q, rfl, hs⟩ := e5 (by omega)
    have hci : ¬ c = i := by omega
    refine ⟨q.add (i * sz), by simp [hci], fun k u hu => ?_⟩
    rw [C5]
    refine hs _ u ?_
    rw [List.getElem?_take] at hu
    split at hu
    · rw [List.getElem?_drop] at hu; exact hu
    · cases hu
structure RdL {α : Type} (F : α → List Value) (sz : Nat) (h : Hp) (ms : List Hp) (v : Value) (l : List α) : Prop where
  rd : Rd h ms v sz l.length (l.flatMap F)
  len : ∀ x, (F x).length = sz
structure OwnL {α : Type} (F : α → List Value) (sz : Nat) (el : TypeId) (m : Hp) (v : Value) (l : List α) : Prop where
  own : Own el sz m v l.length (l.flatMap F)
  len : ∀ x, (F x).length = sz
section
variable {α : Type} {F : α → List Value} {sz : Nat} {h h' : Hp} {ms ms' : List Hp} {v : Value} {l : List α} {el : TypeId} {m : Hp}
theorem RdL.up (R : RdL F sz h ms v l) (hl : h.le h') : RdL F sz h' ms v l := ⟨R.rd.le hl, R.len⟩
theorem RdL.sub (R : RdL F sz h ms v l) (hm : ∀ m ∈ ms, m ∈ ms') : RdL F sz h ms' v l := ⟨R.rd.sub hm, R.len⟩
theorem RdL.any (R : RdL F sz h [] v l) : RdL F sz h ms v l := R.sub (by simp)
theorem RdL.len_le (R : RdL F sz h ms v l) : l.length ≤ 9223372036854775807 := R.rd.len_le
theorem OwnL.rd (O : OwnL F sz el m v l) (hm : m ∈ ms) : RdL F sz h ms v l := ⟨O.own.rd hm, O.len⟩
theorem OwnL.rdh (O : OwnL F sz el m v l) (hm : m.le h) : RdL F sz h ms v l := ⟨O.own.rdh hm, O.len⟩
theorem OwnL.frozen (O : OwnL F sz el m v l) {h0 : Hp} (hd : m.disj h0) : RdL F sz (h0.join m) ms v l := O.rdh (Hp.join_le_right hd)
theorem OwnL.nil (hF : ∀ x, (F x).length = sz) : OwnL F sz el Hp.emp (.slice none 0 0) [] := ⟨Own.nil el sz, hF⟩
theorem Ej (hF : ∀ x, (F x).length = sz) : ∀ (l : List α) (j : Nat), (l.flatMap F).drop (j * sz) = (l.drop j).flatMap F
  | [], j => by simp
  | x :: l, 0 => by simp
  | x :: l, j + 1 => by
    rw [List.flatMap_cons, Nat.add_mul, Nat.one_mul, Nat.add_comm, ← List.drop_drop, ← hF x, List.drop_left, hF x, Ej hF l j]; rfl
theorem FK (hF : ∀ x, (F x).length = sz) : ∀ (l : List α) (j : Nat), (l.flatMap F).take (j * sz) = (l.take j).flatMap F
  | [], j => by simp
  | x :: l, 0 => by simp
  | x :: l, j + 1 => by
    rw [List.flatMap_cons, Nat.add_mul, Nat.one_mul, Nat.add_comm, List.take_append, hF x, List.take_of_length_le (by rw [hF x]; omega), Nat.add_sub_cancel_left, FK hF l j]; rfl
theorem Be (hF : ∀ x, (F x).length = sz) (l : List α) : (l.flatMap F).length = l.length * sz := by
  induction l with
  | nil => simp
  | cons x l ih => rw [List.flatMap_cons, List.length_append, hF, ih, List.length_cons, Nat.add_mul]; omega
theorem F9 (hF : ∀ x, (F x).length = sz) (l : List α) (j : Nat) (hj : j < l.length) (f : Nat) (u : Value) (hf : (F l[j])[f]? = some u) : (l.flatMap F)[j * sz + f]? = some u := by
  have h1 : ((l.flatMap F).drop (j * sz))[f]? = some u := by
    rw [Ej hF, List.drop_eq_getElem_cons hj, List.flatMap_cons, List.getElem?_append_left (List.getElem?_eq_some_iff.1 hf).1]; exact hf
  rwa [List.getElem?_drop] at h1
theorem RdL.cell (R : RdL F sz h ms v l) (hj : j < l.length) {f : Nat} (hf : (F l[j])[f]? = some u) : Cell h ms (((AI v).add (j * sz)).add f) u := by
  obtain ⟨c, _, hs⟩ := R.rd.val (by omega)
  rw [C5]
  exact hs _ u (F9 R.len l j hj f u hf)
theorem RdL.cell0 (R : RdL F sz h ms v l) (hj : j < l.length) (hf : (F l[j])[0]? = some u) : Cell h ms ((AI v).add (j * sz)) u := by
  have := R.cell hj hf; rwa [De] at this
theorem RdL.seg (R : RdL F sz h ms v l) (hj : j < l.length) : Seg h ms ((AI v).add (j * sz)) (F l[j]) := fun f u hf => R.cell hj hf
theorem RdL.sub_ (R : RdL F sz h ms v l) {i : Nat} (hi : i ≤ j) (hj : j ≤ l.length) : RdL F sz h ms (GJ sz v i j) ((l.drop i).take (j - i)) := by
  refine ⟨?_, R.len⟩
  have := R.rd.sub_ hi hj
  rw [Ej R.len, FK R.len] at this
  have e : ((l.drop i).take (j - i)).length = j - i := by rw [List.length_take, List.length_drop]; omega
  rw [e]; exact this
end
section
variable {P : Program} {o : Oper} {s : Ar} {h : Hp} {ms : List Hp} {t el : TypeId} {x y lo hi : Operand} {v : Value} {sz n : Nat} {cs : List Value} {z : Value} {bytes : Nat} {k k' : IntKind}
theorem Af {i : Int} (j : Nat) (R : Rd h ms v sz n cs) (ho : o.op = .indexAddr t x y) (ht : P.underlying t = some (.slice el)) (hs : Elem P el sz z bytes) (hx : ev s x = some v) (hy : ev s y = some (.int k i)) (hi : i = (j : Int)) (hlt : j < n) : OX P o s h ms (.pointer (some ((AI v).add (j * sz)))) := by
  obtain ⟨c, e, _⟩ := R.val (by omega)
  rw [e] at hx
  exact F1 j ho ht hs hx hy hi hlt
theorem AC (R : Rd h ms v sz n cs) (ho : o.op = .call { callee := .builtin .len, args := #[x], argTypes := #[t] }) (ht : P.underlying t = some (.slice el)) (hx : ev s x = some v) : OX P o s h ms (.int .i64 n) := by
  obtain ⟨a, c, rfl, _⟩ := R.ex
  exact Oj (ty := t) ho ht hx
theorem Du {l : Int} (i : Nat) (R : Rd h ms v sz n cs) (ho : o.op = .slice t x (some lo) none none) (ht : P.underlying t = some (.slice el)) (hs : Elem P el sz z bytes) (hx : ev s x = some v) (hlo : ev s lo = some (.int k l)) (el' : l = (i : Int)) (h1 : i ≤ n) :
    OX P o s h ms (GJ sz v i n) := by
  obtain ⟨a, c, rfl, e2, e3, e4, e5⟩ := R.ex
  exact By fun ρ w hρ _ => by
    have g1 : (0 : Int) ≤ l ∧ l ≤ (n : Int) := by omega
    have g3 : l.toNat = i := by omega
    simp [execOp, ho, hρ _ _ hx, hρ _ _ hlo, Instr.sliceAt, Instr.slice, run_underlying ht, Instr.sliceBounds, Instr.sliceBound, asIntOf, g1, g3, hs.sizeOf, GJ]
theorem I9 {r : Int} (j : Nat) (R : Rd h ms v sz n cs) (ho : o.op = .slice t x none (some hi) none) (ht : P.underlying t = some (.slice el)) (hs : Elem P el sz z bytes) (hx : ev s x = some v) (hhi : ev s hi = some (.int k r)) (er : r = (j : Int)) (h2 : j ≤ n) :
    OX P o s h ms (GJ sz v 0 j) := by
  obtain ⟨a, c, rfl, e2, e3, e4, e5⟩ := R.ex
  exact By fun ρ w hρ _ => by
    have g2 : (0 : Int) ≤ r ∧ r ≤ (c : Int) := by omega
    have g4 : r.toNat = j := by omega
    simp [execOp, ho, hρ _ _ hx, hρ _ _ hhi, Instr.sliceAt, Instr.slice, run_underlying ht, Instr.sliceBounds, Instr.sliceBound, asIntOf, g2, g4, hs.sizeOf, GJ]
end
section
variable {e : Entry} {Q : Exit → Act → World → Prop} {ops : Array Oper} {rest : List Oper} {o : Oper} {s : Ar} {h : Hp} {ms : List Hp} {α : Type} {F : α → List Value}
theorem AJ {t el : TypeId} {sz d : Nat} {z : Value} {bytes : Nat} {x y : Operand} {v : Value} {m : Hp} {l r : List α} (i : Nat) (O : OwnL F sz el m v l) (R : RdL F sz h ms u r) (ho : o.op = .call { callee := .builtin .append, args := #[x, y], argTypes := #[t, t] }) (ht : e.P.underlying t = some (.slice el)) (hs : Elem e.P el sz z bytes) (hzs : z.cells.size = sz) (hsz : 0 < sz)
    (hx : ev s x = some v) (hy : ev s y = some u) (hm : ms[i]? = some m) (h1 : ∀ a, ∀ c ∈ F a, c.oneCell' = true) (hb : (l.length + r.length) * bytes ≤ 140737488355328) (hb63 : l.length + r.length ≤ 9223372036854775807) (hd : o.dst = some d) (hn : Nat.blt d e.n = true) (hg : o.guard = none)
    (K : ∀ v' m', OwnL F sz el m' v' (l ++ r) → WL e ops Q rest ((d, v') :: s) h (ms.set i m')) : WL e ops Q (o :: rest) s h ms :=
  KQ i ho ht hs hzs hsz hx hy hm O.own R.rd (fun c hc => by obtain ⟨a, _, ha⟩ := List.mem_flatMap.1 hc; exact h1 a c ha) hb hb63 hd hn hg fun v' m' O' => K v' m' ⟨by rw [List.length_append, List.flatMap_append]; exact O', O.len⟩
theorem RdL.one {sz : Nat} {g : Nat} {el : TypeId} {x : α} {cs : List Value} (hF : ∀ x, (F x).length = sz) (hm : Bf g el cs ∈ ms) (hc : cs = F x) : RdL F sz h ms (.slice (some ⟨g, 0, none⟩) 1 1) [x] :=
  ⟨by subst hc; simpa using Rd.blk (h := h) (n := 1) (c := 1) (sz := sz) hm (by rw [hF]; omega) (Nat.le_refl _) (by omega), hF⟩
end
def cI (n : Int) : List Value := [.int .i64 n]
def cB (b : Bool) : List Value := [.bool b]
theorem AT : ∀ n, (cI n).length = 1 := fun _ => rfl
theorem W0 : ∀ n, (cB n).length = 1 := fun _ => rfl
theorem BW : ∀ a, ∀ c ∈ cI a, c.oneCell' = true := fun a c hc => by simp [cI] at hc; subst hc; rfl
theorem Ms {α : Type} (f : α → Value) (l : List α) (k : Nat) (x : α) : (l.flatMap fun y => [f y]).set k (f x) = (l.set k x).flatMap fun y => [f y] := by
  induction l generalizing k with
  | nil => simp
  | cons a l ih =>
    cases k with
    | zero => simp
    | succ k => simp only [List.flatMap_cons, List.set_cons_succ, List.singleton_append]; rw [ih]
theorem W6 (n : Nat) (x : Int) : List.replicate n (Value.int .i64 x) = (List.replicate n x).flatMap cI := by
  induction n with
  | zero => rfl
  | succ n ih => rw [List.replicate_succ, List.replicate_succ, List.flatMap_cons, ih]; rfl
theorem O7 (n : Nat) (x : Bool) : List.replicate n (Value.bool x) = (List.replicate n x).flatMap cB := by
  induction n with
  | zero => rfl
  | succ n ih => rw [List.replicate_succ, List.replicate_succ, List.flatMap_cons, ih]; rfl
end Go.Eng
namespace Go.Eng
open Go.RowKit
structure FY (P : Program) (t : TypeId) (i off : Nat) : Prop where
  ex : ∃ fs f n, P.underlying t = some (.struct fs) ∧ fs[i]? = some f ∧ f.offset = off ∧ ∀ w, (sizeOf f.type).run P w = .ok (n + 1) w
structure IS (P : Program) (t : TypeId) (places : Array (Nat × Nat)) : Prop where
  ex : ∃ fs, P.underlying t = some (.struct fs) ∧ ∀ w, (fs.mapM fun f => do pure (f.offset, ← sizeOf f.type) : Sem (Array (Nat × Nat))).run P w = .ok places w
section
variable {P : Program} {o : Oper} {s : Ar} {h : Hp} {ms : List Hp} {t : TypeId} {x : Operand}
theorem Sd {i off : Nat} {p : Addr} (F : FY P t i off) (ho : o.op = .fieldAddr t x i) (hx : ev s x = some (.pointer (some p))) : OX P o s h ms (.pointer (some (p.add off))) := by
  obtain ⟨fs, f, n, h1, h2, h3, h4⟩ := F.ex
  have := Ux (h := h) (ms := ms) ho h1 h2 h4 hx
  rwa [h3] at this
theorem A6 {sz : Nat} {z : Value} {bytes : Nat} {lp : List (Nat × Operand)} {vs : List (Nat × Value)} {places : Array (Nat × Nat)} (S : IS P t places) (zl : List Value) (ps : List (Nat × List Value)) (vl : List Value) (ho : o.op = .build t lp.toArray) (hs : Elem P t sz z bytes) (hz : z.cells = zl.toArray)
    (hv : V3 s lp = some vs) (hps : Fu (places[·]?) zl.length vs ps) (hvl : My zl ps = vl) : OX P o s h ms (.agg vl.toArray) := by
  obtain ⟨fs, h1, h2⟩ := S.ex
  exact S8 zl ps vl ho h1 hs hz h2 hv hps hvl
end
theorem QS {P : Program} {w0 : World} {h0 : Hp} {ms0 : List Hp} {n : Nat} {fn : Func} {post : Value → Hp → List Hp → Prop} {s : Ar} {h : Hp} {ms : List Hp} {t : Nat} {ty : TypeId} {p : Addr} {d : TypeDesc} {sz : Nat} {z : Value} {bytes : Nat} {vs : List Value}
    (hr : fn.results = #[.cell t ty]) (hv : lk s t = some (.pointer (some p))) (ht : P.underlying ty = some d) (hd : Hw d = true) (hs : Elem P ty sz z bytes) (hl : vs.length = sz) (hc : Seg h ms p vs) (hp : post (.agg vs.toArray) h ms) :
    NX ⟨P, w0, h0, ms0, n, []⟩ (bodyPost P fn (RP w0 h0 ms0 post)) .ret s h ms := fun a w ha hw => by
  have h1 : a.tmps[t]?.getD undef = .pointer (some p) := by rw [ha.slots t _ hv]; rfl
  have hag : (isAgg ty).run P w = .ok true w := by rw [DU ht, hd]
  have hc' : ∀ j v, vs[j]? = some v → w.cell? (p.add j) = some v := fun j v e => hw.st.cell (hc j v e)
  refine bodyPost_ret (v := .agg vs.toArray) ?_ ha.defers ⟨_, h, ms, rfl, hw, hp⟩
  subst hl
  simp [results, hr, h1, asAddr, loadVar, hag, hs.sizeOf, run_loadCells_list (P := P) w p vs hc']
theorem SE {P : Program} {w0 : World} {h0 : Hp} {ms0 : List Hp} {n : Nat} {fn : Func} {post : Value → Hp → List Hp → Prop} {s : Ar} {h : Hp} {ms : List Hp} {t : Nat} {ty : TypeId} {p : Addr} {d : TypeDesc} {v : Value}
    (hr : fn.results = #[.cell t ty]) (hv : lk s t = some (.pointer (some p))) (ht : P.underlying ty = some d) (hd : Hw d = false) (hc : Cell h ms p v) (hp : post v h ms) :
    NX ⟨P, w0, h0, ms0, n, []⟩ (bodyPost P fn (RP w0 h0 ms0 post)) .ret s h ms := fun a w ha hw => by
  have h1 : a.tmps[t]?.getD undef = .pointer (some p) := by rw [ha.slots t _ hv]; rfl
  have hag : (isAgg ty).run P w = .ok false w := by rw [DU ht, hd]
  refine bodyPost_ret (v := v) ?_ ha.defers ⟨_, h, ms, rfl, hw, hp⟩
  simp [results, hr, h1, asAddr, loadVar, hag, hw.st.cell hc]
end Go.Eng
namespace Go.Eng
section
variable {e : Entry} {Q : Exit → Act → World → Prop} {s : Ar} {h : Hp} {ms : List Hp} {m : Hp} {α : Type} {F : α → List Value} {sz : Nat} {el : TypeId} {v : Value} {l : List α} {ops : Array Oper}
theorem Cb {c : Code} (O : OwnL F sz el m v l) (k : ∀ h', h.le h' → RdL F sz h' [] v l → WS e c Q s h' ms) : WS e c Q s h (m :: ms) :=
  fun a w ha hw => k _ (Hp.le_join _ _) (O.frozen (hw.st.off m List.mem_cons_self)) a w ha (Ends.freeze hw)
theorem A7 {r : List Oper} (O : OwnL F sz el m v l) (k : ∀ h', h.le h' → RdL F sz h' [] v l → WL e ops Q r s h' ms) : WL e ops Q r s h (m :: ms) :=
  fun a w ha hw => k _ (Hp.le_join _ _) (O.frozen (hw.st.off m List.mem_cons_self)) a w ha (Ends.freeze hw)
theorem Fv {x : Exit} (O : OwnL F sz el m v l) (k : ∀ h', h.le h' → RdL F sz h' [] v l → NX e Q x s h' ms) : NX e Q x s h (m :: ms) :=
  fun a w ha hw => k _ (Hp.le_join _ _) (O.frozen (hw.st.off m List.mem_cons_self)) a w ha (Ends.freeze hw)
theorem AA {c : Code} {g : Nat} {cs : List Value} (k : ∀ h', h.le h' → Seg h' [] ⟨g, 0, none⟩ cs → WS e c Q s h' ms) : WS e c Q s h (Bf g el cs :: ms) :=
  fun a w ha hw => k _ (Hp.le_join _ _) (fun j u hu => ⟨by unfold Addr.add; split <;> rfl, cs.toArray, el, (0, 0), .inl (by
    rw [CO]
    exact (Hp.join_le_right (hw.st.off _ List.mem_cons_self)) _ _ (Hp.one_self _ _)), by rw [DA]; simpa using hu⟩) a w ha (Ends.freeze hw)
theorem BF {r : List Oper} {g : Nat} {cs : List Value} (k : ∀ h', h.le h' → Seg h' [] ⟨g, 0, none⟩ cs → WL e ops Q r s h' ms) : WL e ops Q r s h (Bf g el cs :: ms) :=
  fun a w ha hw => k _ (Hp.le_join _ _) (fun j u hu => ⟨by unfold Addr.add; split <;> rfl, cs.toArray, el, (0, 0), .inl (by
    rw [CO]
    exact (Hp.join_le_right (hw.st.off _ List.mem_cons_self)) _ _ (Hp.one_self _ _)), by rw [DA]; simpa using hu⟩) a w ha (Ends.freeze hw)
theorem Bz {c : Code} (k : WS e c Q s h (Hp.emp :: ms)) : WS e c Q s h ms := fun a w ha hw => k a w ha
  ⟨⟨hw.st.imm, fun m hm => by
      rcases List.mem_cons.1 hm with rfl | hm
      · intro g o e; cases e
      · exact hw.st.own m hm, fun m hm => by
      rcases List.mem_cons.1 hm with rfl | hm
      · exact fun _ => .inl rfl
      · exact hw.st.off m hm, List.pairwise_cons.2 ⟨fun _ _ _ => .inl rfl, hw.st.apart⟩⟩, hw.os, hw.tape, hw.output, hw.size, hw.block, hw.le, hw.hnew, fun m hm k hk hne => by
      rcases List.mem_cons.1 hm with rfl | hm
      · exact absurd rfl hne
      · exact hw.mnew m hm k hk hne⟩
end
theorem Fk {α : Type} (l : List α) (p : α → Bool) (k : Nat) (hk : k < l.length) : (l.take (k + 1)).filter p = (l.take k).filter p ++ if p l[k] then [l[k]] else [] := by
  rw [List.take_succ_eq_append_getElem hk, List.filter_append]
  by_cases h : p l[k] <;> simp [h]
end Go.Eng
namespace Go.Eng
open Go.RowKit
variable {a : Act} {pu : List Nat}
def Q0 (Q : Exit → Act → World → Prop) : Exit → Act → World → Prop := fun x a w => x = .normal ∧ Q .normal a w
theorem Iy {Q : Exit → Act → World → Prop} : ¬ LetsOut (Q0 Q) := fun h => by simp [LetsOut, Q0] at h
theorem Gj {e : Entry} {Q : Exit → Act → World → Prop} {s : Ar} {h : Hp} {ms : List Hp} (k : NX e Q .normal s h ms) : NX e (Q0 Q) .normal s h ms := fun a w ha hw => ⟨rfl, k a w ha hw⟩
def PX (P : Program) (o : Oper) (s : Ar) (v : Value) : Prop := ∀ ρ, Evs s ρ → ∀ w, (execOp ρ o).run P w = .ok (.value v) w
def zA (z : Ar) (a : Act) : Act := { a with tmps := a.tmps.mapIdx fun k x => (lk z k).getD x }
theorem Jf {b : Act} (h1 : a.tmps = b.tmps) (h2 : a.defers = b.defers) : a = b := by cases a; cases b; cases h1; cases h2; rfl
theorem D9 (z : Ar) (a : Act) (t : Nat) : (zA z a).tmps[t]? = (a.tmps[t]?).map fun x => (lk z t).getD x := by simp [zA]
theorem Fs {z : Ar} {d : Option Nat} {v : Value} (h : ∀ t, d = some t → lk z t = none) : zA z (a.put d v) = (zA z a).put d v := by
  cases d with
  | none => rfl
  | some d =>
    refine Jf ?_ rfl
    apply Array.ext_getElem?
    intro i
    rw [D9]
    simp only [Act.put, Array.getElem?_setIfInBounds]
    have hs : (zA z a).tmps.size = a.tmps.size := by simp [zA]
    by_cases hd : d = i
    · subst hd
      simp only [if_true, hs]
      by_cases hlt : d < a.tmps.size
      · simp [hlt, h d rfl]
      · simp [hlt]
    · simp only [hd, if_false]
      rw [D9]
theorem IY {z : Ar} {d : Nat} {v : Value} (h : lk z d = some v) : zA z (a.put (some d) v) = zA z a := by
  refine Jf ?_ rfl
  apply Array.ext_getElem?
  intro i
  rw [D9, D9]
  simp only [Act.put, Array.getElem?_setIfInBounds]
  by_cases hd : d = i
  · subst hd
    by_cases hlt : d < a.tmps.size
    · simp [hlt, h]
    · simp [hlt]
  · simp [hd]
def JP (pu : List Nat) (ops : Array Oper) : Bool :=
  Region.noSelect ops &&
  (List.range ops.size).all fun i => match ops[i]? with
    | none => false
    | some o =>
      ((o.looksAt ops).all fun t => (List.range ops.size).all fun j => AX ops j != some t || (if pu.contains j then MF o j else (!pu.contains i || (match ops[j]? with | some oj => MF oj i | none => false)))) &&
      (if pu.contains i then o.guard.isNone && o.dst.isSome && ((List.range ops.size).all fun j => j == i || AX ops j != o.dst)
       else match o.guard with | none => true | some (j, _) => !pu.contains j)
structure Yr (pu : List Nat) (ops : Array Oper) : Prop where
  nosel : Region.noSelect ops = true
  look : ∀ i o t j, ops[i]? = some o → t ∈ o.looksAt ops → AX ops j = some t → (pu.contains j = true ∧ MF o j = true) ∨ (pu.contains j = false ∧ (pu.contains i = false ∨ ∃ oj, ops[j]? = some oj ∧ MF oj i = true))
  plain : ∀ i o, ops[i]? = some o → pu.contains i = true → o.guard = none ∧ (∃ d, o.dst = some d) ∧ ∀ j, j ≠ i → ∀ d, o.dst = some d → AX ops j ≠ some d
  guard : ∀ i o j b, ops[i]? = some o → pu.contains i = false → o.guard = some (j, b) → pu.contains j = false
theorem CD {ops : Array Oper} {j t : Nat} (h : AX ops j = some t) : j < ops.size := by
  unfold AX at h
  rcases Nat.lt_or_ge j ops.size with h' | h'
  · exact h'
  · rw [Array.getElem?_eq_none h'] at h; cases h
theorem IZ {ops : Array Oper} (h : JP pu ops = true) : Yr pu ops := by
  simp only [JP, Bool.and_eq_true, List.all_eq_true, List.mem_range] at h
  obtain ⟨h1, h2⟩ := h
  have at_ : ∀ i o, ops[i]? = some o → i < ops.size := fun i o e => (Array.getElem?_eq_some_iff.1 e).1
  refine ⟨h1, ?_, ?_, ?_⟩
  · intro i o t j e ht hd
    have := h2 i (at_ i o e)
    simp only [e, Bool.and_eq_true, List.all_eq_true, List.mem_range] at this
    have h3 := this.1 t ht j (CD hd)
    cases hc : pu.contains j with
    | true => rw [hc] at h3; simp [hd] at h3; exact .inl ⟨rfl, h3⟩
    | false =>
      rw [hc] at h3; simp [hd] at h3
      refine .inr ⟨rfl, ?_⟩
      rcases h3 with h3 | h3
      · exact .inl (by simpa using h3)
      · right
        cases hoj : ops[j]? with
        | none => rw [hoj] at h3; cases h3
        | some oj => rw [hoj] at h3; exact ⟨oj, rfl, h3⟩
  · intro i o e hi
    have := h2 i (at_ i o e)
    simp only [e, Bool.and_eq_true, hi, if_true, List.all_eq_true, List.mem_range] at this
    obtain ⟨_, ⟨g1, g2⟩, g3⟩ := this
    refine ⟨by simpa using g1, by simpa [Option.isSome_iff_exists] using g2, fun j hj d hd hdj => ?_⟩
    have := g3 j (CD hdj)
    simp [hj, hdj, hd] at this
  · intro i o j b e hi hg
    have := h2 i (at_ i o e)
    simp only [e, Bool.and_eq_true, hi, hg] at this
    simpa using this.2
section
variable {P : Program} {ops : Array Oper} {Q : Exit → Act → World → Prop}
theorem Oper.wp_sim {o : Oper} {z : Ar} {w : World} {K K' : Act → World → Prop} (hx : execOp (zA z a).eval o = execOp a.eval o) (hd : ∀ t, o.dst = some t → lk z t = none) (hK : ∀ b w v, b.tmps = (a.put o.dst v).tmps → K' (zA z b) w → K b w)
    (h : o.wp P (zA z a) w K' (Q0 Q)) : o.wp P a w K (Q0 Q) := by
  unfold Oper.wp at *
  rw [hx] at h
  generalize (execOp a.eval o).run P w = r at *
  have hv : ∀ v w, K' ((zA z a).put o.dst v) w → K (a.put o.dst v) w := fun v w hh => hK _ _ v rfl (by rw [Fs hd]; exact hh)
  cases r with
  | ok n w' =>
    cases n <;> simp only [Oper.upon] at h ⊢ <;>
      first
        | exact hv _ _ h
        | exact Calls.mono h (fun e w'' he => by
            cases e
            · exact hv _ _ he
            · exact absurd he.1 (by simp)
            · exact absurd he Iy)
        | exact Rows.mono h (fun _ _ he => hv _ _ he)
        | exact hK _ _ undef (by cases o.dst <;> rfl) (by rw [Fs hd]; exact h)
  | halt x w' => cases x <;> simp only [Oper.upon] at h ⊢ <;> first | exact h | exact absurd h.1 (by simp)
structure Yc (pu : List Nat) (ops : Array Oper) (z : Ar) (a0 a : Act) (listed : Array Bool) : Prop where
  pure : ∀ i, pu.contains i = true → listed.getD i false = true → ∀ d v, AX ops i = some d → lk z d = some v → d < a.tmps.size → a.tmps[d]? = some v
  old : ∀ t, (∀ j, AX ops j = some t → listed.getD j false = false) → a.tmps[t]? = a0.tmps[t]?
  size : a.tmps.size = a0.tmps.size
  closed : Closed ops listed
def un (pu : List Nat) (listed : Array Bool) : Array Bool := listed.mapIdx fun i b => b || pu.contains i
theorem Ha (pu : List Nat) (listed : Array Bool) (i : Nat) (b : Bool) (hi : i < listed.size) : (un pu listed).getD i b = (listed.getD i b || pu.contains i) := by
  simp [un, Array.getD_eq_getD_getElem?, hi]
theorem T6 (pu : List Nat) (listed : Array Bool) (i : Nat) : un pu (listed.setIfInBounds i true) = (un pu listed).setIfInBounds i true := by
  apply Array.ext_getElem?
  intro j
  simp only [un, Array.getElem?_mapIdx, Array.getElem?_setIfInBounds, Array.size_mapIdx]
  by_cases hij : i = j
  · subst hij
    by_cases hlt : i < listed.size <;> simp [hlt]
  · simp [hij]
theorem I8 (listed : Array Bool) {i : Nat} (h : pu.contains i = true) : un pu (listed.setIfInBounds i true) = un pu listed := by
  apply Array.ext_getElem?
  intro j
  simp only [un, Array.getElem?_mapIdx, Array.getElem?_setIfInBounds]
  by_cases hij : i = j
  · subst hij
    by_cases hlt : i < listed.size
    · have hm : i ∈ pu := by simpa using h
      simp [hlt, hm]
    · simp [hlt]
  · simp [hij]
structure YB (P : Program) (pu : List Nat) (ops : Array Oper) (s z : Ar) (n : Nat) : Prop where
  val : ∀ i o d, pu.contains i = true → ops[i]? = some o → o.dst = some d → ∃ v, lk z d = some v ∧ PX P o (z ++ s) v
  only : ∀ t v, lk z t = some v → t < n ∧ ∃ i, pu.contains i = true ∧ AX ops i = some t
theorem Rw {o : Oper} {s : Ar} {v : Value} (hs : ∀ cs b, o.op ≠ .select cs b) (hl : ∀ t ∈ o.looksAt ops, ∀ u, lk s t = some u → a.tmps[t]? = some u)
    (k : PX P o s v) (w : World) : (execOp a.eval o).run P w = .ok (.value v) w := by
  classical
  rw [execOp_congr (ρ := a.eval) (ρ' := fun x => if x ∈ o.op.operands then a.eval x else (ev s x).getD undef) o hs (fun x hx => (if_pos hx).symm)]
  refine k _ (fun x u hu => ?_) w
  show (if x ∈ o.op.operands then a.eval x else (ev s x).getD undef) = u
  split
  · rename_i hx
    cases x with
    | tmp t =>
      refine Act.eval_of_slot (hl t ?_ u hu)
      exact List.mem_append_left _ (List.mem_filterMap.2 ⟨.tmp t, by simpa using hx, rfl⟩)
    | const v => cases hu; rfl
    | global g => cases hu; rfl
    | func f => cases hu; rfl
  · rw [hu]; rfl
theorem UR {s z : Ar} {n : Nat} {ds : List Nat} {a0 : Act} (ha0 : Has n ds a0 s) (hp : Yr pu ops) (hb : ∀ i o, ops[i]? = some o → ∀ e ∈ o.after, Region.binds .any e = true → e.on < i) (hz : YB P pu ops s z n) :
    ∀ fuel fuel' listed a w, Yc pu ops z a0 a listed → listed.size = ops.size → left listed ≤ fuel → wpAny P .any ops (Q0 Q) fuel' (un pu listed) (zA z a) w → wpAny P .any ops (Q0 Q) fuel listed a w := by
  -- all is listed
  have alldone : ∀ fuel' listed a w, Yc pu ops z a0 a listed → listed.size = ops.size → (∀ j, j < ops.size → listed.getD j false = true) → wpAny P .any ops (Q0 Q) fuel' (un pu listed) (zA z a) w → Region.ready .any ops listed = [] ∧ (Q0 Q) .normal a w := by
    intro fuel' listed a w S hsz BQ H
    have noready : ∀ l' : Array Bool, (∀ j, j < ops.size → l'.getD j false = true) → Region.ready .any ops l' = [] := fun l' hl' => by
      cases hr : Region.ready .any ops l' with
      | nil => rfl
      | cons x xs =>
        have hx : x ∈ Region.ready .any ops l' := by rw [hr]; exact List.mem_cons_self
        obtain ⟨h0, o, ho, _⟩ := mem_ready.1 hx
        have := hl' x (Array.getElem?_eq_some_iff.1 ho).1
        have h2 := AY h0
        rw [Array.getD_eq_getD_getElem?, h2] at this; cases this
    have hr' := noready (un pu listed) (fun j hj => by rw [Ha _ _ _ _ (by omega), BQ j hj]; rfl)
    have hQ : (Q0 Q) .normal (zA z a) w := by
      cases fuel' with
      | zero => exact H.2
      | succ f => exact H.1 hr'
    have hza : zA z a = a := by
      refine Jf ?_ rfl
      apply Array.ext_getElem?
      intro t
      rw [D9]
      cases hl : lk z t with
      | none => simp
      | some v =>
        obtain ⟨hn, i, hi, hd⟩ := hz.only t v hl
        have hlt : t < a.tmps.size := by rw [S.size, ha0.size]; exact hn
        rw [S.pure i hi (BQ i (CD hd)) t v hd hl hlt]; rfl
    rw [hza] at hQ
    exact ⟨noready _ BQ, hQ⟩
  have hall_of : ∀ listed : Array Bool, listed.size = ops.size → left listed = 0 → ∀ j, j < ops.size → listed.getD j false = true := fun listed hsz h0 j hj => by
    have h1 := IN h0 j
    have hjlt : j < listed.size := by omega
    rw [Array.getD_eq_getD_getElem?] at h1 ⊢
    simp [hjlt] at h1 ⊢; exact h1
  intro fuel
  induction fuel with
  | zero =>
    intro fuel' listed a w S hsz hle H
    exact alldone fuel' listed a w S hsz (hall_of listed hsz (by omega)) H
  | succ fuel ih =>
    intro fuel' listed a w S hsz hle H
    refine ⟨fun hr0 => ?_, fun i hir => ?_⟩
    · -- nothing is ready: all is listed
      refine (alldone fuel' listed a w S hsz ?_ H).2
      intro j
      induction j using Nat.strongRecOn with
      | _ j ihj =>
        intro hj
        cases hl : listed.getD j false with
        | true => rfl
        | false =>
          have ho : ops[j]? = some ops[j] := by simp [hj]
          have : j ∈ Region.ready .any ops listed := mem_ready.2 ⟨by
            have hjlt : j < listed.size := by omega
            rw [Array.getD_eq_getD_getElem?] at hl ⊢
            simp [hjlt] at hl ⊢; exact hl, _, ho, fun ed hed hbd => by
              have := hb j _ ho ed hed hbd
              exact ihj _ this (by omega)⟩
          rw [hr0] at this; cases this
    · obtain ⟨hun, o, ho, BQ⟩ := mem_ready.1 hir
      have hilt : i < ops.size := (Array.getElem?_eq_some_iff.1 ho).1
      have hdi : AX ops i = o.dst := by simp [AX, ho]
      have hsel : ∀ cs b, o.op ≠ .select cs b := fun cs b => Region.noSelect_spec hp.nosel i o cs b ho
      have hls := H2 (AY hun)
      have hset : ∀ j d, (listed.setIfInBounds i true).getD j d = if j = i then true else listed.getD j d := fun j d => by
        by_cases hj : j = i
        · subst hj; simp [show j < listed.size by omega]
        · rw [getD_set_ne d (Ne.symm hj)]; simp [hj]
      -- the slots of pure ones that are looked at stand
      have hpl : ∀ t ∈ o.looksAt ops, ∀ v, lk z t = some v → a.tmps[t]? = some v ∧ ∃ j, pu.contains j = true ∧ AX ops j = some t := fun t ht v hv => by
        obtain ⟨hn, j, hj, hd⟩ := hz.only t v hv
        refine ⟨?_, j, hj, hd⟩
        rcases hp.look i o t j ho ht hd with ⟨_, h2⟩ | ⟨h2, _⟩
        · obtain ⟨e, he, hbd, rfl⟩ := En h2
          exact S.pure _ hj (BQ e he hbd) t v hd hv (by rw [S.size, ha0.size]; exact hn)
        · rw [hj] at h2; cases h2
      have hsame : ∀ t ∈ o.looksAt ops, (zA z a).tmps[t]? = a.tmps[t]? := fun t ht => by
        rw [D9]
        cases hl : lk z t with
        | none => simp
        | some v => rw [(hpl t ht v hl).1]; rfl
      have hx : execOp (zA z a).eval o = execOp a.eval o := execOp_congr o hsel fun x hx => by
        cases x with
        | tmp t =>
          have := hsame t (List.mem_append_left _ (List.mem_filterMap.2 ⟨.tmp t, by simpa using hx, rfl⟩))
          simp only [Act.eval]
          rw [Array.getD_eq_getD_getElem?, this, ← Array.getD_eq_getD_getElem?]
        | const v => rfl
        | global g => rfl
        | func f => rfl
      unfold wpOp
      simp only [ho]
      cases hc : pu.contains i with
      | true =>
        obtain ⟨hg, ⟨d, hd⟩, huq⟩ := hp.plain i o ho hc
        obtain ⟨v, hv, hpx⟩ := hz.val i o d hc ho hd
        have hw : Region.wanted o (yielded ops a.tmps) = true := by unfold Region.wanted; rw [hg]
        rw [if_pos hw]
        refine .inl ?_
        unfold Oper.wp
        rw [← hx, Rw (ops := ops) hsel (fun t ht u hu => ?_) hpx w]
        · show wpAny P .any ops (Q0 Q) fuel (listed.setIfInBounds i true) (a.put o.dst v) w
          rw [hd]
          refine ih fuel' _ _ w ⟨?_, ?_, by simp [Act.put, S.size], S.closed.set hir⟩ (by simpa using hsz) (by omega) (by rw [I8 _ hc, IY hv]; exact H)
          · intro j hj hlj d' v' hd' hv' hlt
            by_cases hji : j = i
            · subst hji; rw [hdi, hd] at hd'; cases hd'; rw [hv] at hv'; cases hv'
              simp only [Act.put]
              have : d < a.tmps.size := by simpa [Act.put] using hlt
              simp [this]
            · rw [hset] at hlj; simp only [hji, if_false] at hlj
              have hne : d ≠ d' := fun e' => huq j hji d hd (by rw [hd', e'])
              simp only [Act.put, Array.getElem?_setIfInBounds_ne hne]
              exact S.pure j hj hlj d' v' hd' hv' (by simpa [Act.put] using hlt)
          · intro t ht
            have hne : d ≠ t := fun e' => by
              have := ht i (by rw [hdi, hd, e'])
              rw [hset] at this; simp at this
            simp only [Act.put, Array.getElem?_setIfInBounds_ne hne]
            exact S.old t fun j hj => by
              have := ht j hj
              rw [hset] at this
              by_cases hji : j = i
              · simp [hji] at this
              · simpa [hji] using this
        · rw [BT] at hu
          cases hl : lk z t with
          | some v' => rw [hl] at hu; cases hu; rw [hsame t ht]; exact (hpl t ht _ hl).1
          | none =>
            rw [hl] at hu
            rw [hsame t ht, S.old t fun j hj => ?_]
            · exact ha0.slots t u hu
            · rcases hp.look i o t j ho ht hj with ⟨h1, _⟩ | ⟨_, h2⟩
              · obtain ⟨oj, hoj⟩ : ∃ oj, ops[j]? = some oj := ⟨ops[j]'(CD hj), by simp [CD hj]⟩
                have hdj : oj.dst = some t := by simpa [AX, hoj] using hj
                obtain ⟨v', hv', _⟩ := hz.val j oj t h1 hoj hdj
                rw [hl] at hv'; cases hv'
              · rcases h2 with h2 | ⟨oj, hoj, hed⟩
                · rw [hc] at h2; cases h2
                · cases hlj : listed.getD j false with
                  | false => rfl
                  | true =>
                    obtain ⟨e, he, hbd, hon⟩ := En hed
                    have h4 := S.closed j oj hlj hoj e he hbd
                    rw [hon, Array.getD_eq_getD_getElem?, AY hun] at h4; cases h4
      | false =>
        have hdz : ∀ t, o.dst = some t → lk z t = none := fun t ht => by
          cases hl : lk z t with
          | none => rfl
          | some v =>
            obtain ⟨_, j, hj, hd⟩ := hz.only t v hl
            have hji : j ≠ i := fun e' => by rw [e', hc] at hj; cases hj
            obtain ⟨oj, hoj⟩ : ∃ oj, ops[j]? = some oj := ⟨ops[j]'(CD hd), by simp [CD hd]⟩
            obtain ⟨_, _, huq⟩ := hp.plain j oj hoj hj
            exact absurd (by rw [hdi, ht]) (huq i (Ne.symm hji) t (by simpa [AX, hoj] using hd))
        have hir' : i ∈ Region.ready .any ops (un pu listed) := mem_ready.2 ⟨by rw [Ha _ _ _ _ (by omega), hun, hc]; rfl, o, ho, fun e he hbd => by
          have h1 := hb i o ho e he hbd
          rw [Ha _ _ _ _ (by omega), BQ e he hbd]; rfl⟩
        cases fuel' with
        | zero => rw [H.1] at hir'; cases hir'
        | succ fuel' =>
          have H' := H.2 i hir'
          rw [← T6] at H'
          unfold wpOp at H'
          simp only [ho] at H'
          have hwant : Region.wanted o (yielded ops (zA z a).tmps) = Region.wanted o (yielded ops a.tmps) := by
            unfold Region.wanted
            cases hg : o.guard with
            | none => rfl
            | some p =>
              obtain ⟨j, b⟩ := p
              have : yielded ops (zA z a).tmps j = yielded ops a.tmps j := by
                unfold yielded
                cases hd : (ops[j]?).bind (·.dst) with
                | none => rfl
                | some t =>
                  have ht : t ∈ o.looksAt ops := by
                    unfold Oper.looksAt
                    refine List.mem_append_right _ ?_
                    simp only [hg]
                    rw [hd]; simp
                  simp [hd, hsame t ht]
              simp only [this]
          rw [hwant] at H'
          have hnext : ∀ b w v, b.tmps = (a.put o.dst v).tmps → wpAny P .any ops (Q0 Q) fuel' (un pu (listed.setIfInBounds i true)) (zA z b) w → wpAny P .any ops (Q0 Q) fuel (listed.setIfInBounds i true) b w := fun b w v hbt hh => by
            have hbget : ∀ t, o.dst ≠ some t → b.tmps[t]? = a.tmps[t]? := fun t ht => by
              rw [hbt]
              cases hd : o.dst with
              | none => rfl
              | some d =>
                have : d ≠ t := fun e' => ht (by rw [hd, e'])
                simp only [Act.put, Array.getElem?_setIfInBounds_ne this]
            have hbs : b.tmps.size = a.tmps.size := by rw [hbt]; cases o.dst <;> simp [Act.put]
            refine ih fuel' _ b w ⟨?_, ?_, by rw [hbs, S.size], S.closed.set hir⟩ (by simpa using hsz) (by omega) hh
            · intro j hj hlj d' v' hd' hv' hlt
              have hji : j ≠ i := fun e' => by rw [e', hc] at hj; cases hj
              rw [hset] at hlj; simp only [hji, if_false] at hlj
              have hne : o.dst ≠ some d' := fun e' => by rw [hdz d' e'] at hv'; cases hv'
              rw [hbget d' hne]
              exact S.pure j hj hlj d' v' hd' hv' (by rw [← hbs]; exact hlt)
            · intro t ht
              rw [hbget t (fun e' => by
                have := ht i (by rw [hdi, e'])
                rw [hset] at this; simp at this)]
              exact S.old t fun j hj => by
                have := ht j hj
                rw [hset] at this
                by_cases hji : j = i
                · simp [hji] at this
                · simpa [hji] using this
          split
          · rename_i hw
            rw [if_pos hw] at H'
            rcases H' with H' | ⟨_, H'⟩
            · exact .inl (Oper.wp_sim hx hdz hnext H')
            · exact absurd H' Iy
          · rename_i hw
            rw [if_neg hw] at H'
            exact hnext _ _ undef rfl (by rw [Fs hdz]; exact H')
end
def zap (o : Oper) : Oper := { o with dst := none, op := .move (.const undef), after := #[], guard := none }
def DI : List Bool → List Oper → List Oper
  | true :: m, o :: l => zap o :: DI m l
  | false :: m, o :: l => o :: DI m l
  | _, l => l
def IB : List Bool → Nat → List Nat
  | [], _ => []
  | true :: m, k => k :: IB m (k + 1)
  | false :: m, k => IB m (k + 1)
theorem Py : ∀ (m : List Bool) (k i : Nat), i ∈ IB m k ↔ k ≤ i ∧ m[i - k]? = some true
  | [], k, i => by simp [IB]
  | b :: m, k, i => by
    have ih := Py m (k + 1) i
    cases b with
    | true =>
      simp only [IB, List.mem_cons, ih]
      by_cases hik : i = k
      · subst hik; simp
      · constructor
        · rintro (h | ⟨h1, h2⟩)
          · exact absurd h hik
          · refine ⟨by omega, ?_⟩
            rw [show i - k = (i - (k + 1)) + 1 by omega]; simpa using h2
        · rintro ⟨h1, h2⟩
          right
          refine ⟨by omega, ?_⟩
          rw [show i - k = (i - (k + 1)) + 1 by omega] at h2; simpa using h2
    | false =>
      simp only [IB, ih]
      by_cases hik : i = k
      · subst hik; simp; omega
      · constructor
        · rintro ⟨h1, h2⟩
          refine ⟨by omega, ?_⟩
          rw [show i - k = (i - (k + 1)) + 1 by omega]; simpa using h2
        · rintro ⟨h1, h2⟩
          refine ⟨by omega, ?_⟩
          rw [show i - k = (i - (k + 1)) + 1 by omega] at h2; simpa using h2
theorem FL (m : List Bool) (i : Nat) : (IB m 0).contains i = true ↔ m[i]? = some true := by
  rw [List.contains_iff_mem, Py]; simp
theorem HA : ∀ (m : List Bool) (l : List Oper) (i : Nat), (DI m l)[i]? = if m[i]? = some true then (l[i]?).map zap else l[i]?
  | [], l, i => by simp [DI]
  | b :: m, [], i => by cases b <;> simp [DI]
  | b :: m, o :: l, i => by
    cases b <;> cases i <;> simp [DI, HA m l]
theorem IW : ∀ (m : List Bool) (l : List Oper), (DI m l).length = l.length
  | [], l => by simp [DI]
  | b :: m, [] => by cases b <;> simp [DI]
  | b :: m, o :: l => by cases b <;> simp [DI, IW m l]
theorem TF {P : Program} {ops ops' : Array Oper} {Q : Exit → Act → World → Prop} (pu : List Nat) (hsz : ops'.size = ops.size) (hs : ∀ i, pu.contains i = false → ops'[i]? = ops[i]?)
    (hg : ∀ i o j b, ops[i]? = some o → pu.contains i = false → o.guard = some (j, b) → pu.contains j = false) :
    ∀ fuel listed a w, (∀ i, i < ops.size → pu.contains i = true → listed.getD i false = true) → wpAny P .any ops' Q fuel listed a w → wpAny P .any ops Q fuel listed a w := by
  have hready : ∀ listed : Array Bool, (∀ i, i < ops.size → pu.contains i = true → listed.getD i false = true) → ∀ i, i ∈ Region.ready .any ops listed ↔ i ∈ Region.ready .any ops' listed := by
    intro listed hl i
    have hnp : listed.getD i true = false → i < ops.size → pu.contains i = false := fun h1 h2 => by
      cases hc : pu.contains i with
      | false => rfl
      | true =>
        have := hl i h2 hc
        rw [Array.getD_eq_getD_getElem?, AY h1] at this; cases this
    constructor
    · intro h
      obtain ⟨h1, o, h2, h3⟩ := mem_ready.1 h
      exact mem_ready.2 ⟨h1, o, by rw [hs i (hnp h1 (Array.getElem?_eq_some_iff.1 h2).1)]; exact h2, h3⟩
    · intro h
      obtain ⟨h1, o, h2, h3⟩ := mem_ready.1 h
      have hlt := (Array.getElem?_eq_some_iff.1 h2).1
      exact mem_ready.2 ⟨h1, o, by rw [← hs i (hnp h1 (by omega))]; exact h2, h3⟩
  have hempty : ∀ listed : Array Bool, (∀ i, i < ops.size → pu.contains i = true → listed.getD i false = true) → Region.ready .any ops listed = [] → Region.ready .any ops' listed = [] := fun listed hl h => by
    cases hr : Region.ready .any ops' listed with
    | nil => rfl
    | cons x xs =>
      have := (hready listed hl x).2 (by rw [hr]; exact List.mem_cons_self)
      rw [h] at this; cases this
  have hempty' : ∀ listed : Array Bool, (∀ i, i < ops.size → pu.contains i = true → listed.getD i false = true) → Region.ready .any ops' listed = [] → Region.ready .any ops listed = [] := fun listed hl h => by
    cases hr : Region.ready .any ops listed with
    | nil => rfl
    | cons x xs =>
      have := (hready listed hl x).1 (by rw [hr]; exact List.mem_cons_self)
      rw [h] at this; cases this
  intro fuel
  induction fuel with
  | zero => intro listed a w hl H; exact ⟨hempty' listed hl H.1, H.2⟩
  | succ fuel ih =>
    intro listed a w hl H
    refine ⟨fun h => H.1 (hempty listed hl h), fun i hi => ?_⟩
    have H' := H.2 i ((hready listed hl i).1 hi)
    obtain ⟨h1, o, ho, _⟩ := mem_ready.1 hi
    have hnp : pu.contains i = false := by
      cases hc : pu.contains i with
      | false => rfl
      | true =>
        have := hl i (Array.getElem?_eq_some_iff.1 ho).1 hc
        rw [Array.getD_eq_getD_getElem?, AY h1] at this; cases this
    have hl' : ∀ j, j < ops.size → pu.contains j = true → (listed.setIfInBounds i true).getD j false = true := fun j hj hc => getD_set_true (hl j hj hc)
    unfold wpOp at H' ⊢
    rw [hs i hnp] at H'
    simp only [ho] at H' ⊢
    have hy : Region.wanted o (yielded ops' a.tmps) = Region.wanted o (yielded ops a.tmps) := by
      unfold Region.wanted
      cases hgu : o.guard with
      | none => rfl
      | some p =>
        obtain ⟨j, b⟩ := p
        have : yielded ops' a.tmps j = yielded ops a.tmps j := by
          unfold yielded; rw [hs j (hg i o j b ho hnp hgu)]
        simp only [this]
    rw [hy] at H'
    split
    · rename_i hw
      rw [if_pos hw] at H'
      exact H'.imp (Oper.wp_mono fun a w h => ih _ a w hl' h) id
    · rename_i hw
      rw [if_neg hw] at H'
      exact ih _ _ _ hl' H'
def PZ (P : Program) (l : List Oper) (n : Nat) (s : Ar) (K : Ar → Prop) : List Nat → Ar → Prop
  | [], z => K z
  | i :: r, z => ∃ o d v, l[i]? = some o ∧ o.dst = some d ∧ d < n ∧ lk (z ++ s) d = none ∧ PX P o (z ++ s) v ∧ PZ P l n s K r ((d, v) :: z)
theorem PX.mono {P : Program} {o : Oper} {s : Ar} {v : Value} {d : Nat} {u : Value} (h : PX P o s v) (hd : lk s d = none) : PX P o ((d, u) :: s) v := fun ρ hρ w =>
  h ρ (fun x u' hx => hρ x u' (by
    cases x with
    | tmp t =>
      have : d ≠ t := fun e => by subst e; simp only [ev] at hx; rw [hd] at hx; cases hx
      simp only [ev] at hx ⊢; rw [Bd _ _ this]; exact hx
    | const v => exact hx
    | global g => exact hx
    | func f => exact hx)) w
theorem Qv {P : Program} {l : List Oper} {n : Nat} {s : Ar} {K : Ar → Prop} : ∀ (r done : List Nat) (z : Ar),
    (∀ i ∈ done, ∀ o d, l[i]? = some o → o.dst = some d → ∃ v, lk z d = some v ∧ PX P o (z ++ s) v) → (∀ t v, lk z t = some v → t < n ∧ ∃ i ∈ done, AX l.toArray i = some t) → PZ P l n s K r z →
    ∃ zf, K zf ∧ (∀ i, i ∈ done ∨ i ∈ r → ∀ o d, l[i]? = some o → o.dst = some d → ∃ v, lk zf d = some v ∧ PX P o (zf ++ s) v) ∧ (∀ t v, lk zf t = some v → t < n ∧ ∃ i, (i ∈ done ∨ i ∈ r) ∧ AX l.toArray i = some t)
  | [], done, z, h1, h2, h3 => ⟨z, h3, fun i hi => h1 i (hi.resolve_right (by simp)), fun t v hv => by
      obtain ⟨g1, i, g2, g3⟩ := h2 t v hv
      exact ⟨g1, i, .inl g2, g3⟩⟩
  | j :: r, done, z, h1, h2, ⟨o, d, v, e1, e2, e3, e4, e5, e6⟩ => by
    have hzd : lk z d = none := by
      rw [BT] at e4
      cases hl : lk z d with
      | none => rfl
      | some u => rw [hl] at e4; cases e4
    obtain ⟨zf, g1, g2, g3⟩ := Qv r (j :: done) ((d, v) :: z) (fun i hi o' d' ho' hd' => by
      rcases List.mem_cons.1 hi with rfl | hi
      · rw [e1] at ho'; cases ho'; rw [e2] at hd'; cases hd'
        exact ⟨v, Bj _ _ _, e5.mono e4⟩
      · obtain ⟨v', f1, f2⟩ := h1 i hi o' d' ho' hd'
        refine ⟨v', ?_, f2.mono e4⟩
        have : d ≠ d' := fun e => by subst e; rw [hzd] at f1; cases f1
        rw [Bd _ _ this]; exact f1) (fun t u hu => by
      by_cases hdt : d = t
      · subst hdt; exact ⟨e3, j, by simp, by simp [AX, e1, e2]⟩
      · rw [Bd _ _ hdt] at hu
        obtain ⟨f1, i, f2, f3⟩ := h2 t u hu
        exact ⟨f1, i, List.mem_cons_of_mem _ f2, f3⟩) e6
    refine ⟨zf, g1, fun i hi => g2 i ?_, fun t u hu => ?_⟩
    · rcases hi with hi | hi
      · exact .inl (List.mem_cons_of_mem _ hi)
      · rcases List.mem_cons.1 hi with rfl | hi
        · exact .inl List.mem_cons_self
        · exact .inr hi
    · obtain ⟨f1, i, f2, f3⟩ := g3 t u hu
      refine ⟨f1, i, ?_, f3⟩
      rcases f2 with f2 | f2
      · rcases List.mem_cons.1 f2 with rfl | f2
        · exact .inr List.mem_cons_self
        · exact .inl f2
      · exact .inr (List.mem_cons_of_mem _ f2)
def HF (ops : Array Oper) : Bool := (List.range ops.size).all fun i => match ops[i]? with | none => false | some o => backs o i
theorem HH {ops : Array Oper} (h : HF ops = true) : ∀ i o, ops[i]? = some o → ∀ e ∈ o.after, Region.binds .any e = true → e.on < i := by
  intro i o e ed hed hb
  simp only [HF, List.all_eq_true, List.mem_range] at h
  have := h i (Array.getElem?_eq_some_iff.1 e).1
  simp only [e] at this
  have h4 := Array.all_eq_true_iff_forall_mem.1 this ed hed
  simp [hb] at h4
  exact h4
theorem CS {e : Entry} {id : Nat} {l : List Oper} {Q : Exit → Act → World → Prop} {s : Ar} {h : Hp} {ms : List Hp} (np : Nat) (m : List Bool) (hm : e.P.follows .mixedOrders = true) (hp : NH (IB m 0) (DI m l).toArray np = true) (hpu : JP (IB m 0) l.toArray = true) (hbk : HF l.toArray = true)
    (k : PZ e.P l e.n s (fun z => Io e.n ((DI m l).take np) (z ++ s) = true ∧ WR e (DI m l).toArray (Q0 Q) ((DI m l).drop np) h ms ((DI m l).take np) (z ++ s) [] []) (IB m 0) []) : WS e (.region id l.toArray true) Q s h ms := by
  intro a w ha hw
  obtain ⟨z, ⟨hf, kw⟩, hz1, hz2⟩ := Qv _ [] [] (by simp) (fun t v hv => by cases hv) k
  have P := Kt hp
  have PO := IZ hpu
  have HB := HH hbk
  have hlen : (DI m l).length = l.length := IW m l
  have hmem : ∀ i, (IB m 0).contains i = true ↔ i ∈ IB m 0 := fun i => List.contains_iff_mem
  have hZ : YB e.P (IB m 0) l.toArray s z e.n := ⟨fun i o d hi ho hd => hz1 i (.inr ((hmem i).1 hi)) o d (by simpa using ho) hd, fun t v hv => by
    obtain ⟨g1, i, g2, g3⟩ := hz2 t v hv
    exact ⟨g1, i, (hmem i).2 (g2.resolve_left (by simp)), g3⟩⟩
  refine wp_region_any hm (Q := Q) ?_
  have hq : wpAny e.P .any l.toArray (Q0 Q) l.toArray.size (Array.replicate l.toArray.size false) a { w with drawn := w.drawn + 1 } := by
    refine UR ha PO HB hZ _ l.toArray.size _ a _ ⟨fun i _ hi => (by rw [BB] at hi; cases hi), fun _ _ => rfl, rfl, fun i o hi => (by rw [BB] at hi; cases hi)⟩ (by simp) (by
      unfold left; rw [Array.toList_replicate]; exact Nat.le_trans (List.countP_le_length) (by simp)) ?_
    have hug : ∀ i, (un (IB m 0) (Array.replicate l.toArray.size false)).getD i false = (IB m 0).contains i := fun i => by
      rcases Nat.lt_or_ge i l.length with hi | hi
      · rw [Ha _ _ _ _ (by simpa using hi), BB]; rfl
      · rw [Array.getD_eq_getD_getElem?, Array.getElem?_eq_none (by simpa [un] using hi)]
        cases hc : (IB m 0).contains i with
        | false => rfl
        | true =>
          have h1 := P.low i hc
          simp [hlen] at h1; omega
    refine TF (ops' := (DI m l).toArray) (IB m 0) (by simp [hlen]) (fun i hi => ?_) PO.guard _ _ _ _ (fun i hi hc => by rw [hug]; exact hc) ?_
    · have : ¬ m[i]? = some true := fun h' => by rw [(FL m i).2 h'] at hi; cases hi
      simp only [List.getElem?_toArray]
      rw [HA, if_neg this]
    · refine Nz np hp hf kw (by simp [un, hlen]) hug (fun i o hi ho ed hed hb => ?_) (fun i hi => ?_) ?_ ⟨ha.defers, by simp [zA, ha.size], fun t u hu => ?_⟩ hw
      · rw [hug] at hi
        have := (FL m i).1 hi
        simp only [List.getElem?_toArray] at ho
        rw [HA, if_pos this] at ho
        cases hl : l[i]? with
        | none => rw [hl] at ho; cases ho
        | some o' => rw [hl] at ho; cases ho; simp [zap] at hed
      · have := (FL m i).1 hi
        unfold AX
        simp only [List.getElem?_toArray]
        rw [HA, if_pos this]
        cases l[i]? <;> rfl
      · unfold left
        refine Nat.le_trans (List.countP_le_length) ?_
        simp [un]
      · rw [D9]
        rw [BT] at hu
        cases hl : lk z t with
        | some v =>
          rw [hl] at hu; cases hu
          have hlt : t < a.tmps.size := by rw [ha.size]; exact (hz2 t _ hl).1
          simp [hlt]
        | none => rw [hl] at hu; rw [ha.slots t u hu]; rfl
  -- the end alone
  have hmono : ∀ fuel listed a w, wpAny e.P .any l.toArray (Q0 Q) fuel listed a w → wpAny e.P .any l.toArray Q fuel listed a w := by
    intro fuel
    induction fuel with
    | zero => intro listed a w H; exact ⟨H.1, H.2.2⟩
    | succ fuel ih =>
      intro listed a w H
      refine ⟨fun h => (H.1 h).2, fun i hi => ?_⟩
      have H' := H.2 i hi
      unfold wpOp at H' ⊢
      split
      · rename_i ho; simp only [ho] at H'; exact ih _ _ _ H'
      · rename_i o ho
        simp only [ho] at H'
        split
        · rename_i hw
          rw [if_pos hw] at H'
          rcases H' with H' | ⟨_, H'⟩
          · refine .inl ?_
            unfold Oper.wp at *
            generalize (execOp a.eval o).run e.P w = r at *
            cases r with
            | ok n w' =>
              cases n <;> simp only [Oper.upon] at H' ⊢ <;>
                first
                  | exact ih _ _ _ H'
                  | exact Calls.mono H' (fun x w'' he => by
                      cases x
                      · exact ih _ _ _ he
                      · exact absurd he.1 (by simp)
                      · exact absurd he Iy)
                  | exact Rows.mono H' (fun _ _ he => ih _ _ _ he)
            | halt x w' => cases x <;> simp only [Oper.upon] at H' ⊢ <;> first | exact H' | exact absurd H'.1 (by simp)
          · exact absurd H' Iy
        · rename_i hw
          rw [if_neg hw] at H'
          exact ih _ _ _ H'
  exact hmono _ _ _ _ hq
section
variable {P : Program} {l : List Oper} {n : Nat} {s z : Ar} {K : Ar → Prop} {r : List Nat} {i d : Nat} {o : Oper} {v : Value}
theorem Dq (ho : l[i]? = some o) (hd : o.dst = some d) (hn : Nat.blt d n = true) (hf : lk (z ++ s) d = none) (hx : PX P o (z ++ s) v) (k : PZ P l n s K r ((d, v) :: z)) : PZ P l n s K (i :: r) z :=
  ⟨o, d, v, ho, hd, Nat.le_of_ble_eq_true hn, hf, hx, k⟩
theorem BM {x : Operand} (ho : o.op = .move x) (hx : ev s x = some v) : PX P o s v := fun ρ hρ w => by simp [execOp, ho, hρ _ _ hx]
end
section
variable {e : Entry} {ops : Array Oper} {Q : Exit → Act → World → Prop} {tl : List Oper} {h : Hp} {ms : List Hp} {l : List Oper} {o : Oper} {s : Ar} {q : List (Nat × VP)} {al : List (Nat × Nb)}
theorem Dl (hd : o.dst = none) (hg : o.guard = none) (ho : o.op = .move (.const undef)) (k : WR e ops Q tl h ms l s q al) : WR e ops Q tl h ms (o :: l) s q al :=
  .inl ⟨undef, .inl ⟨.plain hg, Au ho rfl⟩, by rw [hd]; exact k⟩
end
end Go.Eng
namespace Go.Eng
open Go.RowKit
section
variable {P : Program} {o : Oper} {s : Ar} {t u : TypeId} {x y : Operand} {a b : Int}
theorem L9 (ho : o.op = .binOp .add t x y u) (hx : ev s x = some (.int .i64 a)) (hy : ev s y = some (.int .i64 b)) (hr : -9223372036854775808 ≤ a + b ∧ a + b ≤ 9223372036854775807) : PX P o s (.int .i64 (a + b)) := fun ρ hρ w => by
  have : (execOp ρ o).run P w = .ok (.value (.int .i64 (IntKind.i64.wrap (a + b)))) w := by simp [execOp, ho, hρ _ _ hx, hρ _ _ hy, go_sem]
  rwa [Dd hr] at this
theorem Ma (ho : o.op = .binOp .sub t x y u) (hx : ev s x = some (.int .i64 a)) (hy : ev s y = some (.int .i64 b)) (hr : -9223372036854775808 ≤ a - b ∧ a - b ≤ 9223372036854775807) : PX P o s (.int .i64 (a - b)) := fun ρ hρ w => by
  have : (execOp ρ o).run P w = .ok (.value (.int .i64 (IntKind.i64.wrap (a - b)))) w := by simp [execOp, ho, hρ _ _ hx, hρ _ _ hy, go_sem]
  rwa [Dd hr] at this
end
section
variable {e : Entry} {Q : Exit → Act → World → Prop} {ops : Array Oper} {rest : List Oper} {o : Oper} {s : Ar} {h : Hp} {ms : List Hp} {α : Type} {F : α → List Value} {l : List α} {v : Value} {m : Hp} {el : TypeId} {sz : Nat}
theorem Sj {t : TypeId} {x y : Operand} {u : Value} {z : Value} {bytes k : Nat} {l' : List α} (i : Nat) (O : OwnL F sz el m v l) (ho : o.op = .store t x y) (hs : Elem e.P t 1 z bytes) (hx : ev s x = some (.pointer (some ((AI v).add k)))) (hy : ev s y = some u) (h1 : u.oneCell' = true)
    (hm : ms[i]? = some m) (hk : k < l.length * sz) (hset : (l.flatMap F).set k u = l'.flatMap F) (hl : l'.length = l.length) (hd : o.dst = none) (hg : o.guard = none)
    (K : ∀ m', OwnL F sz el m' v l' → WL e ops Q rest s h (ms.set i m')) : WL e ops Q (o :: rest) s h ms := by
  obtain ⟨⟨h2, h3⟩, hF⟩ := O
  rcases h3 with ⟨rfl, h4, rfl⟩ | ⟨g, cap, spare, rfl, rfl, e1, e2, e3⟩
  · rw [h4] at hk; simp at hk
  · refine AK i k ho hs hx hy h1 hm rfl (by rw [List.length_append]; omega) hd hg (K _ ⟨⟨?_, .inr ⟨g, cap, spare, by rw [hl], ?_, ?_, by omega, e3⟩⟩, hF⟩)
    · rw [← hset, List.length_set, h2, hl]
    · rw [List.set_append_left _ _ (by omega), hset]
    · rw [← hset, List.length_append, List.length_set, ← List.length_append]; exact e1
theorem FM {f : α → Value} {t : TypeId} {x y : Operand} {z : Value} {bytes : Nat} {a : α} (i j : Nat) (hF : ∀ x, F x = [f x]) (O : OwnL F 1 el m v l) (ho : o.op = .store t x y) (hs : Elem e.P t 1 z bytes) (hx : ev s x = some (.pointer (some ((AI v).add (j * 1))))) (hy : ev s y = some (f a)) (h1 : (f a).oneCell' = true)
    (hm : ms[i]? = some m) (hj : j < l.length) (hd : o.dst = none) (hg : o.guard = none)
    (K : ∀ m', OwnL F 1 el m' v (l.set j a) → WL e ops Q rest s h (ms.set i m')) : WL e ops Q (o :: rest) s h ms := by
  have hF' : F = fun y => [f y] := funext hF
  refine Sj i O ho hs hx hy h1 hm (by omega) ?_ (by simp) hd hg K
  rw [hF', Nat.mul_one]
  exact Ms f l j a
end
end Go.Eng
namespace Go.Eng
open Go.RowKit
theorem FnV.ofCalls {P : Program} {f : FuncId} {args : Array Value} {h : Hp} {ms : List Hp} {v : Value} (k : ∀ w, Calls P f args w (fun e w' => e = .returned v ∧ w' = w)) : FnV P f args h ms v :=
  fun w hw => (k w).mono fun x w' ⟨e1, e2⟩ => ⟨e1, by rw [e2]; exact Ext.refl _⟩
theorem Of {n : Int} (hn : 0 ≤ n ∧ n ≤ 18446744073709551615) : IntKind.u64.wrap n = n := IntWalk.u64_in n hn
section
variable {P : Program} {o : Oper} {s : Ar} {h : Hp} {ms : List Hp} {t u : TypeId} {x y : Operand} {a b n : Nat} {k : IntKind}
theorem EW (ho : o.op = .binOp .shr t x y u) (hx : ev s x = some (.int .u64 a)) (hy : ev s y = some (.int k n)) (hn : n ≤ 64) : OX P o s h ms (.int .u64 ((a / 2 ^ n : Nat) : Int)) :=
  By fun ρ w hρ _ => by
    have h1 : ¬ ((n : Int) < 0) := by omega
    have h2 : min n 64 = n := Nat.min_eq_left hn
    have h3 : (a : Int).fdiv (2 ^ n) = ((a / 2 ^ n : Nat) : Int) := by
      rw [Int.fdiv_eq_ediv_of_nonneg _ (Int.le_of_lt (Int.pow_pos (by decide)))]; simp
    simp [execOp, ho, hρ _ _ hx, hρ _ _ hy, Op.shift, h1, IntKind.bits, h2, h3, go_sem]
end
end Go.Eng
namespace Go.Eng
open Go.RowKit
variable {cs : List Value} {el : TypeId} {g : Nat}
section
variable {e : Entry} {Q : Exit → Act → World → Prop} {ops : Array Oper} {rest : List Oper} {o : Oper} {s : Ar} {h : Hp} {ms : List Hp}
theorem Ow {x : Operand} {f : FuncId} {l : List Operand} {ts : Array TypeId} {fs vs : List Value} {d j dj : Nat} {b : Bool} {oj : Oper} {pre fr : List Hp} {post : Value → Hp → List Hp → Prop} (ho : o.op = .call { callee := .value x, args := l.toArray, argTypes := ts }) (hx : ev s x = some (.func (.func f) fs.toArray cs.toArray)) (hc : ∀ az w, (callFunc f az).run e.P w = .ok (.enter f az) w) (ha : MI s l = some vs) (k : FnT e.P f (fs ++ vs ++ cs).toArray h pre post) (hm : ms = pre ++ fr) (hd : o.dst = some d) (hn : Nat.blt d e.n = true) (hg : o.guard = some (j, b)) (hj : ops[j]? = some oj) (hdj : oj.dst = some dj) (hv : lk s dj = some (.bool b))
    (K : ∀ v h' pre', h.le h' → post v h' pre' → WL e ops Q rest ((d, v) :: s) h' (pre' ++ fr)) : WL e ops Q (o :: rest) s h ms := by
  subst hm
  exact X0 (Ng ho hx hc ha k) hd hn hg hj hdj hv fun v h' ms' ⟨pre', e1, e2, e3⟩ => by subst e1; exact K v h' pre' e2 e3
theorem NJ {t t2 : TypeId} {x y : Operand} {a : Addr} {of dLen dCap sLen d n : Nat} {u z : Value} {bytes : Nat} {cur : List Value} (i : Nat) (ho : o.op = .call { callee := .builtin .copy, args := #[x, y], argTypes := #[t, t2] }) (ht : e.P.underlying t = some (.slice el)) (hs : Elem e.P el 1 z bytes)
    (hx : ev s x = some (.slice (some a) dLen dCap)) (hy : ev s y = some u) (ha : a = ⟨g, of, none⟩) (R : Rd h ms u 1 sLen cs) (h0 : 0 < sLen) (hn : n = min sLen dLen) (hm : ms[i]? = some (Bf g el cur)) (hfit : of + n ≤ cur.length) (h1 : ∀ c ∈ cs, c.oneCell' = true)
    (hd : o.dst = some d) (hnd : Nat.blt d e.n = true) (hg : o.guard = none) (K : WL e ops Q rest ((d, .int .i64 n) :: s) h (ms.set i (Bf g el (cur.take of ++ cs.take n ++ cur.drop (of + n))))) : WL e ops Q (o :: rest) s h ms := by
  subst ha
  obtain ⟨a, c, rfl, e2, e3, e4, e5⟩ := R.ex
  obtain ⟨q, rfl, hq⟩ := e5 h0
  have hl : (cs.take n).length = n := by rw [List.length_take, e4, Nat.mul_one]; omega
  refine II (post := fun v h' ms' => v = .int .i64 n ∧ h' = h ∧ ms' = ms.set i (Bf g el (cur.take of ++ cs.take n ++ cur.drop (of + n)))) (fun ρ w hρ hw => ?_) hd hnd hg fun v h' ms' ⟨e1, e2, e3⟩ => by subst e1 e2 e3; exact K
  have hgw : w.heap[g]? = some (.cells cur.toArray el (0, 0)) := hw.st.own _ (List.mem_of_getElem? hm) g _ (Hp.one_self _ _)
  have hrun := run_copy_row (P := e.P) w t t2 o.type el g of dLen dCap q sLen c cur.toArray el (cs.take n) ht (by
    have := hs.sizeOf w
    cases hq' : e.P.info? el with
    | none => simp [Go.sizeOf, Go.typeInfo, hq', go_sem] at this
    | some inf => simp [Go.sizeOf, Go.typeInfo, hq', go_sem] at this; simp [this]) hgw (by rw [hl]; exact hn) (fun j v hv => hw.st.cell (hq j v (by
      rw [List.getElem?_take] at hv; split at hv; · exact hv
      · cases hv))) (by rw [hl]; simpa using hfit) (fun v hv => h1 v (List.mem_of_mem_take hv))
  rw [hl] at hrun
  have : (execOp ρ o).run e.P w = .ok (.value (.int .i64 n)) (w.setRow g (cur.take of ++ cs.take n ++ cur.drop (of + n)).toArray) := by
    simp [execOp, ho, hρ _ _ hx, hρ _ _ hy, resolve, invoke, builtin, hrun, goInt]
  unfold OpRes; rw [this]
  exact ⟨h, _, Ends.put hw hm rfl ⟨rfl, Nat.le_refl _⟩ rfl (by simp) (setRow_heap w g _ _ _ _ hgw) (fun j hj hne => setRow_other w g j _ hne), rfl, rfl, rfl⟩
end
section
variable {e : Entry} {Q : Exit → Act → World → Prop} {ops : Array Oper} {rest : List Oper} {s : Ar} {h : Hp} {ms : List Hp}
theorem Hl {α : Type} : ∀ (l : List α) (i : Nat) (x : α), l[i]? = some x → l.Perm (x :: l.eraseIdx i)
  | [], _, _, h => by cases h
  | a :: l, 0, x, h => by simp at h; subst h; exact List.Perm.refl _
  | a :: l, i + 1, x, h => by
    rw [List.eraseIdx_cons_succ]
    exact ((Hl l i x (by simpa using h)).cons a).trans (List.Perm.swap _ _ _)
theorem Dr {c : Code} (i : Nat) (hm : ms[i]? = some (Bf g el cs)) (k : ∀ h', h.le h' → Seg h' [] ⟨g, 0, none⟩ cs → WS e c Q s h' (ms.eraseIdx i)) : WS e c Q s h ms :=
  Jq (Hl ms i _ hm) (AA k)
theorem J0 (i : Nat) (hm : ms[i]? = some (Bf g el cs)) (k : ∀ h', h.le h' → Seg h' [] ⟨g, 0, none⟩ cs → WL e ops Q rest s h' (ms.eraseIdx i)) : WL e ops Q rest s h ms :=
  Mp (Hl ms i _ hm) (BF k)
end
end Go.Eng
namespace Go.Eng
open Go.RowKit
section
variable {e : Entry} {ops : Array Oper} {Q : Exit → Act → World → Prop} {tl : List Oper} {h : Hp} {ms : List Hp} {l : List Oper} {o : Oper} {s : Ar} {q : List (Nat × VP)} {al : List (Nat × Nb)}
end
end Go.Eng
namespace Go.Eng
open Go.RowKit
section
variable {e : Entry} {Q : Exit → Act → World → Prop} {ops : Array Oper} {rest : List Oper} {o : Oper} {s : Ar} {h : Hp} {ms : List Hp}
theorem J3 {j dj : Nat} {b : Bool} {oj : Oper} (hg : o.guard = some (j, b)) (hj : ops[j]? = some oj) (hdj : oj.dst = some dj) (hv : lk s dj = some (.bool b))
    (k : WL e ops Q ({ o with guard := none } :: rest) s h ms) : WL e ops Q (o :: rest) s h ms := fun a w ha hw => by
  have h1 := k a w ha hw
  unfold wpList at h1 ⊢
  rw [if_pos (by simp [Region.wanted])] at h1
  rw [if_pos (by simp [Region.wanted, hg, ha.yields hj hdj hv])]
  exact h1
end
end Go.Eng
namespace Go.Eng
open Go.RowKit Go.ChangeShapes Go.WideShapes Go.Deep
def whole (w : World) : Hp := fun g => w.heap[g]?
theorem St.whole (w : World) : St w (whole w) [] := ⟨fun _ _ h => h, by simp, by simp, List.Pairwise.nil⟩
theorem Cell.ofW {w : World} {ms : List Hp} {a : Addr} {v : Value} (h : w.cell? a = some v) : Cell (whole w) ms a v := by
  unfold World.cell? at h
  split at h
  · rename_i c el fr hb
    split at h
    · cases h
    · rename_i hs
      exact ⟨by simpa using hs, c, el, fr, .inl hb, h⟩
  · cases h
theorem I5 {α : Type} {Q : Nat → α → Prop} : ∀ n, (∀ i, i < n → ∃ a, Q i a) → ∃ l : List α, l.length = n ∧ ∀ i (hi : i < l.length), Q i l[i]
  | 0, _ => ⟨[], rfl, fun i hi => by simp at hi⟩
  | n + 1, h => by
    obtain ⟨l, hl, hq⟩ := I5 n fun i hi => h i (by omega)
    obtain ⟨a, ha⟩ := h n (by omega)
    refine ⟨l ++ [a], by simp [hl], fun i hi => ?_⟩
    rw [List.getElem_append]
    split
    · exact hq i (by assumption)
    · have : i = n := by simp at hi; omega
      subst this; simpa using ha
section
variable {H : Type} {enc : TypeId × Value → H} {P : Program} {w : World} {base : Nat} {spare : Nat → Bool} {held : Bool}
theorem M8 {α : Type} {F : α → List Value} {Ok : α → Prop} {sz : Nat} {t e : TypeId} {fuel : Nat} {v : Value} {x : DataW H × List MemPlace} (ht : P.underlying t = some (.slice e)) (hC : P.cellsOf e = sz) (hF : ∀ x, (F x).length = sz) (hsz : 0 < sz)
    (hel : ∀ n cs y, DataW.trod enc P w base spare held n e cs = some y → ∃ a, cs = F a ∧ Ok a) (h : DataW.trod enc P w base spare held fuel t [v] = some x) : ∃ l, RdL F sz (whole w) [] v l ∧ ∀ a ∈ l, Ok a := by
  rcases open_slice ht h with ⟨h0, _⟩ | ⟨a, len, cap, m, n, D, Pl, hcs, hb, hl, hm, hmm, hx, hi⟩
  · simp only [List.cons.injEq, and_true] at h0
    subst h0
    exact ⟨[], ⟨⟨none, 0, rfl, by simp, by omega, by simp, fun h => by simp at h⟩, hF⟩, by simp⟩
  · simp only [List.cons.injEq, and_true] at hcs
    subst hcs
    rw [hC] at hi
    have hlm : len ≤ m := by rw [hmm]; split <;> omega
    obtain ⟨l, hll, hq⟩ := I5 (α := α) (Q := fun i b => w.cells? base (a.add (i * sz)) sz = some (F b) ∧ Ok b) len fun i hi' => by
      obtain ⟨cs, h1, h2⟩ := hi i (by omega)
      obtain ⟨b, rfl, h3⟩ := hel n cs _ h2
      exact ⟨b, h1, h3⟩
    refine ⟨l, ⟨⟨some a, cap, by rw [hll], by omega, by unfold maxLen at hm; omega, Be hF l, fun _ => ⟨a, rfl, fun j u hj => ?_⟩⟩, hF⟩, fun b hb => ?_⟩
    · have hjl := (List.getElem?_eq_some_iff.1 hj).1
      rw [Be hF l] at hjl
      have h1 : j / sz < l.length := Nat.div_lt_of_lt_mul (by rw [Nat.mul_comm]; exact hjl)
      have h2 : j % sz < sz := Nat.mod_lt _ hsz
      have h3 : j / sz * sz + j % sz = j := by rw [Nat.mul_comm]; exact Nat.div_add_mod j sz
      have h4 := F9 hF l (j / sz) h1 (j % sz) ((F l[j / sz])[j % sz]'(by rw [hF]; exact h2)) (List.getElem?_eq_getElem _)
      rw [h3, hj] at h4
      have h5 := Option.some.inj h4
      obtain ⟨_, _, hat⟩ := World.cells?_some (hq (j / sz) h1).1
      have h6 := hat (j % sz) h2
      rw [C5, h3] at h6
      refine Cell.ofW (h6.trans ?_)
      rw [List.getElem?_eq_getElem (by rw [hF]; exact h2), ← h5]
    · obtain ⟨i, hi', rfl⟩ := List.getElem_of_mem hb
      exact (hq i hi').2
end
end Go.Eng
namespace Go.Eng
open Go.RowKit
section
variable {P : Program} {o : Oper} {s : Ar} {h : Hp} {ms : List Hp} {x y z u : Operand} {a b c d : Int} {k k1 k2 k3 : IntKind} {ts : Array TypeId}
end
end Go.Eng
namespace Go.Eng
open Go.RowKit
section
variable {P : Program} {o : Oper} {s : Ar} {h : Hp} {ms : List Hp} {t el : TypeId} {x lo hi : Operand} {z v : Value} {bytes sz n : Nat} {cs : List Value} {k k' : IntKind}
end
end Go.Eng
namespace Go.Eng
open Go.RowKit
section
variable {e : Entry} {ops : Array Oper} {Q : Exit → Act → World → Prop} {fuel : Nat} {listed : Array Bool} {s : Ar} {h : Hp} {ms : List Hp}
theorem WN {P : Program} : ∀ fuel listed a w, wpAny P .any ops (Q0 Q) fuel listed a w → wpAny P .any ops Q fuel listed a w := by
  intro fuel
  induction fuel with
  | zero => intro listed a w H; exact ⟨H.1, H.2.2⟩
  | succ fuel ih =>
    intro listed a w H
    refine ⟨fun h => (H.1 h).2, fun i hi => ?_⟩
    have H' := H.2 i hi
    unfold wpOp at H' ⊢
    split
    · rename_i ho; simp only [ho] at H'; exact ih _ _ _ H'
    · rename_i o ho
      simp only [ho] at H'
      split
      · rename_i hw
        rw [if_pos hw] at H'
        rcases H' with H' | ⟨_, H'⟩
        · refine .inl ?_
          unfold Oper.wp at *
          generalize (execOp a.eval o).run P w = r at *
          cases r with
          | ok n w' =>
            cases n <;> simp only [Oper.upon] at H' ⊢ <;>
              first
                | exact ih _ _ _ H'
                | exact Calls.mono H' (fun x w'' he => by
                    cases x
                    · exact ih _ _ _ he
                    · exact absurd he.1 (by simp)
                    · exact absurd he Iy)
                | exact Rows.mono H' (fun _ _ he => ih _ _ _ he)
          | halt x w' => cases x <;> simp only [Oper.upon] at H' ⊢ <;> first | exact H' | exact absurd H'.1 (by simp)
        · exact absurd H' Iy
      · rename_i hw
        rw [if_neg hw] at H'
        exact ih _ _ _ H'
end
end Go.Eng
namespace Go.Eng
open Go.RowKit
structure JS {κ : Type} (P : Program) (kt : TypeId) (K : κ → Value) (Ok : κ → Prop) : Prop where
  law : Maps.Keyed P kt
  inj : ∀ a b, K a = K b → a = b
  key : ∀ a, Ok a → ∃ l, keyOf P kt (K a) = some l
section
variable {κ ν : Type} (K : κ → Value) (V : ν → Value)
def Sk (p : (κ × ν) × Nat) : MapEntry := ⟨K p.1.1, V p.1.2, p.2⟩
structure BK (g : Nat) (Ok : κ → Prop) (m : Hp) (T : List (κ × ν)) (bs : List Nat) : Prop where
  ex : ∃ es clock, m = Hp.one g (.map es clock) ∧ es.toList = (T.zip bs).map (Sk K V) ∧ ∀ b ∈ bs, b < clock
  len : bs.length = T.length
  up : bs.Pairwise (· < ·)
  keys : (T.map Prod.fst).Nodup
  ok : ∀ p ∈ T, Ok p.1
end
theorem Lf {α : Type} {l : List α} (hn : l.Nodup) {i j : Nat} {a : α} (h1 : l[i]? = some a) (h2 : l[j]? = some a) : i = j := by
  obtain ⟨i1, i2⟩ := List.getElem?_eq_some_iff.1 h1
  obtain ⟨j1, j2⟩ := List.getElem?_eq_some_iff.1 h2
  have hp := List.pairwise_iff_getElem.1 hn
  rcases Nat.lt_trichotomy i j with h | h | h
  · exact absurd (i2.trans j2.symm) (hp i j i1 j1 h)
  · exact h
  · exact absurd (j2.trans i2.symm) (hp j i j1 i1 h)
section
variable {κ ν : Type} [DecidableEq κ]
def AZ (T : List (κ × ν)) (a : κ) : Option ν := (T.find? fun p => decide (p.1 = a)).map Prod.snd
theorem Di {T : List (κ × ν)} (hn : (T.map Prod.fst).Nodup) {j : Nat} {a : κ} {x : ν} (h : T[j]? = some (a, x)) : AZ T a = some x := by
  induction T generalizing j with
  | nil => simp at h
  | cons p T ih =>
    unfold AZ
    rw [List.find?_cons]
    cases j with
    | zero => simp at h; subst h; simp
    | succ j =>
      have h' : T[j]? = some (a, x) := by simpa using h
      have hne : p.1 ≠ a := fun e => by
        rw [List.map_cons, List.nodup_cons] at hn
        exact hn.1 (List.mem_map.2 ⟨(a, x), List.mem_of_getElem? h', e.symm⟩)
      simp only [hne, decide_false]
      rw [List.map_cons, List.nodup_cons] at hn
      exact ih hn.2 h'
theorem Ck {T : List (κ × ν)} {a : κ} (h : a ∉ T.map Prod.fst) : AZ T a = none := by
  unfold AZ
  rw [List.find?_eq_none.2 fun p hp => by
    simp only [decide_eq_true_eq]
    exact fun e => h (List.mem_map.2 ⟨p, hp, e⟩)]
  rfl
end
section
variable {κ ν : Type} [DecidableEq κ] {K : κ → Value} {V : ν → Value} {Ok : κ → Prop} {P : Program} {kt et t : TypeId} {g : Nat} {m : Hp} {T : List (κ × ν)} {bs : List Nat}
theorem Fm (L : JS P kt K Ok) (hn : (T.map Prod.fst).Nodup) (hok : ∀ p ∈ T, Ok p.1) (hl : bs.length = T.length) {es : Array MapEntry} (he : es.toList = (T.zip bs).map (Sk K V)) (w : World) (a : κ) (ha : Ok a) :
    ((Instr.findKey kt (K a) es.toList).run P w = .ok none w ∧ a ∉ T.map Prod.fst) ∨ ∃ (j : Nat) (x : ν) (b : Nat), (Instr.findKey kt (K a) es.toList).run P w = .ok (some (j, V x)) w ∧ T[j]? = some (a, x) ∧ bs[j]? = some b ∧ es[j]? = some ⟨K a, V x, b⟩ := by
  obtain ⟨l, hk⟩ := L.key a ha
  rcases L.law.find w hk es.toList (fun e hmem => by
    rw [he] at hmem
    obtain ⟨p, hp, rfl⟩ := List.mem_map.1 hmem
    exact L.key p.1.1 (hok p.1 (List.of_mem_zip hp).1)) with ⟨h1, h2⟩ | ⟨j, e, h1, h2, h3⟩
  · refine .inl ⟨h1, fun hmem => ?_⟩
    obtain ⟨p, hp, rfl⟩ := List.mem_map.1 hmem
    obtain ⟨j, hj, e⟩ := List.getElem_of_mem hp
    have hjb : j < bs.length := by omega
    refine h2 (Sk K V (p, bs[j])) ?_ rfl
    rw [he]
    exact List.mem_map.2 ⟨(p, bs[j]), List.mem_of_getElem? (i := j) (by rw [List.getElem?_zip_eq_some]; exact ⟨by rw [List.getElem?_eq_getElem hj, e], List.getElem?_eq_getElem hjb⟩), rfl⟩
  · rw [he, List.getElem?_map] at h2
    cases hz : (T.zip bs)[j]? with
    | none => rw [hz] at h2; cases h2
    | some p =>
      rw [hz] at h2
      have h2 := Option.some.inj h2
      obtain ⟨z1, z2⟩ := List.getElem?_zip_eq_some.1 hz
      have e1 : p.1.1 = a := L.inj _ _ (by rw [← h2] at h3; exact h3)
      refine .inr ⟨j, p.1.2, p.2, ?_, ?_, z2, ?_⟩
      · rw [h1, ← h2]; rfl
      · rw [z1, ← e1]
      · rw [← Array.getElem?_toList, he, List.getElem?_map, hz, ← e1]; rfl
variable {o : Oper} {s : Ar} {h : Hp} {ms : List Hp}
theorem Fp {x y : Operand} {z : ν} (a : κ) (L : JS P kt K Ok) (O : BK K V g Ok m T bs) (hm : m ∈ ms) (ho : o.op = .lookup t x y false) (ht : P.underlying t = some (.map kt et)) (hz : ∀ w, (zeroValue et).run P w = .ok (V z) w) (hx : ev s x = some (.map (some g))) (hy : ev s y = some (K a)) (ha : Ok a) :
    OX P o s h ms (V ((AZ T a).getD z)) :=
  By fun ρ w hρ hw => by
    obtain ⟨es, clock, rfl, he, hb⟩ := O.ex
    have hgw : w.heap[g]? = some (.map es clock) := hw.own _ hm g _ (Hp.one_self _ _)
    obtain ⟨l, hk⟩ := L.key a ha
    have hc := L.law.check w es.isEmpty hk
    rcases Fm L O.keys O.ok O.len he w a ha with ⟨h1, h2⟩ | ⟨j, u, b, h1, h2, _, _⟩
    · rw [Ck h2]
      simp only [execOp, ho, hρ _ _ hx, hρ _ _ hy, Instr.lookup, Sem.run_bind, run_underlying ht, Result.andThen_ok, getObj, Sem.run_pure, h1, hz]
      simp [Sem.run, hgw, hc, h1, hz, Result.andThen]
    · rw [Di O.keys h2]
      simp only [execOp, ho, hρ _ _ hx, hρ _ _ hy, Instr.lookup, Sem.run_bind, run_underlying ht, Result.andThen_ok, getObj, Sem.run_pure, h1, hz]
      simp [Sem.run, hgw, hc, h1, hz, Result.andThen]
theorem Nn {x y : Operand} {z : ν} (a : κ) (L : JS P kt K Ok) (O : BK K V g Ok m T bs) (hm : m ∈ ms) (ho : o.op = .lookup t x y true) (ht : P.underlying t = some (.map kt et)) (hz : ∀ w, (zeroValue et).run P w = .ok (V z) w) (hx : ev s x = some (.map (some g))) (hy : ev s y = some (K a)) (ha : Ok a) :
    OX P o s h ms (.tuple #[V ((AZ T a).getD z), .bool (AZ T a).isSome]) :=
  By fun ρ w hρ hw => by
    obtain ⟨es, clock, rfl, he, hb⟩ := O.ex
    have hgw : w.heap[g]? = some (.map es clock) := hw.own _ hm g _ (Hp.one_self _ _)
    obtain ⟨l, hk⟩ := L.key a ha
    have hc := L.law.check w es.isEmpty hk
    rcases Fm L O.keys O.ok O.len he w a ha with ⟨h1, h2⟩ | ⟨j, u, b, h1, h2, _, _⟩
    · rw [Ck h2]
      simp only [execOp, ho, hρ _ _ hx, hρ _ _ hy, Instr.lookup, Sem.run_bind, run_underlying ht, Result.andThen_ok, getObj, Sem.run_pure, h1, hz]
      simp [Sem.run, hgw, hc, h1, hz, Result.andThen]
    · rw [Di O.keys h2]
      simp only [execOp, ho, hρ _ _ hx, hρ _ _ hy, Instr.lookup, Sem.run_bind, run_underlying ht, Result.andThen_ok, getObj, Sem.run_pure, h1, hz]
      simp [Sem.run, hgw, hc, h1, hz, Result.andThen]
theorem Ends.turn {w0 w : World} {h0 h : Hp} {ms0 ms : List Hp} {i g : Nat} {o o' : Obj} (H : Ends w0 h0 ms0 w h ms) (hm : ms[i]? = some (Hp.one g o)) : Ends w0 h0 ms0 { w with heap := w.heap.setIfInBounds g o' } h (ms.set i (Hp.one g o')) := by
  obtain ⟨r, p1, p2⟩ := Hy ms i (Hp.one g o) (Hp.one g o') hm
  have hgw : w.heap[g]? = some o := H.st.own _ (List.mem_of_getElem? hm) g o (Hp.one_self g o)
  have hlt := (Array.getElem?_eq_some_iff.1 hgw).1
  refine Ends.perm (Ends.change (H.perm p1) rfl ⟨rfl, Nat.le_refl _⟩ rfl (by simp) ?_ fun k hk hne => ?_) p2.symm
  · simp [hlt]
  · show (w.heap.setIfInBounds g o')[k]? = w.heap[k]?
    rw [Array.getElem?_setIfInBounds_ne (Ne.symm hne)]
def Cr (T : List (κ × ν)) (a : κ) (x : ν) : List (κ × ν) := if a ∈ T.map Prod.fst then T.map fun p => if p.1 = a then (a, x) else p else T ++ [(a, x)]
theorem Gq {T : List (κ × ν)} (hn : (T.map Prod.fst).Nodup) (a : κ) (x : ν) : ((Cr T a x).map Prod.fst).Nodup := by
  unfold Cr
  split
  · have : (T.map fun p => if p.1 = a then (a, x) else p).map Prod.fst = T.map Prod.fst := by
      rw [List.map_map]
      refine List.map_congr_left fun p _ => ?_
      show (if p.1 = a then (a, x) else p).1 = p.1
      split
      · rename_i e; exact e.symm
      · rfl
    rw [this]; exact hn
  · rename_i h
    rw [List.map_append]
    exact List.nodup_append.2 ⟨hn, by simp, fun b hb c hc e => by
      simp at hc; subst hc; subst e; exact h hb⟩
theorem Ie {T : List (κ × ν)} (hn : (T.map Prod.fst).Nodup) {j : Nat} {a : κ} {y x : ν} (h : T[j]? = some (a, y)) : Cr T a x = T.set j (a, x) := by
  have hmem : a ∈ T.map Prod.fst := List.mem_map.2 ⟨(a, y), List.mem_of_getElem? h, rfl⟩
  unfold Cr
  rw [if_pos hmem]
  refine List.ext_getElem? fun i => ?_
  rw [List.getElem?_map, List.getElem?_set]
  obtain ⟨hj, hje⟩ := List.getElem?_eq_some_iff.1 h
  by_cases hij : j = i
  · subst hij; simp [h, hj, hje]
  · rw [if_neg hij]
    cases hi : T[i]? with
    | none => rfl
    | some p =>
      have : p.1 ≠ a := fun e => by
        have h1 : (T.map Prod.fst)[i]? = some a := by rw [List.getElem?_map, hi]; exact congrArg some e
        have h2 : (T.map Prod.fst)[j]? = some a := by rw [List.getElem?_map, h]; rfl
        exact hij (Lf hn h2 h1)
      simp [this]
theorem CF {T : List (κ × ν)} (a b : κ) (x : ν) : AZ (Cr T a x) b = if b = a then some x else AZ T b := by
  unfold AZ Cr
  split
  · rename_i hmem
    induction T with
    | nil => simp at hmem
    | cons p T ih =>
      rw [List.map_cons, List.find?_cons, List.find?_cons]
      by_cases hp : p.1 = a
      · rw [if_pos hp]
        by_cases hba : b = a
        · subst hba; simp
        · have h1 : a ≠ b := fun e => hba e.symm
          have h2 : p.1 ≠ b := fun e => h1 (hp.symm.trans e)
          simp only [h1, h2, decide_false, if_neg hba]
          by_cases hmem' : a ∈ T.map Prod.fst
          · have := ih hmem'
            rw [if_neg hba] at this; exact this
          · have : (T.map fun p => if p.1 = a then (a, x) else p) = T := by
              rw [List.map_congr_left (g := id) fun q hq => ?_]
              · simp
              · rw [if_neg fun e => hmem' (List.mem_map.2 ⟨q, hq, e⟩)]; rfl
            rw [this]
      · rw [if_neg hp]
        by_cases hpb : p.1 = b
        · have hba : b ≠ a := fun e => hp (hpb.trans e)
          simp [hpb, hba]
        · simp only [hpb, decide_false]
          exact ih (by
            rw [List.map_cons, List.mem_cons] at hmem
            exact hmem.resolve_left fun e => hp e.symm)
  · rename_i hmem
    rw [List.find?_append]
    by_cases hba : b = a
    · subst hba
      rw [List.find?_eq_none.2 fun p hp => by
        simp only [decide_eq_true_eq]
        exact fun e => hmem (List.mem_map.2 ⟨p, hp, e⟩)]
      simp
    · have h1 : a ≠ b := fun e => hba e.symm
      rw [if_neg hba]
      simp [List.find?_cons, h1]
theorem Vc (T : List (κ × ν)) (bs : List Nat) (j : Nat) (p : κ × ν) (b : Nat) (hb : bs[j]? = some b) : (T.set j p).zip bs = (T.zip bs).set j (p, b) := by
  induction T generalizing j bs with
  | nil => simp
  | cons q T ih =>
    cases bs with
    | nil => simp
    | cons c bs =>
      cases j with
      | zero => simp at hb; subst hb; simp
      | succ j => simp [ih bs j (by simpa using hb)]
variable {e : Entry} {Q : Exit → Act → World → Prop} {ops : Array Oper} {rest : List Oper}
theorem Cd {d : Nat} (ho : o.op = .makeMap t none) (hd : o.dst = some d) (hn : Nat.blt d e.n = true) (hg : o.guard = none)
    (k : ∀ g m, BK K V g Ok m ([] : List (κ × ν)) [] → WL e ops Q rest ((d, .map (some g)) :: s) h (m :: ms)) : WL e ops Q (o :: rest) s h ms :=
  II (post := fun v h' ms' => ∃ g, v = .map (some g) ∧ h' = h ∧ ms' = Hp.one g (.map #[] 0) :: ms) (fun ρ w hρ hw => by
    have : (execOp ρ o).run e.P w = .ok (.value (.map (some w.heap.size))) (w.alloc (.map #[] 0)) := by
      simp [execOp, ho, run_makeMap]
    unfold OpRes; rw [this]
    exact ⟨h, _, Ends.alloc hw _, _, rfl, rfl, rfl⟩) hd hn hg fun _ _ _ ⟨g, e1, e2, e3⟩ => by
      subst e1 e2 e3
      exact k g _ ⟨⟨#[], 0, rfl, rfl, by simp⟩, rfl, List.Pairwise.nil, by simp, by simp⟩
theorem Ts (T : List (κ × ν)) (bs : List Nat) (hl : bs.length = T.length) (p : κ × ν) (b : Nat) : (T ++ [p]).zip (bs ++ [b]) = T.zip bs ++ [(p, b)] := by
  rw [List.zip_append hl.symm]; rfl
theorem UW {bs : List Nat} (h : bs.Pairwise (· < ·)) {c : Nat} (hc : ∀ b ∈ bs, b < c) : (bs ++ [c]).Pairwise (· < ·) :=
  List.pairwise_append.2 ⟨h, by simp, fun a ha b hb => by simp at hb; subst hb; exact hc a ha⟩
end
end Go.Eng
namespace Go.Eng
open Go.RowKit
structure GQ (gi g : Nat) (m mi : Hp) (bs vis : List Nat) : Prop where
  ex : ∃ es clock since seen last, m = Hp.one g (.map es clock) ∧ mi = Hp.one gi (.mapIter (some g) since seen last) ∧ (∀ b ∈ bs, b < since) ∧ since ≤ last ∧ since ≤ clock ∧ seen.toList = vis.map (fun j => bs[j]?.getD 0) ∧ (vis ≠ [] → last = clock)
  lt : ∀ j ∈ vis, j < bs.length
  nodup : vis.Nodup
theorem P5 {g : Nat} {o o' : Obj} (h : Hp.one g o = Hp.one g o') : o = o' := by
  have := congrFun h g
  rw [Hp.one_self, Hp.one_self] at this
  exact Option.some.inj this
section
variable {κ ν : Type} [DecidableEq κ] {K : κ → Value} {V : ν → Value} {Ok : κ → Prop} {P : Program} {t : TypeId} {gi g : Nat} {m mi : Hp} {T : List (κ × ν)} {bs vis : List Nat}
variable {o : Oper} {s : Ar} {h : Hp} {ms : List Hp} {e : Entry} {Q : Exit → Act → World → Prop} {ops : Array Oper} {rest : List Oper}
theorem WJ {bs : List Nat} (h : bs.Pairwise (· < ·)) {i j : Nat} {b : Nat} (hi : bs[i]? = some b) (hj : bs[j]? = some b) : i = j :=
  Lf (h.imp fun h => Nat.ne_of_lt h) hi hj
end
end Go.Eng
namespace Go.Eng
open Go.RowKit
variable {m c : Hp} {w : World}
theorem Cq {α : Type} : ∀ {l : List α} {i : Nat} {a : α}, l[i]? = some a → l.Perm (a :: l.eraseIdx i)
  | [], i, a, h => by simp at h
  | b :: l, 0, a, h => by simp at h; subst h; simp
  | b :: l, i + 1, a, h => by
    simp at h
    exact ((Cq h).cons b).trans (List.Perm.swap _ _ _)
theorem Ends.erase {w0 : World} {h0 h : Hp} {ms0 ms : List Hp} {i : Nat} (H : Ends w0 h0 ms0 w h ms) (hm : ms[i]? = some m) : Ends w0 h0 ms0 w h (ms.eraseIdx i) :=
  Ends.drop (Ends.perm H (Cq hm))
section
variable {P : Program} {w0 : World} {h0 : Hp} {ms0 : List Hp} {n : Nat} {fn : Func} {post : Value → Hp → List Hp → Prop} {s : Ar} {h : Hp} {ms : List Hp} {t u : Nat} {ty el : TypeId} {g : Nat} {d : TypeDesc} {sz : Nat} {z : Value} {bytes : Nat} {vs : List Value} {v : Value}
theorem C7 (i : Nat) (hr : fn.results = #[.cell t ty]) (hv : lk s t = some (.pointer (some ⟨g, 0, none⟩))) (ht : P.underlying ty = some d) (hd : Hw d = true) (hs : Elem P ty sz z bytes) (hl : vs.length = sz) (hc : ms[i]? = some (Bf g el vs)) (hp : post (.agg vs.toArray) h (ms.eraseIdx i)) :
    NX ⟨P, w0, h0, ms0, n, []⟩ (bodyPost P fn (RP w0 h0 ms0 post)) .ret s h ms := fun a w ha hw => by
  have h1 : a.tmps[t]?.getD undef = .pointer (some ⟨g, 0, none⟩) := by rw [ha.slots t _ hv]; rfl
  have hag : (isAgg ty).run P w = .ok true w := by rw [DU ht, hd]
  have hc' : ∀ j v, vs[j]? = some v → w.cell? ((⟨g, 0, none⟩ : Addr).add j) = some v := fun j v e => hw.st.cell (Seg.blk i hc j v e)
  refine bodyPost_ret (v := .agg vs.toArray) ?_ ha.defers ⟨_, h, _, rfl, Ends.erase hw hc, hp⟩
  subst hl
  simp [results, hr, h1, asAddr, loadVar, hag, hs.sizeOf, run_loadCells_list (P := P) w _ vs hc']
theorem TZ (i : Nat) (hr : fn.results = #[.cell t ty, .tmp u]) (hv : lk s t = some (.pointer (some ⟨g, 0, none⟩))) (hu : lk s u = some v) (ht : P.underlying ty = some d) (hd : Hw d = true) (hs : Elem P ty sz z bytes) (hl : vs.length = sz) (hc : ms[i]? = some (Bf g el vs)) (hp : post (.tuple #[.agg vs.toArray, v]) h (ms.eraseIdx i)) :
    NX ⟨P, w0, h0, ms0, n, []⟩ (bodyPost P fn (RP w0 h0 ms0 post)) .ret s h ms := fun a w ha hw => by
  have h1 : a.tmps[t]?.getD undef = .pointer (some ⟨g, 0, none⟩) := by rw [ha.slots t _ hv]; rfl
  have h2 : a.tmps[u]?.getD undef = v := by rw [ha.slots u _ hu]; rfl
  have hag : (isAgg ty).run P w = .ok true w := by rw [DU ht, hd]
  have hc' : ∀ j v, vs[j]? = some v → w.cell? ((⟨g, 0, none⟩ : Addr).add j) = some v := fun j v e => hw.st.cell (Seg.blk i hc j v e)
  refine bodyPost_ret (v := .tuple #[.agg vs.toArray, v]) ?_ ha.defers ⟨_, h, _, rfl, Ends.erase hw hc, hp⟩
  subst hl
  simp [results, hr, h1, h2, asAddr, loadVar, hag, hs.sizeOf, run_loadCells_list (P := P) w _ vs hc']
end
def QM : Value → Bool
  | .slice none _ _ => true
  | _ => false
section
variable {P : Program} {o : Oper} {s : Ar} {h : Hp} {ms : List Hp} {t u el : TypeId} {x y : Operand} {v : Value} {sz n : Nat} {cs : List Value}
theorem NK (R : Rd h ms v sz n cs) (ho : o.op = .binOp .eql t x y u) (ht : P.underlying t = some (.slice el)) (hx : ev s x = some v) (hy : ev s y = some (.slice none 0 0)) : OX P o s h ms (.bool (QM v)) := by
  obtain ⟨a, c, rfl, _⟩ := R.ex
  refine By fun ρ w hρ _ => ?_
  have := Go.Lib.run_eql_slice_nil w t el a n c 0 0 ht
  have hg : (eqGuard .eql t x y (.slice a n c) (.slice none 0 0)).run P w = .ok () w := by simp [eqGuard]
  cases a <;> simp [execOp, ho, hρ _ _ hx, hρ _ _ hy, this, hg, QM]
end
theorem K9 {h : Hp} {ms : List Hp} {v : Value} {sz n : Nat} {cs : List Value} (R : Rd h ms v sz n cs) (hv : QM v = true) : n = 0 := by
  obtain ⟨a, c, rfl, h1, h2, h3, h4⟩ := R.ex
  refine Nat.eq_zero_of_not_pos fun hn => ?_
  obtain ⟨q, rfl, _⟩ := h4 hn
  simp [QM] at hv
theorem Hp.disj_join {a b : Hp} (h1 : a.disj c) (h2 : b.disj c) : (a.join b).disj c := fun g => by
  rcases h1 g with e1 | e1
  · rcases h2 g with e2 | e2
    · left; simp [Hp.join, e1, e2]
    · exact .inr e2
  · exact .inr e1
theorem Hp.disj_left {a b : Hp} (h : (a.join b).disj c) : a.disj c := fun g => by
  rcases h g with e | e
  · left
    cases ha : a g with
    | none => rfl
    | some o => simp [Hp.join, ha] at e
  · exact .inr e
theorem Hp.disj_right {a b : Hp} (h : (a.join b).disj c) : b.disj c := fun g => by
  rcases h g with e | e
  · left
    cases ha : a g with
    | none => simpa [Hp.join, ha] using e
    | some o => simp [Hp.join, ha] at e
  · exact .inr e
theorem Is {e : Entry} {Q : Exit → Act → World → Prop} {s : Ar} {h : Hp} {ms : List Hp} {x : Exit} (k : NX e Q x s h (Hp.emp :: ms)) : NX e Q x s h ms := fun a w ha hw => k a w ha
  ⟨⟨hw.st.imm, fun m hm => by
      rcases List.mem_cons.1 hm with rfl | hm
      · intro g o e; cases e
      · exact hw.st.own m hm, fun m hm => by
      rcases List.mem_cons.1 hm with rfl | hm
      · exact fun _ => .inl rfl
      · exact hw.st.off m hm, List.pairwise_cons.2 ⟨fun _ _ _ => .inl rfl, hw.st.apart⟩⟩, hw.os, hw.tape, hw.output, hw.size, hw.block, hw.le, hw.hnew, fun m hm k hk hne => by
      rcases List.mem_cons.1 hm with rfl | hm
      · exact absurd rfl hne
      · exact hw.mnew m hm k hk hne⟩
theorem Bn {e : Entry} {Q : Exit → Act → World → Prop} {s : Ar} {h : Hp} {ms : List Hp} {x : Exit} (i : Nat) (hm : ms[i]? = some m) (k : NX e Q x s h (ms.eraseIdx i)) : NX e Q x s h ms := fun a w ha hw => k a w ha (Ends.erase hw hm)
theorem Lm {e : Entry} {Q : Exit → Act → World → Prop} {s : Ar} {h : Hp} {ms : List Hp} {ops : Array Oper} {r : List Oper} (i : Nat) (hm : ms[i]? = some m) (k : WL e ops Q r s h (ms.eraseIdx i)) : WL e ops Q r s h ms := fun a w ha hw => k a w ha (Ends.erase hw hm)
@[simp] theorem Yu (k : IntKind) (n : Int) : (Value.int k n).oneCell' = true := rfl
@[simp] theorem Ye (b : Bool) : (Value.bool b).oneCell' = true := rfl
@[simp] theorem Yo (p : Option Addr) : (Value.pointer p).oneCell' = true := rfl
@[simp] theorem XN (p : Option Addr) (n c : Nat) : (Value.slice p n c).oneCell' = true := rfl
@[simp] theorem Yl (p : Option Nat) : (Value.map p).oneCell' = true := rfl
theorem DQ {e : Entry} {Q : Exit → Act → World → Prop} {ops : Array Oper} {rest : List Oper} {o : Oper} {s : Ar} {h : Hp} {ms : List Hp} {el : TypeId} {v : Value} {l : List Int} {t : TypeId} {x y : Operand} {z : Value} {bytes : Nat} {a : Int} (i j : Nat) (O : OwnL cI 1 el m v l) (ho : o.op = .store t x y) (hs : Elem e.P t 1 z bytes) (hx : ev s x = some (.pointer (some ((AI v).add (j * 1))))) (hy : ev s y = some (.int .i64 a))
    (hm : ms[i]? = some m) (hj : j < l.length) (hd : o.dst = none) (hg : o.guard = none)
    (K : ∀ m', OwnL cI 1 el m' v (l.set j a) → WL e ops Q rest s h (ms.set i m')) : WL e ops Q (o :: rest) s h ms :=
  FM i j (fun _ => rfl) O ho hs hx hy rfl hm hj hd hg K
theorem OwnL.blk {α : Type} {F : α → List Value} {sz : Nat} {el : TypeId} {g : Nat} {l : List α} (n : Nat) (hF : ∀ x, (F x).length = sz) (hl : l.length = n) (hn : n ≤ 9223372036854775807) : OwnL F sz el (Bf g el (l.flatMap F)) (.slice (some ⟨g, 0, none⟩) n n) l :=
  ⟨⟨Be hF l, .inr ⟨g, n, [], by rw [hl], by rw [List.append_nil], by rw [List.append_nil, Be hF, hl], by omega, hn⟩⟩, hF⟩
theorem OwnL.rep {g : Nat} {el : TypeId} (n : Nat) (x : Int) (hn : n ≤ 9223372036854775807) : OwnL cI 1 el (Bf g el (List.replicate n (.int .i64 x))) (.slice (some ⟨g, 0, none⟩) n n) (List.replicate n x) := by
  rw [W6]
  exact OwnL.blk n AT (by simp) hn
theorem Ends.join {w0 : World} {h0 h : Hp} {ms0 ms : List Hp} {a b : Hp} (H : Ends w0 h0 ms0 w h (a :: b :: ms)) : Ends w0 h0 ms0 w h (a.join b :: ms) := by
  have hap := List.pairwise_cons.1 H.st.apart
  have hap2 := List.pairwise_cons.1 hap.2
  refine ⟨⟨H.st.imm, ?_, ?_, List.pairwise_cons.2 ⟨fun m hm => Hp.disj_join (hap.1 m (List.mem_cons_of_mem _ hm)) (hap2.1 m hm), hap2.2⟩⟩, H.os, H.tape, H.output, H.size, H.block, H.le, H.hnew, ?_⟩
  · intro m hm
    rcases List.mem_cons.1 hm with rfl | hm
    · intro k o e
      unfold Hp.join at e
      split at e
      · rename_i o' e'; cases e; exact H.st.own a (by simp) k _ e'
      · exact H.st.own b (by simp) k o e
    · exact H.st.own m (by simp [hm])
  · intro m hm
    rcases List.mem_cons.1 hm with rfl | hm
    · exact Hp.disj_join (H.st.off a (by simp)) (H.st.off b (by simp))
    · exact H.st.off m (by simp [hm])
  · intro m hm k hk e
    rcases List.mem_cons.1 hm with rfl | hm
    · cases ha : a k with
      | some o => exact H.mnew a (by simp) k hk (by rw [ha]; simp)
      | none => exact H.mnew b (by simp) k hk (by simpa [Hp.join, ha] using e)
    · exact H.mnew m (by simp [hm]) k hk e
theorem Ends.part {w0 : World} {h0 h : Hp} {ms0 ms : List Hp} {a b : Hp} (H : Ends w0 h0 ms0 w h (a.join b :: ms)) (hd : a.disj b) : Ends w0 h0 ms0 w h (a :: b :: ms) := by
  have hap := List.pairwise_cons.1 H.st.apart
  have hb : ∀ k o, b k = some o → (a.join b) k = some o := fun k o e => by
    rcases hd k with e1 | e1
    · simp [Hp.join, e1, e]
    · rw [e1] at e; cases e
  have ha : ∀ k o, a k = some o → (a.join b) k = some o := fun k o e => by simp [Hp.join, e]
  refine ⟨⟨H.st.imm, ?_, ?_, List.pairwise_cons.2 ⟨?_, List.pairwise_cons.2 ⟨fun m hm => Hp.disj_right (hap.1 m hm), hap.2⟩⟩⟩, H.os, H.tape, H.output, H.size, H.block, H.le, H.hnew, ?_⟩
  · intro m hm
    rcases List.mem_cons.1 hm with rfl | hm
    · exact fun k o e => H.st.own _ (by simp) k o (ha k o e)
    rcases List.mem_cons.1 hm with rfl | hm
    · exact fun k o e => H.st.own _ (by simp) k o (hb k o e)
    · exact H.st.own m (by simp [hm])
  · intro m hm
    have h1 := H.st.off (a.join b) (by simp)
    rcases List.mem_cons.1 hm with rfl | hm
    · exact Hp.disj_left h1
    rcases List.mem_cons.1 hm with rfl | hm
    · exact Hp.disj_right h1
    · exact H.st.off m (by simp [hm])
  · intro m hm
    rcases List.mem_cons.1 hm with rfl | hm
    · exact hd
    · exact Hp.disj_left (hap.1 m hm)
  · intro m hm k hk e
    rcases List.mem_cons.1 hm with rfl | hm
    · obtain ⟨o, ho⟩ := Hp.ne_none e
      exact H.mnew (m.join b) (by simp) k hk (by rw [ha k o ho]; simp)
    rcases List.mem_cons.1 hm with rfl | hm
    · obtain ⟨o, ho⟩ := Hp.ne_none e
      exact H.mnew (a.join m) (by simp) k hk (by rw [hb k o ho]; simp)
    · exact H.mnew m (by simp [hm]) k hk e
section
variable {e : Entry} {Q : Exit → Act → World → Prop} {s : Ar} {h : Hp} {ms : List Hp} {a b : Hp} {ops : Array Oper}
theorem EU {y : Exit} (k : NX e Q y s h (a.join b :: ms)) : NX e Q y s h (a :: b :: ms) := fun x w ha hw => k x w ha (Ends.join hw)
theorem Ig {c : Code} (hd : a.disj b) (k : WS e c Q s h (a :: b :: ms)) : WS e c Q s h (a.join b :: ms) := fun x w ha hw => k x w ha (Ends.part hw hd)
theorem EC {y : Exit} (k : ms.Pairwise Hp.disj → NX e Q y s h ms) : NX e Q y s h ms := fun x w ha hw => k hw.st.apart x w ha hw
end
end Go.Eng
namespace Go.Eng
open Go.RowKit
variable {n : Nat} {o : Oper} {l : List Oper} {a : Act} {w : World} {v : Value} {z : Ar}
def WB (e : Entry) (ops : Array Oper) (Q : Exit → Act → World → Prop) (h0 : Hp) : Nat → Array Bool → Ar → Hp → List Hp → Prop
  | 0, listed, s, h, ms => Region.ready .any ops listed = [] ∧ NX e Q .normal s h ms
  | n + 1, listed, s, h, ms => (Region.ready .any ops listed = [] → NX e Q .normal s h ms) ∧ ∀ i ∈ Region.ready .any ops listed, ∃ o, ops[i]? = some o ∧
      WL e ops (fun x a w => x = .normal ∧ ∃ s' h' ms', Has e.n e.ds a s' ∧ e.Ends w h' ms' ∧ h0.le h' ∧ WB e ops Q h0 n (listed.setIfInBounds i true) s' h' ms') [o] s h ms
def HB (e : Entry) (ops : Array Oper) (Q : Exit → Act → World → Prop) (h0 : Hp) (n : Nat) (listed : Array Bool) (a : Act) (w : World) : Prop :=
  ∃ s' h' ms', Has e.n e.ds a s' ∧ e.Ends w h' ms' ∧ h0.le h' ∧ WB e ops Q h0 n listed s' h' ms'
def QB (e : Entry) (ops : Array Oper) (Q : Exit → Act → World → Prop) (h0 : Hp) (n : Nat) (listed : Array Bool) : Exit → Act → World → Prop :=
  fun x a w => x = .normal ∧ HB e ops Q h0 n listed a w
theorem LW {e : Entry} {ops : Array Oper} {Q : Exit → Act → World → Prop} {h0 : Hp} {listed : Array Bool} : ¬ LetsOut (QB e ops Q h0 n listed) := fun h => by simp [LetsOut, QB] at h
theorem HB.ext {e : Entry} {ops : Array Oper} {Q : Exit → Act → World → Prop} {h0 : Hp} {listed : Array Bool} {w' : World} (H : HB e ops Q h0 n listed a w) (he : Ext w w') : HB e ops Q h0 n listed a w' := by
  obtain ⟨s', h', ms', g1, g2, g3, g4⟩ := H
  exact ⟨s', h', ms', g1, Ends.ext g2 he, g3, g4⟩
structure XI (P : Program) (pu : List Nat) (ops : Array Oper) (s z : Ar) (n : Nat) (h0 : Hp) : Prop where
  val : ∀ i o d, pu.contains i = true → ops[i]? = some o → o.dst = some d → ∃ v, lk z d = some v ∧ OX P o (z ++ s) h0 [] v
  only : ∀ t v, lk z t = some v → t < n ∧ ∃ i, pu.contains i = true ∧ AX ops i = some t
section
variable {P : Program} {ops : Array Oper} {Q : Exit → Act → World → Prop}
theorem Rl {s : Ar} {h0 : Hp} (hs : ∀ cs b, o.op ≠ .select cs b) (hl : ∀ t ∈ o.looksAt ops, ∀ u, lk s t = some u → a.tmps[t]? = some u)
    (k : OX P o s h0 [] v) (hw : St w h0 []) : OpRes P o a.eval w (fun v' w' => v' = v ∧ Ext w w') := by
  classical
  unfold OpRes
  rw [execOp_congr (ρ := a.eval) (ρ' := fun x => if x ∈ o.op.operands then a.eval x else (ev s x).getD undef) o hs (fun x hx => (if_pos hx).symm)]
  refine k _ w (fun x u hu => ?_) hw
  show (if x ∈ o.op.operands then a.eval x else (ev s x).getD undef) = u
  split
  · rename_i hx
    cases x with
    | tmp t =>
      refine Act.eval_of_slot (hl t ?_ u hu)
      exact List.mem_append_left _ (List.mem_filterMap.2 ⟨.tmp t, by simpa using hx, rfl⟩)
    | const v => cases hu; rfl
    | global g => cases hu; rfl
    | func f => cases hu; rfl
  · rw [hu]; rfl
theorem Oper.wp_sim' {K K' : Act → World → Prop} {Qb : Exit → Act → World → Prop} (hq : ∀ x a w, Qb x a w → x = .normal) (hlo : ¬ LetsOut Qb) (hx : execOp (zA z a).eval o = execOp a.eval o) (hd : ∀ t, o.dst = some t → lk z t = none) (hK : ∀ b w v, b.tmps = (a.put o.dst v).tmps → K' (zA z b) w → K b w)
    (h : o.wp P (zA z a) w K' Qb) : o.wp P a w K (Q0 Q) := by
  unfold Oper.wp at *
  rw [hx] at h
  generalize (execOp a.eval o).run P w = r at *
  have hv : ∀ v w, K' ((zA z a).put o.dst v) w → K (a.put o.dst v) w := fun v w hh => hK _ _ v rfl (by rw [Fs hd]; exact hh)
  cases r with
  | ok n w' =>
    cases n <;> simp only [Oper.upon] at h ⊢ <;>
      first
        | exact hv _ _ h
        | exact Calls.mono h (fun e w'' he => by
            cases e
            · exact hv _ _ he
            · exact absurd (hq _ _ _ he) (by simp)
            · exact absurd he hlo)
        | exact Rows.mono h (fun _ _ he => hv _ _ he)
        | exact hK _ _ undef (by cases o.dst <;> rfl) (by rw [Fs hd]; exact h)
  | halt x w' => cases x <;> simp only [Oper.upon] at h ⊢ <;> first | exact h | exact absurd (hq _ _ _ h) (by simp)
end
theorem W5 {e : Entry} {ops : Array Oper} {Q : Exit → Act → World → Prop} {h0 : Hp} {pu : List Nat} {s : Ar} {a0 : Act} (ha0 : Has e.n e.ds a0 s) (hp : Yr pu ops) (hb : ∀ i o, ops[i]? = some o → ∀ e ∈ o.after, Region.binds .any e = true → e.on < i) (hz : XI e.P pu ops s z e.n h0) :
    ∀ fuel fuel' listed a w, Yc pu ops z a0 a listed → listed.size = ops.size → left listed ≤ fuel → HB e ops Q h0 fuel' (un pu listed) (zA z a) w → wpAny e.P .any ops (Q0 Q) fuel listed a w := by
  -- all is listed
  have alldone : ∀ fuel' listed a w, Yc pu ops z a0 a listed → listed.size = ops.size → (∀ j, j < ops.size → listed.getD j false = true) → HB e ops Q h0 fuel' (un pu listed) (zA z a) w → Region.ready .any ops listed = [] ∧ (Q0 Q) .normal a w := by
    intro fuel' listed a w S hsz BQ H
    have noready : ∀ l' : Array Bool, (∀ j, j < ops.size → l'.getD j false = true) → Region.ready .any ops l' = [] := fun l' hl' => by
      cases hr : Region.ready .any ops l' with
      | nil => rfl
      | cons x xs =>
        have hx : x ∈ Region.ready .any ops l' := by rw [hr]; exact List.mem_cons_self
        obtain ⟨h0, o, ho, _⟩ := mem_ready.1 hx
        have := hl' x (Array.getElem?_eq_some_iff.1 ho).1
        have h2 := AY h0
        rw [Array.getD_eq_getD_getElem?, h2] at this; cases this
    have hr' := noready (un pu listed) (fun j hj => by rw [Ha _ _ _ _ (by omega), BQ j hj]; rfl)
    have hQ : (Q0 Q) .normal (zA z a) w := by
      obtain ⟨s', h', ms', g1, g2, g3, g4⟩ := H
      cases fuel' with
      | zero => exact ⟨rfl, g4.2 _ _ g1 g2⟩
      | succ f => exact ⟨rfl, g4.1 hr' _ _ g1 g2⟩
    have hza : zA z a = a := by
      refine Jf ?_ rfl
      apply Array.ext_getElem?
      intro t
      rw [D9]
      cases hl : lk z t with
      | none => simp
      | some v =>
        obtain ⟨hn, i, hi, hd⟩ := hz.only t v hl
        have hlt : t < a.tmps.size := by rw [S.size, ha0.size]; exact hn
        rw [S.pure i hi (BQ i (CD hd)) t v hd hl hlt]; rfl
    rw [hza] at hQ
    exact ⟨noready _ BQ, hQ⟩
  have hall_of : ∀ listed : Array Bool, listed.size = ops.size → left listed = 0 → ∀ j, j < ops.size → listed.getD j false = true := fun listed hsz h0 j hj => by
    have h1 := IN h0 j
    have hjlt : j < listed.size := by omega
    rw [Array.getD_eq_getD_getElem?] at h1 ⊢
    simp [hjlt] at h1 ⊢; exact h1
  intro fuel
  induction fuel with
  | zero =>
    intro fuel' listed a w S hsz hle H
    exact alldone fuel' listed a w S hsz (hall_of listed hsz (by omega)) H
  | succ fuel ih =>
    intro fuel' listed a w S hsz hle H
    refine ⟨fun hr0 => ?_, fun i hir => ?_⟩
    · -- nothing is ready: all is listed
      refine (alldone fuel' listed a w S hsz ?_ H).2
      intro j
      induction j using Nat.strongRecOn with
      | _ j ihj =>
        intro hj
        cases hl : listed.getD j false with
        | true => rfl
        | false =>
          have ho : ops[j]? = some ops[j] := by simp [hj]
          have : j ∈ Region.ready .any ops listed := mem_ready.2 ⟨by
            have hjlt : j < listed.size := by omega
            rw [Array.getD_eq_getD_getElem?] at hl ⊢
            simp [hjlt] at hl ⊢; exact hl, _, ho, fun ed hed hbd => by
              have := hb j _ ho ed hed hbd
              exact ihj _ this (by omega)⟩
          rw [hr0] at this; cases this
    · obtain ⟨hun, o, ho, BQ⟩ := mem_ready.1 hir
      have hilt : i < ops.size := (Array.getElem?_eq_some_iff.1 ho).1
      have hdi : AX ops i = o.dst := by simp [AX, ho]
      have hsel : ∀ cs b, o.op ≠ .select cs b := fun cs b => Region.noSelect_spec hp.nosel i o cs b ho
      have hls := H2 (AY hun)
      have hset : ∀ j d, (listed.setIfInBounds i true).getD j d = if j = i then true else listed.getD j d := fun j d => by
        by_cases hj : j = i
        · subst hj; simp [show j < listed.size by omega]
        · rw [getD_set_ne d (Ne.symm hj)]; simp [hj]
      -- the slots of pure ones that are looked at stand
      have hpl : ∀ t ∈ o.looksAt ops, ∀ v, lk z t = some v → a.tmps[t]? = some v ∧ ∃ j, pu.contains j = true ∧ AX ops j = some t := fun t ht v hv => by
        obtain ⟨hn, j, hj, hd⟩ := hz.only t v hv
        refine ⟨?_, j, hj, hd⟩
        rcases hp.look i o t j ho ht hd with ⟨_, h2⟩ | ⟨h2, _⟩
        · obtain ⟨e, he, hbd, rfl⟩ := En h2
          exact S.pure _ hj (BQ e he hbd) t v hd hv (by rw [S.size, ha0.size]; exact hn)
        · rw [hj] at h2; cases h2
      have hsame : ∀ t ∈ o.looksAt ops, (zA z a).tmps[t]? = a.tmps[t]? := fun t ht => by
        rw [D9]
        cases hl : lk z t with
        | none => simp
        | some v => rw [(hpl t ht v hl).1]; rfl
      have hx : execOp (zA z a).eval o = execOp a.eval o := execOp_congr o hsel fun x hx => by
        cases x with
        | tmp t =>
          have := hsame t (List.mem_append_left _ (List.mem_filterMap.2 ⟨.tmp t, by simpa using hx, rfl⟩))
          simp only [Act.eval]
          rw [Array.getD_eq_getD_getElem?, this, ← Array.getD_eq_getD_getElem?]
        | const v => rfl
        | global g => rfl
        | func f => rfl
      unfold wpOp
      simp only [ho]
      cases hc : pu.contains i with
      | true =>
        obtain ⟨hg, ⟨d, hd⟩, huq⟩ := hp.plain i o ho hc
        obtain ⟨v, hv, hpx⟩ := hz.val i o d hc ho hd
        have hw : Region.wanted o (yielded ops a.tmps) = true := by unfold Region.wanted; rw [hg]
        rw [if_pos hw]
        have hst : St w h0 [] := by
          obtain ⟨s', h', ms', g1, g2, g3, g4⟩ := H
          exact ⟨fun g o e => g2.st.imm g o (g3 g o e), fun m hm => by simp at hm, fun m hm => by simp at hm, List.Pairwise.nil⟩
        refine .inl (OpRes.wp (Φ := fun v' w' => v' = v ∧ Ext w w') ?_ ?_)
        · unfold OpRes
          rw [← hx]
          refine Rl (ops := ops) hsel (fun t ht u hu => ?_) hpx hst
          rw [BT] at hu
          cases hl : lk z t with
          | some v' => rw [hl] at hu; cases hu; rw [hsame t ht]; exact (hpl t ht _ hl).1
          | none =>
            rw [hl] at hu
            rw [hsame t ht, S.old t fun j hj => ?_]
            · exact ha0.slots t u hu
            · rcases hp.look i o t j ho ht hj with ⟨h1, _⟩ | ⟨_, h2⟩
              · obtain ⟨oj, hoj⟩ : ∃ oj, ops[j]? = some oj := ⟨ops[j]'(CD hj), by simp [CD hj]⟩
                have hdj : oj.dst = some t := by simpa [AX, hoj] using hj
                obtain ⟨v', hv', _⟩ := hz.val j oj t h1 hoj hdj
                rw [hl] at hv'; cases hv'
              · rcases h2 with h2 | ⟨oj, hoj, hed⟩
                · rw [hc] at h2; cases h2
                · cases hlj : listed.getD j false with
                  | false => rfl
                  | true =>
                    obtain ⟨e, he, hbd, hon⟩ := En hed
                    have h4 := S.closed j oj hlj hoj e he hbd
                    rw [hon, Array.getD_eq_getD_getElem?, AY hun] at h4; cases h4
        · rintro v' w' ⟨rfl, hext⟩
          show wpAny e.P .any ops (Q0 Q) fuel (listed.setIfInBounds i true) (a.put o.dst v') w'
          rw [hd]
          refine ih fuel' _ _ w' ⟨?_, ?_, by simp [Act.put, S.size], S.closed.set hir⟩ (by simpa using hsz) (by omega) (by rw [I8 _ hc, IY hv]; exact H.ext hext)
          · intro j hj hlj d' v' hd' hv' hlt
            by_cases hji : j = i
            · subst hji; rw [hdi, hd] at hd'; cases hd'; rw [hv] at hv'; cases hv'
              simp only [Act.put]
              have : d < a.tmps.size := by simpa [Act.put] using hlt
              simp [this]
            · rw [hset] at hlj; simp only [hji, if_false] at hlj
              have hne : d ≠ d' := fun e' => huq j hji d hd (by rw [hd', e'])
              simp only [Act.put, Array.getElem?_setIfInBounds_ne hne]
              exact S.pure j hj hlj d' v' hd' hv' (by simpa [Act.put] using hlt)
          · intro t ht
            have hne : d ≠ t := fun e' => by
              have := ht i (by rw [hdi, hd, e'])
              rw [hset] at this; simp at this
            simp only [Act.put, Array.getElem?_setIfInBounds_ne hne]
            exact S.old t fun j hj => by
              have := ht j hj
              rw [hset] at this
              by_cases hji : j = i
              · simp [hji] at this
              · simpa [hji] using this
      | false =>
        have hdz : ∀ t, o.dst = some t → lk z t = none := fun t ht => by
          cases hl : lk z t with
          | none => rfl
          | some v =>
            obtain ⟨_, j, hj, hd⟩ := hz.only t v hl
            have hji : j ≠ i := fun e' => by rw [e', hc] at hj; cases hj
            obtain ⟨oj, hoj⟩ : ∃ oj, ops[j]? = some oj := ⟨ops[j]'(CD hd), by simp [CD hd]⟩
            obtain ⟨_, _, huq⟩ := hp.plain j oj hoj hj
            exact absurd (by rw [hdi, ht]) (huq i (Ne.symm hji) t (by simpa [AX, hoj] using hd))
        have hir' : i ∈ Region.ready .any ops (un pu listed) := mem_ready.2 ⟨by rw [Ha _ _ _ _ (by omega), hun, hc]; rfl, o, ho, fun e he hbd => by
          have h1 := hb i o ho e he hbd
          rw [Ha _ _ _ _ (by omega), BQ e he hbd]; rfl⟩
        obtain ⟨s', h', ms', g1, g2, g3, g4⟩ := H
        cases fuel' with
        | zero => rw [g4.1] at hir'; cases hir'
        | succ fuel' =>
          obtain ⟨o', ho', HW⟩ := g4.2 i hir'
          rw [ho] at ho'
          cases ho'
          have H' := HW (zA z a) w g1 g2
          unfold wpList at H'
          rw [← T6] at H'
          have hwant : Region.wanted o (yielded ops (zA z a).tmps) = Region.wanted o (yielded ops a.tmps) := by
            unfold Region.wanted
            cases hg : o.guard with
            | none => rfl
            | some p =>
              obtain ⟨j, b⟩ := p
              have : yielded ops (zA z a).tmps j = yielded ops a.tmps j := by
                unfold yielded
                cases hd : (ops[j]?).bind (·.dst) with
                | none => rfl
                | some t =>
                  have ht : t ∈ o.looksAt ops := by
                    unfold Oper.looksAt
                    refine List.mem_append_right _ ?_
                    simp only [hg]
                    rw [hd]; simp
                  simp [hd, hsame t ht]
              simp only [this]
          rw [hwant] at H'
          have hnext : ∀ b w v, b.tmps = (a.put o.dst v).tmps → QB e ops Q h0 fuel' (un pu (listed.setIfInBounds i true)) .normal (zA z b) w → wpAny e.P .any ops (Q0 Q) fuel (listed.setIfInBounds i true) b w := fun b w v hbt hh => by
            have hbget : ∀ t, o.dst ≠ some t → b.tmps[t]? = a.tmps[t]? := fun t ht => by
              rw [hbt]
              cases hd : o.dst with
              | none => rfl
              | some d =>
                have : d ≠ t := fun e' => ht (by rw [hd, e'])
                simp only [Act.put, Array.getElem?_setIfInBounds_ne this]
            have hbs : b.tmps.size = a.tmps.size := by rw [hbt]; cases o.dst <;> simp [Act.put]
            refine ih fuel' _ b w ⟨?_, ?_, by rw [hbs, S.size], S.closed.set hir⟩ (by simpa using hsz) (by omega) hh.2
            · intro j hj hlj d' v' hd' hv' hlt
              have hji : j ≠ i := fun e' => by rw [e', hc] at hj; cases hj
              rw [hset] at hlj; simp only [hji, if_false] at hlj
              have hne : o.dst ≠ some d' := fun e' => by rw [hdz d' e'] at hv'; cases hv'
              rw [hbget d' hne]
              exact S.pure j hj hlj d' v' hd' hv' (by rw [← hbs]; exact hlt)
            · intro t ht
              rw [hbget t (fun e' => by
                have := ht i (by rw [hdi, e'])
                rw [hset] at this; simp at this)]
              exact S.old t fun j hj => by
                have := ht j hj
                rw [hset] at this
                by_cases hji : j = i
                · simp [hji] at this
                · simpa [hji] using this
          split
          · rename_i hw
            rw [if_pos hw] at H'
            rcases H' with H' | ⟨_, H'⟩
            · exact .inl (Oper.wp_sim' (fun x a w h => h.1) LW hx hdz hnext H')
            · exact absurd H' LW
          · rename_i hw
            rw [if_neg hw] at H'
            exact hnext _ _ undef rfl (by rw [Fs hdz]; exact H')
def GI (P : Program) (l : List Oper) (n : Nat) (s : Ar) (h0 : Hp) (K : Ar → Prop) : List Nat → Ar → Prop
  | [], z => K z
  | i :: r, z => ∃ o d v, l[i]? = some o ∧ o.dst = some d ∧ d < n ∧ lk (z ++ s) d = none ∧ OX P o (z ++ s) h0 [] v ∧ GI P l n s h0 K r ((d, v) :: z)
theorem OX.mono_s {P : Program} {s : Ar} {h : Hp} {ms : List Hp} {d : Nat} {u : Value} (k : OX P o s h ms v) (hd : lk s d = none) : OX P o ((d, u) :: s) h ms v := fun ρ w hρ hw =>
  k ρ w (fun x u' hx => hρ x u' (by
    cases x with
    | tmp t =>
      have : d ≠ t := fun e => by subst e; simp only [ev] at hx; rw [hd] at hx; cases hx
      simp only [ev] at hx ⊢; rw [Bd _ _ this]; exact hx
    | const v => exact hx
    | global g => exact hx
    | func f => exact hx)) hw
theorem Nu {P : Program} {s : Ar} {h0 : Hp} {K : Ar → Prop} : ∀ (r done : List Nat) (z : Ar),
    (∀ i ∈ done, ∀ o d, l[i]? = some o → o.dst = some d → ∃ v, lk z d = some v ∧ OX P o (z ++ s) h0 [] v) → (∀ t v, lk z t = some v → t < n ∧ ∃ i ∈ done, AX l.toArray i = some t) → GI P l n s h0 K r z →
    ∃ zf, K zf ∧ (∀ i, i ∈ done ∨ i ∈ r → ∀ o d, l[i]? = some o → o.dst = some d → ∃ v, lk zf d = some v ∧ OX P o (zf ++ s) h0 [] v) ∧ (∀ t v, lk zf t = some v → t < n ∧ ∃ i, (i ∈ done ∨ i ∈ r) ∧ AX l.toArray i = some t)
  | [], done, z, h1, h2, h3 => ⟨z, h3, fun i hi => h1 i (hi.resolve_right (by simp)), fun t v hv => by
      obtain ⟨g1, i, g2, g3⟩ := h2 t v hv
      exact ⟨g1, i, .inl g2, g3⟩⟩
  | j :: r, done, z, h1, h2, ⟨o, d, v, e1, e2, e3, e4, e5, e6⟩ => by
    have hzd : lk z d = none := by
      rw [BT] at e4
      cases hl : lk z d with
      | none => rfl
      | some u => rw [hl] at e4; cases e4
    obtain ⟨zf, g1, g2, g3⟩ := Nu r (j :: done) ((d, v) :: z) (fun i hi o' d' ho' hd' => by
      rcases List.mem_cons.1 hi with rfl | hi
      · rw [e1] at ho'; cases ho'; rw [e2] at hd'; cases hd'
        exact ⟨v, Bj _ _ _, e5.mono_s e4⟩
      · obtain ⟨v', f1, f2⟩ := h1 i hi o' d' ho' hd'
        refine ⟨v', ?_, f2.mono_s e4⟩
        have : d ≠ d' := fun e => by subst e; rw [hzd] at f1; cases f1
        rw [Bd _ _ this]; exact f1) (fun t u hu => by
      by_cases hdt : d = t
      · subst hdt; exact ⟨e3, j, by simp, by simp [AX, e1, e2]⟩
      · rw [Bd _ _ hdt] at hu
        obtain ⟨f1, i, f2, f3⟩ := h2 t u hu
        exact ⟨f1, i, List.mem_cons_of_mem _ f2, f3⟩) e6
    refine ⟨zf, g1, fun i hi => g2 i ?_, fun t u hu => ?_⟩
    · rcases hi with hi | hi
      · exact .inl (List.mem_cons_of_mem _ hi)
      · rcases List.mem_cons.1 hi with rfl | hi
        · exact .inl List.mem_cons_self
        · exact .inr hi
    · obtain ⟨f1, i, f2, f3⟩ := g3 t u hu
      refine ⟨f1, i, ?_, f3⟩
      rcases f2 with f2 | f2
      · rcases List.mem_cons.1 f2 with rfl | f2
        · exact .inr List.mem_cons_self
        · exact .inl f2
      · exact .inr (List.mem_cons_of_mem _ f2)
theorem Xg {P : Program} {s : Ar} {h0 : Hp} {K : Ar → Prop} {r : List Nat} {i d : Nat} (ho : l[i]? = some o) (hd : o.dst = some d) (hn : Nat.blt d n = true) (hf : lk (z ++ s) d = none) (hx : OX P o (z ++ s) h0 [] v) (k : GI P l n s h0 K r ((d, v) :: z)) : GI P l n s h0 K (i :: r) z :=
  ⟨o, d, v, ho, hd, Nat.le_of_ble_eq_true hn, hf, hx, k⟩
section
variable {e : Entry} {ops : Array Oper} {Q : Exit → Act → World → Prop} {h0 : Hp} {fuel : Nat} {listed : Array Bool} {s : Ar} {h : Hp} {ms : List Hp}
theorem VY (hl : h0.le h) (k : WB e ops Q h0 fuel listed s h ms) : NX e (QB e ops Q h0 fuel listed) .normal s h ms := fun a w ha hw => ⟨rfl, s, h, ms, ha, hw, hl, k⟩
theorem Wp (hr : Region.ready .any ops listed = []) (k : NX e Q .normal s h ms) : WB e ops Q h0 fuel listed s h ms := by
  cases fuel with
  | zero => exact ⟨hr, k⟩
  | succ n => exact ⟨fun _ => k, fun i hi => by rw [hr] at hi; cases hi⟩
def WBl (e : Entry) (ops : Array Oper) (Q : Exit → Act → World → Prop) (h0 : Hp) (fuel : Nat) (listed : Array Bool) (s : Ar) (h : Hp) (ms : List Hp) : List Nat → Prop
  | [] => True
  | i :: l => (∃ o, ops[i]? = some o ∧ WL e ops (QB e ops Q h0 fuel (listed.setIfInBounds i true)) [o] s h ms) ∧ WBl e ops Q h0 fuel listed s h ms l
theorem WBl.get : ∀ (l : List Nat), WBl e ops Q h0 fuel listed s h ms l → ∀ i ∈ l, ∃ o, ops[i]? = some o ∧ WL e ops (QB e ops Q h0 fuel (listed.setIfInBounds i true)) [o] s h ms
  | [], _, i, hi => by cases hi
  | j :: l, H, i, hi => by
    rcases List.mem_cons.1 hi with rfl | hi
    · exact H.1
    · exact WBl.get l H.2 i hi
theorem A3 : WBl e ops Q h0 fuel listed s h ms [] := trivial
theorem AB {i : Nat} {l : List Nat} (ho : ops[i]? = some o) (k : WL e ops (QB e ops Q h0 fuel (listed.setIfInBounds i true)) [o] s h ms) (k' : WBl e ops Q h0 fuel listed s h ms l) : WBl e ops Q h0 fuel listed s h ms (i :: l) := ⟨⟨o, ho, k⟩, k'⟩
theorem A0 (l : List Nat) (hr : Region.ready .any ops listed = l) (hne : l.isEmpty = false) (k : WBl e ops Q h0 fuel listed s h ms l) : WB e ops Q h0 (fuel + 1) listed s h ms :=
  ⟨fun h0 => (by rw [hr] at h0; subst h0; cases hne), fun i hi => k.get l i (by rw [hr] at hi; exact hi)⟩
end
theorem TE {e : Entry} {Q : Exit → Act → World → Prop} {s : Ar} {h : Hp} {ms : List Hp} {bs : List Bool} (m : List Bool) (hpu : JP (IB m 0) l.toArray = true) (hbk : HF l.toArray = true) (hn : l.length = n)
    (hbs : (List.range n).map (fun i => (IB m 0).contains i) = bs) (k : GI e.P l e.n s h (fun z => WB e l.toArray Q h n bs.toArray (z ++ s) h ms) (IB m 0) []) : ∀ a w, Has e.n e.ds a s → e.Ends w h ms → wpAny e.P .any l.toArray Q l.toArray.size (Array.replicate l.toArray.size false) a { w with drawn := w.drawn + 1 } := by
  intro a w ha hw
  obtain ⟨z, kw, hz1, hz2⟩ := Nu _ [] [] (by simp) (fun t v hv => by cases hv) k
  have PO := IZ hpu
  have HBk := HH hbk
  have hmem : ∀ i, (IB m 0).contains i = true ↔ i ∈ IB m 0 := fun i => List.contains_iff_mem
  have hZ : XI e.P (IB m 0) l.toArray s z e.n h := ⟨fun i o d hi ho hd => hz1 i (.inr ((hmem i).1 hi)) o d (by simpa using ho) hd, fun t v hv => by
    obtain ⟨g1, i, g2, g3⟩ := hz2 t v hv
    exact ⟨g1, i, (hmem i).2 (g2.resolve_left (by simp)), g3⟩⟩
  have hsz : l.toArray.size = n := by simpa using hn
  refine WN _ _ _ _ ?_
  refine W5 (h0 := h) ha PO HBk hZ _ n _ a _ ⟨fun i _ hi => (by rw [BB] at hi; cases hi), fun _ _ => rfl, rfl, fun i o hi => (by rw [BB] at hi; cases hi)⟩ (by simp) (by
    unfold left; rw [Array.toList_replicate]; exact Nat.le_trans (List.countP_le_length) (by simp)) ?_
  have e1 : un (IB m 0) (Array.replicate l.toArray.size false) = bs.toArray := by
    apply Array.ext_getElem?
    intro i
    rw [← hbs]
    rcases Nat.lt_or_ge i n with hi | hi
    · simp [un, hsz, hi]
    · simp [un]; simp at hsz; rw [List.getElem?_eq_none (by simpa using hi), Array.getElem?_eq_none (by simp; omega)]; rfl
  rw [e1]
  refine ⟨z ++ s, h, ms, ⟨ha.defers, by simp [zA, ha.size], fun t u hu => ?_⟩, Ends.drew hw, Hp.le_refl _, kw⟩
  rw [D9]
  rw [BT] at hu
  cases hl : lk z t with
  | some v =>
    rw [hl] at hu; cases hu
    have hlt : t < a.tmps.size := by rw [ha.size]; exact (hz2 t _ hl).1
    simp [hlt]
  | none => rw [hl] at hu; rw [ha.slots t u hu]; rfl
theorem B4 {e : Entry} {id : Nat} {Q : Exit → Act → World → Prop} {s : Ar} {h : Hp} {ms : List Hp} {bs : List Bool} (m : List Bool) (hm : e.P.follows .mixedOrders = true) (hpu : JP (IB m 0) l.toArray = true) (hbk : HF l.toArray = true) (hn : l.length = n)
    (hbs : (List.range n).map (fun i => (IB m 0).contains i) = bs) (k : GI e.P l e.n s h (fun z => WB e l.toArray Q h n bs.toArray (z ++ s) h ms) (IB m 0) []) : WS e (.region id l.toArray true) Q s h ms :=
  fun a w ha hw => wp_region_any hm (TE m hpu hbk hn hbs k a w ha hw)
theorem Seg.all {h : Hp} {p : Addr} {cs : List Value} (S : Seg h [] p cs) : ∀ i v, cs[i]? = some v → ∀ ms, Cell h ms (p.add i) v := fun i v hv ms => (S i v hv).any
end Go.Eng
namespace Go.Eng
open Go.RowKit
def Vl (w : World) : Hp := fun g => w.heap[g]?
theorem VR (w : World) : (Vl w).inW w := fun _ _ e => e
theorem Px {h : Hp} {w : World} (H : h.inW w) : h.le (Vl w) := fun g o e => H g o e
theorem Vt (w : World) : St w (Vl w) [] := ⟨VR w, fun m hm => by simp at hm, fun m hm => by simp at hm, List.Pairwise.nil⟩
theorem IK {P : Program} {f : FuncId} {args : Array Value} {h : Hp} {ms : List Hp} {v : Value} (k : ∀ h', h.le h' → (∀ m ∈ ms, m.le h') → FnV P f args h' [] v) : FnV P f args h ms v := fun w hw =>
  k (Vl w) (Px hw.imm) (fun m hm => Px (hw.own m hm)) w (Vt w)
section
variable {P : Program} {o : Oper} {s : Ar} {h : Hp} {ms : List Hp} {t u : TypeId} {x y : Operand} {a n : Nat}
theorem VD (ho : o.op = .binOp .shr t x y u) {k : IntKind} (hx : ev s x = some (.int .i64 a)) (hy : ev s y = some (.int k n)) (hn : n ≤ 64) : OX P o s h ms (.int .i64 ((a / 2 ^ n : Nat) : Int)) :=
  By fun ρ w hρ _ => by
    have h1 : ¬ ((n : Int) < 0) := by omega
    have h2 : min n 64 = n := Nat.min_eq_left hn
    have h3 : (a : Int).fdiv (2 ^ n) = ((a / 2 ^ n : Nat) : Int) := by
      rw [Int.fdiv_eq_ediv_of_nonneg _ (Int.le_of_lt (Int.pow_pos (by decide)))]; simp
    simp [execOp, ho, hρ _ _ hx, hρ _ _ hy, Op.shift, h1, IntKind.bits, h2, h3, go_sem]
theorem WG (ho : o.op = .binOp .and t x y u) (hx : ev s x = some (.int .i64 a)) (hy : ev s y = some (.int .i64 1)) (ha : a < 9223372036854775808) : OX P o s h ms (.int .i64 ((a % 2 : Nat) : Int)) :=
  By fun ρ w hρ _ => by
    have h3 : IntKind.i64.wrap (((BitVec.ofNat 64 a) &&& (BitVec.ofNat 64 1)).toNat : Int) = ((a % 2 : Nat) : Int) := by
      rw [BitVec.toNat_and, BitVec.toNat_ofNat, BitVec.toNat_ofNat, Nat.mod_eq_of_lt (by omega), Nat.mod_eq_of_lt (by omega), Nat.and_one_is_mod]
      exact Dd (by omega)
    simp [execOp, ho, hρ _ _ hx, hρ _ _ hy, Op.intBits, IntKind.bits, go_sem]
    exact h3
end
theorem Seg.ofLe {h : Hp} {g : Nat} {el : TypeId} {cs : List Value} (hl : (Bf g el cs).le h) : Seg h [] ⟨g, 0, none⟩ cs := fun j u hu => ⟨by unfold Addr.add; split <;> rfl, cs.toArray, el, (0, 0), .inl (by
    rw [CO]
    exact hl _ _ (Hp.one_self _ _)), by rw [DA]; simpa using hu⟩
section
open Go.Lin
variable {e : Entry} {Q : Exit → Act → World → Prop} {ops : Array Oper} {rest : List Oper} {o : Oper} {s : Ar} {h : Hp} {ms : List Hp}
end
section
variable {P : Program} {o : Oper} {s : Ar} {h : Hp} {ms : List Hp} {t el : TypeId} {x y lo hi : Operand} {v : Value} {sz n : Nat} {cs : List Value} {z : Value} {bytes : Nat} {k k' : IntKind} {h1' : Hp} {ms1' : List Hp}
theorem CH {i : Int} (j : Nat) (R : Rd h1' ms1' v sz n cs) (ho : o.op = .indexAddr t x y) (ht : P.underlying t = some (.slice el)) (hs : Elem P el sz z bytes) (hx : ev s x = some v) (hy : ev s y = some (.int k i)) (hi : i = (j : Int)) (hlt : j < n) : OX P o s h ms (.pointer (some ((AI v).add (j * sz)))) := by
  obtain ⟨c, e, _⟩ := R.val (by omega)
  rw [e] at hx
  exact F1 j ho ht hs hx hy hi hlt
theorem PM (R : Rd h1' ms1' v sz n cs) (ho : o.op = .call { callee := .builtin .len, args := #[x], argTypes := #[t] }) (ht : P.underlying t = some (.slice el)) (hx : ev s x = some v) : OX P o s h ms (.int .i64 n) := by
  obtain ⟨a, c, rfl, _⟩ := R.ex
  exact Oj (ty := t) ho ht hx
theorem MT {l : Int} (i : Nat) (R : Rd h1' ms1' v sz n cs) (ho : o.op = .slice t x (some lo) none none) (ht : P.underlying t = some (.slice el)) (hs : Elem P el sz z bytes) (hx : ev s x = some v) (hlo : ev s lo = some (.int k l)) (el' : l = (i : Int)) (h1 : i ≤ n) :
    OX P o s h ms (GJ sz v i n) := by
  obtain ⟨a, c, rfl, e2, e3, e4, e5⟩ := R.ex
  exact By fun ρ w hρ _ => by
    have g1 : (0 : Int) ≤ l ∧ l ≤ (n : Int) := by omega
    have g3 : l.toNat = i := by omega
    simp [execOp, ho, hρ _ _ hx, hρ _ _ hlo, Instr.sliceAt, Instr.slice, run_underlying ht, Instr.sliceBounds, Instr.sliceBound, asIntOf, g1, g3, hs.sizeOf, GJ]
theorem E2 {r : Int} (j : Nat) (R : Rd h1' ms1' v sz n cs) (ho : o.op = .slice t x none (some hi) none) (ht : P.underlying t = some (.slice el)) (hs : Elem P el sz z bytes) (hx : ev s x = some v) (hhi : ev s hi = some (.int k r)) (er : r = (j : Int)) (h2 : j ≤ n) :
    OX P o s h ms (GJ sz v 0 j) := by
  obtain ⟨a, c, rfl, e2, e3, e4, e5⟩ := R.ex
  exact By fun ρ w hρ _ => by
    have g2 : (0 : Int) ≤ r ∧ r ≤ (c : Int) := by omega
    have g4 : r.toNat = j := by omega
    simp [execOp, ho, hρ _ _ hx, hρ _ _ hhi, Instr.sliceAt, Instr.slice, run_underlying ht, Instr.sliceBounds, Instr.sliceBound, asIntOf, g2, g4, hs.sizeOf, GJ]
end
section
variable {e : Entry} {Q : Exit → Act → World → Prop} {ops : Array Oper} {rest : List Oper} {s : Ar} {h : Hp} {ms : List Hp} {c : Code} {a b : Hp}
theorem UL (k : WS e c Q s h (b :: a :: ms)) : WS e c Q s h (a :: b :: ms) := Jq (List.Perm.swap _ _ _) k
theorem CZ {g : Nat} {el : TypeId} {cs : List Value} (i : Nat) (hm : ms[i]? = some (Bf g el cs)) (k : ∀ h', h.le h' → Seg h' [] ⟨g, 0, none⟩ cs → WS e c Q s h' (ms.eraseIdx i)) : WS e c Q s h ms :=
  Jq (Cq hm) (AA k)
end
section
variable {e : Entry} {Q : Exit → Act → World → Prop} {s : Ar} {h : Hp} {ms : List Hp} {c : Code}
end
end Go.Eng
namespace Go.Eng
open Go.RowKit Go.Lin
theorem Ch (l : List Int) : l.flatMap cI = l.map fun x => Value.int .i64 x := by
  induction l with
  | nil => rfl
  | cons a l ih => rw [List.flatMap_cons, ih]; rfl
section
variable {e : Entry} {Q : Exit → Act → World → Prop} {ops : Array Oper} {rest : List Oper} {o : Oper} {s : Ar} {h : Hp} {ms : List Hp}
end
end Go.Eng
namespace Go.Eng
open Go.RowKit
variable {n l id : Nat} {P : Program} {w : World} {a : Act} {next : Act → World → Prop} {y x : Code} {args : Array Value} {post : Value → Hp → List Hp → Prop}
abbrev FR (l : Nat) : Fence := Fence.wide.inRound l
theorem Tj {f : FuncId} {R : Ending → World → Prop} (h : Calls P f args w R) : CallsIn (FR l) n P f args w R := by
  have := (callsIn_wide (n := n)).2 h
  exact this
theorem Lj {row : String} {R : Value → World → Prop} (h : Rows P row args w R) : RowsIn Fence.wide n P row args w R :=
  fun c cs _ => let ⟨v, w', r, s⟩ := h c cs; ⟨v, w', r, stepsIn_wide.2 s⟩
theorem Vz {row : String} {R : Value → World → Prop} (h : Rows P row args w R) : RowsIn (FR l) n P row args w R := Lj (n := n) h
theorem VL {o : Oper} {Q : Exit → Act → World → Prop} {r : Result Next} (h : o.upon P a next Q r) : o.uponIn (FR l) n P a next Q r := by
  have nod : (FR l).depth.isSome = true → 1 ≤ n := fun h => by cases h
  cases r with
  | ok x w' =>
    cases x <;> simp only [Oper.upon] at h <;> simp only [Oper.uponIn] <;>
      first
        | exact h
        | exact ⟨nod, (Tj h).mono fun e w he => by cases e <;> exact he⟩
        | exact ⟨nod, Vz h⟩
        | exact h.elim
  | halt x w' => cases x <;> simp only [Oper.upon] at h <;> simp only [Oper.uponIn] <;> first | exact h | exact h.elim
theorem QT {o : Oper} {Q : Exit → Act → World → Prop} {r : Result Next} (h : o.upon P a next Q r) : o.uponIn Fence.wide n P a next Q r := by
  have nod : Fence.wide.depth.isSome = true → 1 ≤ n := fun h => by cases h
  cases r with
  | ok x w' =>
    cases x <;> simp only [Oper.upon] at h <;> simp only [Oper.uponIn] <;>
      first
        | exact h
        | exact ⟨nod, (callsIn_wide.2 h).mono fun e w he => by cases e <;> exact he⟩
        | exact ⟨nod, Lj h⟩
        | exact h.elim
  | halt x w' => cases x <;> simp only [Oper.upon] at h <;> simp only [Oper.uponIn] <;> first | exact h | exact h.elim
theorem VE {o : Oper} {Q : Exit → Act → World → Prop} (hd : ∀ c, o.op ≠ .defer c) (h : o.wp P a w next Q) : o.wpIn (FR l) n P a w next Q :=
  ⟨fun _ _ => trivial, by rw [Oper.semAt_eq _ _ _ hd]; exact VL h⟩
theorem RQ {o : Oper} {Q : Exit → Act → World → Prop} (h : o.wp P a w next Q) : o.wpIn Fence.wide n P a w next Q :=
  ⟨fun _ _ => trivial, QT h⟩
def SK (o : Op) : Bool := match o with
  | .defer _ => true
  | _ => false
theorem TX {o : Op} (h : SK o = false) (c : Call) : o ≠ .defer c := fun e => by
  have h2 : SK (.defer c) = true := rfl
  rw [e, h2] at h
  cases h
def Kq : List Oper → Bool
  | [] => true
  | o :: l => !SK o.op && Kq l
theorem Kr : ∀ {l : List Oper}, Kq l = true → ∀ o ∈ l, ∀ c, o.op ≠ .defer c
  | [], _, o, ho, c => by cases ho
  | o' :: l, h, o, ho, c => by
    simp only [Kq, Bool.and_eq_true, Bool.not_eq_true'] at h
    rcases List.mem_cons.1 ho with rfl | ho
    · exact TX h.1 c
    · exact Kr h.2 o ho c
theorem L6 {k : Nat} {ops : Array Oper} {Q : Exit → Act → World → Prop} (hq : ¬ LetsOut Q) : ∀ (l : List Oper), Kq l = true → ∀ a w, wpList P ops Q l a w → wpListIn (FR k) n P ops Q l a w
  | [], _, a, w, h => h
  | o :: l, hn, a, w, h => by
    have hn2 : Kq l = true := by simp only [Kq, Bool.and_eq_true] at hn; exact hn.2
    have hd := Kr hn o (List.mem_cons_self)
    unfold wpList at h
    unfold wpListIn
    split at h
    · rename_i hw
      rw [if_pos hw]
      rcases h with h | h
      · exact Oper.wpIn_mono (fun a w => L6 hq l hn2 a w) (VE hd h)
      · exact absurd h.2 hq
    · rename_i hw
      rw [if_neg hw]
      exact ⟨fun _ _ => trivial, L6 hq l hn2 _ _ h⟩
def RS (e : Entry) (c : Code) (Q : Exit → Act → World → Prop) (s : Ar) (h : Hp) (ms : List Hp) : Prop :=
  ∀ l a w, Has e.n e.ds a s → e.Ends w h ms → ¬ LetsOut Q → c.wpIn (FR l) 0 e.P Q a w
def cR (e : Entry) (y : Code) (Q : Exit → Act → World → Prop) (a : Act) (w : World) : Prop := ∀ l, ¬ LetsOut Q → y.wpIn (FR l) 0 e.P Q a w
section
variable {e : Entry} {Q : Exit → Act → World → Prop} {s s' : Ar} {h : Hp} {ms : List Hp} {ops : Array Oper}
theorem OV (k : RS e x (Exit.then (cR e y Q) Q) s h ms) : RS e (.seq x y) Q s h ms := fun l a w ha hw hq =>
  wpIn_seq (wpIn_mono (k l a w ha hw fun ⟨a, w, h⟩ => hq ⟨a, w, h⟩) fun x a w q => by
    cases x with
    | normal => exact q l hq
    | _ => exact q)
theorem Kl (k : RS e y Q s h ms) : NX e (Exit.then (cR e y Q) Q) .normal s h ms := fun a w ha hw l hq => k l a w ha hw hq
theorem MU {c : Code} (k : RS e c (Exit.inBlock id Q) s h ms) : RS e (.block id c) Q s h ms :=
  fun l a w ha hw hq => wpIn_block (k l a w ha hw fun ⟨a, w, h⟩ => hq ⟨a, w, h⟩)
theorem Wy (k : NX e Q .ret s h ms) : RS e .ret Q s h ms := fun l a w ha hw _ => wpIn_ret (k a w ha hw)
theorem U8 (k : NX e Q .normal s h ms) : RS e .skip Q s h ms := fun l a w ha hw _ => wpIn_skip (k a w ha hw)
theorem U6 {t : Nat} {b : Bool} (hc : lk s t = some (.bool b)) (kt : b = true → RS e x Q s h ms) (kf : b = false → RS e y Q s h ms) : RS e (.cond (.tmp t) x y) Q s h ms :=
  fun l a w ha hw hq => wpIn_cond_split (ha.eval (.tmp t) _ hc) (fun hb => kt hb l a w ha hw hq) (fun hb => kf hb l a w ha hw hq)
theorem XJ {t : Nat} {p : Prop} {_ : Decidable p} (hc : lk s t = some (.bool (decide p))) (kt : p → RS e x Q s h ms) (kf : ¬ p → RS e y Q s h ms) : RS e (.cond (.tmp t) x y) Q s h ms :=
  U6 hc (fun hb => kt (of_decide_eq_true hb)) (fun hb => kf (of_decide_eq_false hb))
theorem DL {l : List Oper} (hn : Kq l = true) (k : WL e l.toArray Q l s h ms) : RS e (.region id l.toArray false) Q s h ms :=
  fun _ a w ha hw hq => wpIn_region_lit (L6 hq l hn a w (k a w ha hw))
end
abbrev UN (e : Entry) (I : Ar → Hp → List Hp → Prop) : Exit → Act → World → Prop := Exit.then (Inv e I) (fun _ _ _ => False)
theorem LO {e : Entry} {I : Ar → Hp → List Hp → Prop} : ¬ LetsOut (UN e I) := fun ⟨_, _, h⟩ => h
def Yd (P : Program) (l : Nat) (args : Array Value) (h : Hp) (ms : List Hp) (post : Value → Hp → List Hp → Prop) : Prop :=
  ∀ w, St w h ms → ∃ fn tmps assign body, (Instr.yield l args).run P w = .ok (.round l fn tmps assign body) w ∧ RoundIn Fence.wide 0 P l fn tmps assign body w (RP w h ms post)
def IL (e : Entry) (ops : Array Oper) (Q : Exit → Act → World → Prop) (l : List Oper) (s : Ar) (h : Hp) (ms : List Hp) : Prop :=
  ∀ a w, Has e.n e.ds a s → e.Ends w h ms → wpListIn Fence.wide 0 e.P ops Q l a w
section
variable {e : Entry} {Q : Exit → Act → World → Prop} {s : Ar} {h : Hp} {ms : List Hp} {ops : Array Oper} {o : Oper} {rest : List Oper}
theorem ED {l : List Oper} (k : IL e l.toArray Q l s h ms) : WS e (.region id l.toArray false) Q s h ms :=
  fun a w ha hw => wpIn_wide.1 (wpIn_region_lit (k a w ha hw))
theorem Iu (k : NX e Q .normal s h ms) : IL e ops Q [] s h ms := fun a w ha hw => k a w ha hw
theorem Fg {d : Nat} {v : Value} (hx : OX e.P o s h ms v) (hd : o.dst = some d) (hn : Nat.blt d e.n = true) (hg : o.guard = none) (k : IL e ops Q rest ((d, v) :: s) h ms) : IL e ops Q (o :: rest) s h ms := fun a w ha hw => by
  unfold wpListIn
  rw [if_pos (by simp [Region.wanted, hg])]
  refine RQ ((hx a.eval w ha.eval hw.st).wp fun v' w' ⟨e1, e2⟩ => ?_)
  subst e1; rw [hd]
  exact k _ _ (ha.put (Nat.le_of_ble_eq_true hn) _) (hw.ext e2)
theorem TN {x : Operand} {lp : Nat} {l : List Operand} {ts : Array TypeId} {vs : List Value} {d : Nat} (ho : o.op = .call { callee := .value x, args := l.toArray, argTypes := ts }) (hx : ev s x = some (.func (.yield lp) #[] #[])) (ha : MI s l = some vs) (k : Yd e.P lp vs.toArray h ms post) (hd : o.dst = some d) (hn : Nat.blt d e.n = true) (hg : o.guard = none)
    (K : ∀ v h' ms', h.le h' → post v h' ms' → IL e ops Q rest ((d, v) :: s) h' ms') : IL e ops Q (o :: rest) s h ms := fun a w hA hw => by
  unfold wpListIn
  rw [if_pos (by simp [Region.wanted, hg])]
  obtain ⟨fn, tmps, assign, body, hy, hr⟩ := k w hw.st
  have hrun : (execOp a.eval o).run e.P w = .ok (.round lp fn tmps assign body) w := by
    simp [execOp, ho, resolve, hA.eval _ _ hx, Deferred.ofValue, invoke, (show Evs s a.eval from hA.eval).map l vs ha, hy]
  refine ⟨fun _ _ => trivial, ?_⟩
  rw [Oper.semAt_eq _ _ _ (fun c e => by rw [ho] at e; cases e), hrun]
  refine ⟨(fun h => by cases h), hr.mono fun x w' ⟨r, h', ms', e1, e2, e3⟩ => ?_⟩
  subst e1
  show wpListIn _ _ _ _ _ _ (a.put o.dst r) w'
  rw [hd]
  refine K r h' ms' e2.le e3 _ _ (hA.put (Nat.le_of_ble_eq_true hn) _) ?_
  have := Ends.call (fr := []) (by rw [List.append_nil]; exact hw) e2
  rwa [List.append_nil] at this
end
def OS : List Nat → List Value → Ar → Ar
  | p :: ps, v :: vs, s => OS ps vs ((p, v) :: s)
  | _, _, s => s
theorem MG {ds : List Nat} {D : List Deferred} (hD : D = Yj ds) : ∀ (ps : List Nat) (vs : List Value) (s : Ar) (t : Array Value), (∀ p ∈ ps, p < n) → Has n ds { tmps := t, defers := D } s → Has n ds { tmps := (ps.zip vs).foldl (fun t (p, v) => t.setIfInBounds p v) t, defers := D } (OS ps vs s)
  | [], vs, s, t, _, H => by cases vs <;> exact H
  | p :: ps, [], s, t, _, H => H
  | p :: ps, v :: vs, s, t, hp, H => by
    show Has n ds { tmps := (ps.zip vs).foldl (fun t (p, v) => t.setIfInBounds p v) (t.setIfInBounds p v), defers := D } (OS ps vs ((p, v) :: s))
    exact MG hD ps vs _ _ (fun q hq => hp q (List.mem_cons_of_mem _ hq)) (H.put (hp p List.mem_cons_self) v)
def Mk (D : Nat) : Hp := Hp.one D (.deferred (some []))
theorem Ends.putL {w0 : World} {h0 h : Hp} {ms0 ms : List Hp} {o : Obj} (o' : Obj) (H : Ends w0 h0 ms0 w h (Hp.one l o :: ms)) : Ends w0 h0 ms0 (w.putObj l o') h (Hp.one l o' :: ms) := by
  have hl : w.heap[l]? = some o := H.st.own _ (List.mem_cons_self) l o (Hp.one_self l o)
  have hlt := (Array.getElem?_eq_some_iff.1 hl).1
  exact H.change rfl ⟨rfl, Nat.le_refl _⟩ rfl (by simp) (World.putObj_heap_same hlt) fun k _ hk => World.putObj_heap_other hk
theorem KX {f : FuncId} {fn : Func} {c : Code} {l : List Value} {h : Hp} {ms : List Hp}
    (hf : P.funcs[f]? = some fn) (hn : fn.ntmps = n) (hb : fn.body = some c) (hl : Nat.ble l.length n = true)
    (k : ∀ w0, St w0 h ms → WS ⟨P, w0, h, ms, n, []⟩ c (bodyPostM Fence.wide 0 P fn (RP w0 h ms post)) (A5 0 l) h ms) : FnT P f l.toArray h ms post := by
  intro w hw
  refine (callsIn_wide (n := 0)).1 (callsIn_of_wp_marks hf hb trivial (wpIn_wide.2 (k w hw _ w ?_ (Ends.refl hw))))
  have hl' := Nat.le_of_ble_eq_true hl
  refine ⟨rfl, by simp [hn]; omega, fun i v e => ?_⟩
  obtain ⟨_, h2⟩ := PJ l 0 i v e
  have hi : i < l.length := by
    rcases Nat.lt_or_ge i l.length with h' | h'
    · exact h'
    · rw [List.getElem?_eq_none (by omega)] at h2; cases h2
  simp only [Nat.sub_zero] at h2
  rw [Array.getElem?_append_left (by simpa using hi)]
  simpa using h2
theorem LV {w0 : World} {h0 : Hp} {ms0 : List Hp} {D : Nat} {fn : Func} {s : Ar} {h : Hp} {ms : List Hp} {x : Exit} (i : Nat) (hx : x = .normal ∨ x = .ret) (hm : ms[i]? = some (Mk D)) (k : NX ⟨P, w0, h0, ms0, n, []⟩ (bodyPost P fn (RP w0 h0 ms0 post)) x s h (ms.eraseIdx i)) :
    NX ⟨P, w0, h0, ms0, n, [D]⟩ (bodyPostM Fence.wide 0 P fn (RP w0 h0 ms0 post)) x s h ms := by
  intro a w ha hw
  have hp := hw.perm (Cq hm)
  have hD : w.heap[D]? = some (.deferred (some [])) := hp.st.own _ (List.mem_cons_self) D _ (Hp.one_self _ _)
  have hE := (Ends.putL (.deferred none) hp).drop
  have hb := k { a with defers := [] } _ ⟨rfl, ha.size, ha.slots⟩ hE
  have hd : a.defers = [{ target := .collected D, args := #[] }] := ha.defers
  have goal : LeavesInM Fence.wide 0 P fn a.tmps (RP w0 h0 ms0 post) a.defers .returning w := by
    rw [hd]
    refine ⟨by simp, .inl ⟨D, _, rfl, run_takeDeferred hD, ?_⟩⟩
    rcases hx with rfl | rfl <;> · obtain ⟨_, v, hr, hR⟩ := hb; exact ⟨v, hr, hR⟩
  rcases hx with rfl | rfl <;> exact goal
end Go.Eng
