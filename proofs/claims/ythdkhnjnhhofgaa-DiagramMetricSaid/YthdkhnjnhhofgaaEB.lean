/- The engine, part 9: a region whose order is open; operations that touch no memory are taken first. -/
import Derived.Test.YthdkhnjnhhofgaaEA
import Derived.Sort.AssemblyPlain
import Derived.Sort.LotD5
import Derived.Sort.Walk13a
import Derived.Lib.BitFns
import Derived.Laws.CopyRow
import Derived.Deep.Slices
import Derived.OpenShut
set_option linter.unusedSimpArgs false
set_option linter.unusedVariables false
namespace Go.Eng
open Go.RowKit

/-- The region's end alone. -/
def Q0 (Q : Exit → Act → World → Prop) : Exit → Act → World → Prop := fun x a w => x = .normal ∧ Q .normal a w
theorem q0_out {Q : Exit → Act → World → Prop} : ¬ LetsOut (Q0 Q) := fun h => by simp [LetsOut, Q0] at h
theorem nx_q0 {e : Entry} {Q : Exit → Act → World → Prop} {s : Slots} {h : Hp} {ms : List Hp} (k : NX e Q .normal s h ms) : NX e (Q0 Q) .normal s h ms := fun a w ha hw => ⟨rfl, k a w ha hw⟩

/-- An operation that touches no memory. -/
def PX (P : Program) (o : Oper) (s : Slots) (v : Value) : Prop := ∀ ρ, Evs s ρ → ∀ w, (execOp ρ o).run P w = .ok (.value v) w

def zA (z : Slots) (a : Act) : Act := { a with tmps := a.tmps.mapIdx fun k x => (lk z k).getD x }

theorem act_ext {a b : Act} (h1 : a.tmps = b.tmps) (h2 : a.defers = b.defers) : a = b := by cases a; cases b; cases h1; cases h2; rfl

theorem zA_get (z : Slots) (a : Act) (t : Nat) : (zA z a).tmps[t]? = (a.tmps[t]?).map fun x => (lk z t).getD x := by simp [zA]
theorem zA_put {z : Slots} {a : Act} {d : Option Nat} {v : Value} (h : ∀ t, d = some t → lk z t = none) : zA z (a.put d v) = (zA z a).put d v := by
  cases d with
  | none => rfl
  | some d =>
    refine act_ext ?_ rfl
    apply Array.ext_getElem?
    intro i
    rw [zA_get]
    simp only [Act.put, Array.getElem?_setIfInBounds]
    have hs : (zA z a).tmps.size = a.tmps.size := by simp [zA]
    by_cases hd : d = i
    · subst hd
      simp only [if_true, hs]
      by_cases hlt : d < a.tmps.size
      · simp [hlt, h d rfl]
      · simp [hlt]
    · simp only [hd, if_false]
      rw [zA_get]
theorem zA_put_same {z : Slots} {a : Act} {d : Nat} {v : Value} (h : lk z d = some v) : zA z (a.put (some d) v) = zA z a := by
  refine act_ext ?_ rfl
  apply Array.ext_getElem?
  intro i
  rw [zA_get, zA_get]
  simp only [Act.put, Array.getElem?_setIfInBounds]
  by_cases hd : d = i
  · subst hd
    by_cases hlt : d < a.tmps.size
    · simp [hlt, h]
    · simp [hlt]
  · simp [hd]

def pureOK (pu : List Nat) (ops : Array Oper) : Bool :=
  Region.noSelect ops &&
  (List.range ops.size).all fun i => match ops[i]? with
    | none => false
    | some o =>
      ((o.looksAt ops).all fun t => (List.range ops.size).all fun j => dstAt ops j != some t || (if pu.contains j then edge o j else (!pu.contains i || (match ops[j]? with | some oj => edge oj i | none => false)))) &&
      (if pu.contains i then o.guard.isNone && o.dst.isSome && ((List.range ops.size).all fun j => j == i || dstAt ops j != o.dst)
       else match o.guard with | none => true | some (j, _) => !pu.contains j)

structure POK (pu : List Nat) (ops : Array Oper) : Prop where
  nosel : Region.noSelect ops = true
  look : ∀ i o t j, ops[i]? = some o → t ∈ o.looksAt ops → dstAt ops j = some t → (pu.contains j = true ∧ edge o j = true) ∨ (pu.contains j = false ∧ (pu.contains i = false ∨ ∃ oj, ops[j]? = some oj ∧ edge oj i = true))
  plain : ∀ i o, ops[i]? = some o → pu.contains i = true → o.guard = none ∧ (∃ d, o.dst = some d) ∧ ∀ j, j ≠ i → ∀ d, o.dst = some d → dstAt ops j ≠ some d
  guard : ∀ i o j b, ops[i]? = some o → pu.contains i = false → o.guard = some (j, b) → pu.contains j = false

theorem dstAt_lt {ops : Array Oper} {j t : Nat} (h : dstAt ops j = some t) : j < ops.size := by
  unfold dstAt at h
  rcases Nat.lt_or_ge j ops.size with h' | h'
  · exact h'
  · rw [Array.getElem?_eq_none h'] at h; cases h

theorem pureOK_spec {pu : List Nat} {ops : Array Oper} (h : pureOK pu ops = true) : POK pu ops := by
  simp only [pureOK, Bool.and_eq_true, List.all_eq_true, List.mem_range] at h
  obtain ⟨h1, h2⟩ := h
  have at_ : ∀ i o, ops[i]? = some o → i < ops.size := fun i o e => (Array.getElem?_eq_some_iff.1 e).1
  refine ⟨h1, ?_, ?_, ?_⟩
  · intro i o t j e ht hd
    have := h2 i (at_ i o e)
    simp only [e, Bool.and_eq_true, List.all_eq_true, List.mem_range] at this
    have h3 := this.1 t ht j (dstAt_lt hd)
    cases hc : pu.contains j with
    | true => rw [hc] at h3; simp [hd] at h3; exact .inl ⟨rfl, h3⟩
    | false =>
      rw [hc] at h3; simp [hd] at h3
      refine .inr ⟨rfl, ?_⟩
      rcases h3 with h3 | h3
      · exact .inl (by simpa using h3)
      · right
        cases hoj : ops[j]? with
        | none => rw [hoj] at h3; cases h3
        | some oj => rw [hoj] at h3; exact ⟨oj, rfl, h3⟩
  · intro i o e hi
    have := h2 i (at_ i o e)
    simp only [e, Bool.and_eq_true, hi, if_true, List.all_eq_true, List.mem_range] at this
    obtain ⟨_, ⟨g1, g2⟩, g3⟩ := this
    refine ⟨by simpa using g1, by simpa [Option.isSome_iff_exists] using g2, fun j hj d hd hdj => ?_⟩
    have := g3 j (dstAt_lt hdj)
    simp [hj, hdj, hd] at this
  · intro i o j b e hi hg
    have := h2 i (at_ i o e)
    simp only [e, Bool.and_eq_true, hi, hg] at this
    simpa using this.2

section
variable {P : Program} {ops : Array Oper} {Q : Exit → Act → World → Prop}

theorem Oper.wp_sim {o : Oper} {z : Slots} {a : Act} {w : World} {K K' : Act → World → Prop} (hx : execOp (zA z a).eval o = execOp a.eval o) (hd : ∀ t, o.dst = some t → lk z t = none) (hK : ∀ b w v, b.tmps = (a.put o.dst v).tmps → K' (zA z b) w → K b w)
    (h : o.wp P (zA z a) w K' (Q0 Q)) : o.wp P a w K (Q0 Q) := by
  unfold Oper.wp at *
  rw [hx] at h
  generalize (execOp a.eval o).run P w = r at *
  have hv : ∀ v w, K' ((zA z a).put o.dst v) w → K (a.put o.dst v) w := fun v w hh => hK _ _ v rfl (by rw [zA_put hd]; exact hh)
  cases r with
  | ok n w' =>
    cases n <;> simp only [Oper.upon] at h ⊢ <;>
      first
        | exact hv _ _ h
        | exact Calls.mono h (fun e w'' he => by
            cases e
            · exact hv _ _ he
            · exact absurd he.1 (by simp)
            · exact absurd he q0_out)
        | exact Rows.mono h (fun _ _ he => hv _ _ he)
        | exact hK _ _ undef (by cases o.dst <;> rfl) (by rw [zA_put hd]; exact h)
  | halt x w' => cases x <;> simp only [Oper.upon] at h ⊢ <;> first | exact h | exact absurd h.1 (by simp)

/-- What stands between the run and the run in which the pure ones came first. -/
structure Sim (pu : List Nat) (ops : Array Oper) (z : Slots) (a0 a : Act) (listed : Array Bool) : Prop where
  pure : ∀ i, pu.contains i = true → listed.getD i false = true → ∀ d v, dstAt ops i = some d → lk z d = some v → d < a.tmps.size → a.tmps[d]? = some v
  old : ∀ t, (∀ j, dstAt ops j = some t → listed.getD j false = false) → a.tmps[t]? = a0.tmps[t]?
  size : a.tmps.size = a0.tmps.size
  closed : Closed ops listed

def un (pu : List Nat) (listed : Array Bool) : Array Bool := listed.mapIdx fun i b => b || pu.contains i
theorem un_get (pu : List Nat) (listed : Array Bool) (i : Nat) (b : Bool) (hi : i < listed.size) : (un pu listed).getD i b = (listed.getD i b || pu.contains i) := by
  simp [un, Array.getD_eq_getD_getElem?, hi]
theorem un_size (pu : List Nat) (listed : Array Bool) : (un pu listed).size = listed.size := by simp [un]
theorem un_set (pu : List Nat) (listed : Array Bool) (i : Nat) : un pu (listed.setIfInBounds i true) = (un pu listed).setIfInBounds i true := by
  apply Array.ext_getElem?
  intro j
  simp only [un, Array.getElem?_mapIdx, Array.getElem?_setIfInBounds, Array.size_mapIdx]
  by_cases hij : i = j
  · subst hij
    by_cases hlt : i < listed.size <;> simp [hlt]
  · simp [hij]
theorem un_set_pure {pu : List Nat} (listed : Array Bool) {i : Nat} (h : pu.contains i = true) : un pu (listed.setIfInBounds i true) = un pu listed := by
  apply Array.ext_getElem?
  intro j
  simp only [un, Array.getElem?_mapIdx, Array.getElem?_setIfInBounds]
  by_cases hij : i = j
  · subst hij
    by_cases hlt : i < listed.size
    · have hm : i ∈ pu := by simpa using h
      simp [hlt, hm]
    · simp [hlt]
  · simp [hij]

/-- What the pure ones yield. -/
structure ZOK (P : Program) (pu : List Nat) (ops : Array Oper) (s z : Slots) (n : Nat) : Prop where
  val : ∀ i o d, pu.contains i = true → ops[i]? = some o → o.dst = some d → ∃ v, lk z d = some v ∧ PX P o (z ++ s) v
  only : ∀ t v, lk z t = some v → t < n ∧ ∃ i, pu.contains i = true ∧ dstAt ops i = some t

/-- What is known of the slots that an operation looks at serves for the operation. -/
theorem run_looks {o : Oper} {a : Act} {s : Slots} {v : Value} (hs : ∀ cs b, o.op ≠ .select cs b) (hl : ∀ t ∈ o.looksAt ops, ∀ u, lk s t = some u → a.tmps[t]? = some u)
    (k : PX P o s v) (w : World) : (execOp a.eval o).run P w = .ok (.value v) w := by
  classical
  rw [execOp_congr (ρ := a.eval) (ρ' := fun x => if x ∈ o.op.operands then a.eval x else (ev s x).getD undef) o hs (fun x hx => (if_pos hx).symm)]
  refine k _ (fun x u hu => ?_) w
  show (if x ∈ o.op.operands then a.eval x else (ev s x).getD undef) = u
  split
  · rename_i hx
    cases x with
    | tmp t =>
      refine Act.eval_of_slot (hl t ?_ u hu)
      exact List.mem_append_left _ (List.mem_filterMap.2 ⟨.tmp t, by simpa using hx, rfl⟩)
    | const v => cases hu; rfl
    | global g => cases hu; rfl
    | func f => cases hu; rfl
  · rw [hu]; rfl

theorem sim_any {pu : List Nat} {s z : Slots} {n : Nat} {a0 : Act} (ha0 : Has n a0 s) (hp : POK pu ops) (hb : ∀ i o, ops[i]? = some o → ∀ e ∈ o.after, Region.binds .any e = true → e.on < i) (hz : ZOK P pu ops s z n) :
    ∀ fuel fuel' listed a w, Sim pu ops z a0 a listed → listed.size = ops.size → left listed ≤ fuel → wpAny P .any ops (Q0 Q) fuel' (un pu listed) (zA z a) w → wpAny P .any ops (Q0 Q) fuel listed a w := by
  -- all is listed
  have alldone : ∀ fuel' listed a w, Sim pu ops z a0 a listed → listed.size = ops.size → (∀ j, j < ops.size → listed.getD j false = true) → wpAny P .any ops (Q0 Q) fuel' (un pu listed) (zA z a) w → Region.ready .any ops listed = [] ∧ (Q0 Q) .normal a w := by
    intro fuel' listed a w S hsz hall H
    have noready : ∀ l' : Array Bool, (∀ j, j < ops.size → l'.getD j false = true) → Region.ready .any ops l' = [] := fun l' hl' => by
      cases hr : Region.ready .any ops l' with
      | nil => rfl
      | cons x xs =>
        have hx : x ∈ Region.ready .any ops l' := by rw [hr]; exact List.mem_cons_self
        obtain ⟨h0, o, ho, _⟩ := mem_ready.1 hx
        have := hl' x (Array.getElem?_eq_some_iff.1 ho).1
        have h2 := getD_false_some h0
        rw [Array.getD_eq_getD_getElem?, h2] at this; cases this
    have hr' := noready (un pu listed) (fun j hj => by rw [un_get _ _ _ _ (by omega), hall j hj]; rfl)
    have hQ : (Q0 Q) .normal (zA z a) w := by
      cases fuel' with
      | zero => exact H.2
      | succ f => exact H.1 hr'
    have hza : zA z a = a := by
      refine act_ext ?_ rfl
      apply Array.ext_getElem?
      intro t
      rw [zA_get]
      cases hl : lk z t with
      | none => simp
      | some v =>
        obtain ⟨hn, i, hi, hd⟩ := hz.only t v hl
        have hlt : t < a.tmps.size := by rw [S.size, ha0.size]; exact hn
        rw [S.pure i hi (hall i (dstAt_lt hd)) t v hd hl hlt]; rfl
    rw [hza] at hQ
    exact ⟨noready _ hall, hQ⟩
  have hall_of : ∀ listed : Array Bool, listed.size = ops.size → left listed = 0 → ∀ j, j < ops.size → listed.getD j false = true := fun listed hsz h0 j hj => by
    have h1 := left_zero h0 j
    have hjlt : j < listed.size := by omega
    rw [Array.getD_eq_getD_getElem?] at h1 ⊢
    simp [hjlt] at h1 ⊢; exact h1
  intro fuel
  induction fuel with
  | zero =>
    intro fuel' listed a w S hsz hle H
    exact alldone fuel' listed a w S hsz (hall_of listed hsz (by omega)) H
  | succ fuel ih =>
    intro fuel' listed a w S hsz hle H
    refine ⟨fun hr0 => ?_, fun i hir => ?_⟩
    · -- nothing is ready: all is listed
      refine (alldone fuel' listed a w S hsz ?_ H).2
      intro j
      induction j using Nat.strongRecOn with
      | _ j ihj =>
        intro hj
        cases hl : listed.getD j false with
        | true => rfl
        | false =>
          have ho : ops[j]? = some ops[j] := by simp [hj]
          have : j ∈ Region.ready .any ops listed := mem_ready.2 ⟨by
            have hjlt : j < listed.size := by omega
            rw [Array.getD_eq_getD_getElem?] at hl ⊢
            simp [hjlt] at hl ⊢; exact hl, _, ho, fun ed hed hbd => by
              have := hb j _ ho ed hed hbd
              exact ihj _ this (by omega)⟩
          rw [hr0] at this; cases this
    · obtain ⟨hun, o, ho, hall⟩ := mem_ready.1 hir
      have hilt : i < ops.size := (Array.getElem?_eq_some_iff.1 ho).1
      have hdi : dstAt ops i = o.dst := by simp [dstAt, ho]
      have hsel : ∀ cs b, o.op ≠ .select cs b := fun cs b => Region.noSelect_spec hp.nosel i o cs b ho
      have hls := left_set (getD_false_some hun)
      have hset : ∀ j d, (listed.setIfInBounds i true).getD j d = if j = i then true else listed.getD j d := fun j d => by
        by_cases hj : j = i
        · subst hj; simp [show j < listed.size by omega]
        · rw [getD_set_ne d (Ne.symm hj)]; simp [hj]
      -- the slots of pure ones that are looked at stand
      have hpl : ∀ t ∈ o.looksAt ops, ∀ v, lk z t = some v → a.tmps[t]? = some v ∧ ∃ j, pu.contains j = true ∧ dstAt ops j = some t := fun t ht v hv => by
        obtain ⟨hn, j, hj, hd⟩ := hz.only t v hv
        refine ⟨?_, j, hj, hd⟩
        rcases hp.look i o t j ho ht hd with ⟨_, h2⟩ | ⟨h2, _⟩
        · obtain ⟨e, he, hbd, rfl⟩ := edge_spec h2
          exact S.pure _ hj (hall e he hbd) t v hd hv (by rw [S.size, ha0.size]; exact hn)
        · rw [hj] at h2; cases h2
      have hsame : ∀ t ∈ o.looksAt ops, (zA z a).tmps[t]? = a.tmps[t]? := fun t ht => by
        rw [zA_get]
        cases hl : lk z t with
        | none => simp
        | some v => rw [(hpl t ht v hl).1]; rfl
      have hx : execOp (zA z a).eval o = execOp a.eval o := execOp_congr o hsel fun x hx => by
        cases x with
        | tmp t =>
          have := hsame t (List.mem_append_left _ (List.mem_filterMap.2 ⟨.tmp t, by simpa using hx, rfl⟩))
          simp only [Act.eval]
          rw [Array.getD_eq_getD_getElem?, this, ← Array.getD_eq_getD_getElem?]
        | const v => rfl
        | global g => rfl
        | func f => rfl
      unfold wpOp
      simp only [ho]
      cases hc : pu.contains i with
      | true =>
        obtain ⟨hg, ⟨d, hd⟩, huq⟩ := hp.plain i o ho hc
        obtain ⟨v, hv, hpx⟩ := hz.val i o d hc ho hd
        have hw : Region.wanted o (yielded ops a.tmps) = true := by unfold Region.wanted; rw [hg]
        rw [if_pos hw]
        refine .inl ?_
        unfold Oper.wp
        rw [← hx, run_looks (ops := ops) hsel (fun t ht u hu => ?_) hpx w]
        · show wpAny P .any ops (Q0 Q) fuel (listed.setIfInBounds i true) (a.put o.dst v) w
          rw [hd]
          refine ih fuel' _ _ w ⟨?_, ?_, by simp [Act.put, S.size], S.closed.set hir⟩ (by simpa using hsz) (by omega) (by rw [un_set_pure _ hc, zA_put_same hv]; exact H)
          · intro j hj hlj d' v' hd' hv' hlt
            by_cases hji : j = i
            · subst hji; rw [hdi, hd] at hd'; cases hd'; rw [hv] at hv'; cases hv'
              simp only [Act.put]
              have : d < a.tmps.size := by simpa [Act.put] using hlt
              simp [this]
            · rw [hset] at hlj; simp only [hji, if_false] at hlj
              have hne : d ≠ d' := fun e' => huq j hji d hd (by rw [hd', e'])
              simp only [Act.put, Array.getElem?_setIfInBounds_ne hne]
              exact S.pure j hj hlj d' v' hd' hv' (by simpa [Act.put] using hlt)
          · intro t ht
            have hne : d ≠ t := fun e' => by
              have := ht i (by rw [hdi, hd, e'])
              rw [hset] at this; simp at this
            simp only [Act.put, Array.getElem?_setIfInBounds_ne hne]
            exact S.old t fun j hj => by
              have := ht j hj
              rw [hset] at this
              by_cases hji : j = i
              · simp [hji] at this
              · simpa [hji] using this
        · rw [lk_append] at hu
          cases hl : lk z t with
          | some v' => rw [hl] at hu; cases hu; rw [hsame t ht]; exact (hpl t ht _ hl).1
          | none =>
            rw [hl] at hu
            rw [hsame t ht, S.old t fun j hj => ?_]
            · exact ha0.slots t u hu
            · rcases hp.look i o t j ho ht hj with ⟨h1, _⟩ | ⟨_, h2⟩
              · obtain ⟨oj, hoj⟩ : ∃ oj, ops[j]? = some oj := ⟨ops[j]'(dstAt_lt hj), by simp [dstAt_lt hj]⟩
                have hdj : oj.dst = some t := by simpa [dstAt, hoj] using hj
                obtain ⟨v', hv', _⟩ := hz.val j oj t h1 hoj hdj
                rw [hl] at hv'; cases hv'
              · rcases h2 with h2 | ⟨oj, hoj, hed⟩
                · rw [hc] at h2; cases h2
                · cases hlj : listed.getD j false with
                  | false => rfl
                  | true =>
                    obtain ⟨e, he, hbd, hon⟩ := edge_spec hed
                    have h4 := S.closed j oj hlj hoj e he hbd
                    rw [hon, Array.getD_eq_getD_getElem?, getD_false_some hun] at h4; cases h4
      | false =>
        have hdz : ∀ t, o.dst = some t → lk z t = none := fun t ht => by
          cases hl : lk z t with
          | none => rfl
          | some v =>
            obtain ⟨_, j, hj, hd⟩ := hz.only t v hl
            have hji : j ≠ i := fun e' => by rw [e', hc] at hj; cases hj
            obtain ⟨oj, hoj⟩ : ∃ oj, ops[j]? = some oj := ⟨ops[j]'(dstAt_lt hd), by simp [dstAt_lt hd]⟩
            obtain ⟨_, _, huq⟩ := hp.plain j oj hoj hj
            exact absurd (by rw [hdi, ht]) (huq i (Ne.symm hji) t (by simpa [dstAt, hoj] using hd))
        have hir' : i ∈ Region.ready .any ops (un pu listed) := mem_ready.2 ⟨by rw [un_get _ _ _ _ (by omega), hun, hc]; rfl, o, ho, fun e he hbd => by
          have h1 := hb i o ho e he hbd
          rw [un_get _ _ _ _ (by omega), hall e he hbd]; rfl⟩
        cases fuel' with
        | zero => rw [H.1] at hir'; cases hir'
        | succ fuel' =>
          have H' := H.2 i hir'
          rw [← un_set] at H'
          unfold wpOp at H'
          simp only [ho] at H'
          have hwant : Region.wanted o (yielded ops (zA z a).tmps) = Region.wanted o (yielded ops a.tmps) := by
            unfold Region.wanted
            cases hg : o.guard with
            | none => rfl
            | some p =>
              obtain ⟨j, b⟩ := p
              have : yielded ops (zA z a).tmps j = yielded ops a.tmps j := by
                unfold yielded
                cases hd : (ops[j]?).bind (·.dst) with
                | none => rfl
                | some t =>
                  have ht : t ∈ o.looksAt ops := by
                    unfold Oper.looksAt
                    refine List.mem_append_right _ ?_
                    simp only [hg]
                    rw [hd]; simp
                  simp [hd, hsame t ht]
              simp only [this]
          rw [hwant] at H'
          have hnext : ∀ b w v, b.tmps = (a.put o.dst v).tmps → wpAny P .any ops (Q0 Q) fuel' (un pu (listed.setIfInBounds i true)) (zA z b) w → wpAny P .any ops (Q0 Q) fuel (listed.setIfInBounds i true) b w := fun b w v hbt hh => by
            have hbget : ∀ t, o.dst ≠ some t → b.tmps[t]? = a.tmps[t]? := fun t ht => by
              rw [hbt]
              cases hd : o.dst with
              | none => rfl
              | some d =>
                have : d ≠ t := fun e' => ht (by rw [hd, e'])
                simp only [Act.put, Array.getElem?_setIfInBounds_ne this]
            have hbs : b.tmps.size = a.tmps.size := by rw [hbt]; cases o.dst <;> simp [Act.put]
            refine ih fuel' _ b w ⟨?_, ?_, by rw [hbs, S.size], S.closed.set hir⟩ (by simpa using hsz) (by omega) hh
            · intro j hj hlj d' v' hd' hv' hlt
              have hji : j ≠ i := fun e' => by rw [e', hc] at hj; cases hj
              rw [hset] at hlj; simp only [hji, if_false] at hlj
              have hne : o.dst ≠ some d' := fun e' => by rw [hdz d' e'] at hv'; cases hv'
              rw [hbget d' hne]
              exact S.pure j hj hlj d' v' hd' hv' (by rw [← hbs]; exact hlt)
            · intro t ht
              rw [hbget t (fun e' => by
                have := ht i (by rw [hdi, e'])
                rw [hset] at this; simp at this)]
              exact S.old t fun j hj => by
                have := ht j hj
                rw [hset] at this
                by_cases hji : j = i
                · simp [hji] at this
                · simpa [hji] using this
          split
          · rename_i hw
            rw [if_pos hw] at H'
            rcases H' with H' | ⟨_, H'⟩
            · exact .inl (Oper.wp_sim hx hdz hnext H')
            · exact absurd H' q0_out
          · rename_i hw
            rw [if_neg hw] at H'
            exact hnext _ _ undef rfl (by rw [zA_put hdz]; exact H')
end

def zap (o : Oper) : Oper := { o with dst := none, op := .move (.const undef), after := #[], guard := none }
def zapL : List Bool → List Oper → List Oper
  | true :: m, o :: l => zap o :: zapL m l
  | false :: m, o :: l => o :: zapL m l
  | _, l => l
def ixs : List Bool → Nat → List Nat
  | [], _ => []
  | true :: m, k => k :: ixs m (k + 1)
  | false :: m, k => ixs m (k + 1)

theorem mem_ixs : ∀ (m : List Bool) (k i : Nat), i ∈ ixs m k ↔ k ≤ i ∧ m[i - k]? = some true
  | [], k, i => by simp [ixs]
  | b :: m, k, i => by
    have ih := mem_ixs m (k + 1) i
    cases b with
    | true =>
      simp only [ixs, List.mem_cons, ih]
      by_cases hik : i = k
      · subst hik; simp
      · constructor
        · rintro (h | ⟨h1, h2⟩)
          · exact absurd h hik
          · refine ⟨by omega, ?_⟩
            rw [show i - k = (i - (k + 1)) + 1 by omega]; simpa using h2
        · rintro ⟨h1, h2⟩
          right
          refine ⟨by omega, ?_⟩
          rw [show i - k = (i - (k + 1)) + 1 by omega] at h2; simpa using h2
    | false =>
      simp only [ixs, ih]
      by_cases hik : i = k
      · subst hik; simp; omega
      · constructor
        · rintro ⟨h1, h2⟩
          refine ⟨by omega, ?_⟩
          rw [show i - k = (i - (k + 1)) + 1 by omega]; simpa using h2
        · rintro ⟨h1, h2⟩
          refine ⟨by omega, ?_⟩
          rw [show i - k = (i - (k + 1)) + 1 by omega] at h2; simpa using h2
theorem ixs_contains (m : List Bool) (i : Nat) : (ixs m 0).contains i = true ↔ m[i]? = some true := by
  rw [List.contains_iff_mem, mem_ixs]; simp
theorem zapL_get : ∀ (m : List Bool) (l : List Oper) (i : Nat), (zapL m l)[i]? = if m[i]? = some true then (l[i]?).map zap else l[i]?
  | [], l, i => by simp [zapL]
  | b :: m, [], i => by cases b <;> simp [zapL]
  | b :: m, o :: l, i => by
    cases b <;> cases i <;> simp [zapL, zapL_get m l]
theorem zapL_length : ∀ (m : List Bool) (l : List Oper), (zapL m l).length = l.length
  | [], l => by simp [zapL]
  | b :: m, [] => by cases b <;> simp [zapL]
  | b :: m, o :: l => by cases b <;> simp [zapL, zapL_length m l]

/-- Listed operations may be anything. -/
theorem any_same {P : Program} {ops ops' : Array Oper} {Q : Exit → Act → World → Prop} (pu : List Nat) (hsz : ops'.size = ops.size) (hs : ∀ i, pu.contains i = false → ops'[i]? = ops[i]?)
    (hg : ∀ i o j b, ops[i]? = some o → pu.contains i = false → o.guard = some (j, b) → pu.contains j = false) :
    ∀ fuel listed a w, (∀ i, i < ops.size → pu.contains i = true → listed.getD i false = true) → wpAny P .any ops' Q fuel listed a w → wpAny P .any ops Q fuel listed a w := by
  have hready : ∀ listed : Array Bool, (∀ i, i < ops.size → pu.contains i = true → listed.getD i false = true) → ∀ i, i ∈ Region.ready .any ops listed ↔ i ∈ Region.ready .any ops' listed := by
    intro listed hl i
    have hnp : listed.getD i true = false → i < ops.size → pu.contains i = false := fun h1 h2 => by
      cases hc : pu.contains i with
      | false => rfl
      | true =>
        have := hl i h2 hc
        rw [Array.getD_eq_getD_getElem?, getD_false_some h1] at this; cases this
    constructor
    · intro h
      obtain ⟨h1, o, h2, h3⟩ := mem_ready.1 h
      exact mem_ready.2 ⟨h1, o, by rw [hs i (hnp h1 (Array.getElem?_eq_some_iff.1 h2).1)]; exact h2, h3⟩
    · intro h
      obtain ⟨h1, o, h2, h3⟩ := mem_ready.1 h
      have hlt := (Array.getElem?_eq_some_iff.1 h2).1
      exact mem_ready.2 ⟨h1, o, by rw [← hs i (hnp h1 (by omega))]; exact h2, h3⟩
  have hempty : ∀ listed : Array Bool, (∀ i, i < ops.size → pu.contains i = true → listed.getD i false = true) → Region.ready .any ops listed = [] → Region.ready .any ops' listed = [] := fun listed hl h => by
    cases hr : Region.ready .any ops' listed with
    | nil => rfl
    | cons x xs =>
      have := (hready listed hl x).2 (by rw [hr]; exact List.mem_cons_self)
      rw [h] at this; cases this
  have hempty' : ∀ listed : Array Bool, (∀ i, i < ops.size → pu.contains i = true → listed.getD i false = true) → Region.ready .any ops' listed = [] → Region.ready .any ops listed = [] := fun listed hl h => by
    cases hr : Region.ready .any ops listed with
    | nil => rfl
    | cons x xs =>
      have := (hready listed hl x).1 (by rw [hr]; exact List.mem_cons_self)
      rw [h] at this; cases this
  intro fuel
  induction fuel with
  | zero => intro listed a w hl H; exact ⟨hempty' listed hl H.1, H.2⟩
  | succ fuel ih =>
    intro listed a w hl H
    refine ⟨fun h => H.1 (hempty listed hl h), fun i hi => ?_⟩
    have H' := H.2 i ((hready listed hl i).1 hi)
    obtain ⟨h1, o, ho, _⟩ := mem_ready.1 hi
    have hnp : pu.contains i = false := by
      cases hc : pu.contains i with
      | false => rfl
      | true =>
        have := hl i (Array.getElem?_eq_some_iff.1 ho).1 hc
        rw [Array.getD_eq_getD_getElem?, getD_false_some h1] at this; cases this
    have hl' : ∀ j, j < ops.size → pu.contains j = true → (listed.setIfInBounds i true).getD j false = true := fun j hj hc => getD_set_true (hl j hj hc)
    unfold wpOp at H' ⊢
    rw [hs i hnp] at H'
    simp only [ho] at H' ⊢
    have hy : Region.wanted o (yielded ops' a.tmps) = Region.wanted o (yielded ops a.tmps) := by
      unfold Region.wanted
      cases hgu : o.guard with
      | none => rfl
      | some p =>
        obtain ⟨j, b⟩ := p
        have : yielded ops' a.tmps j = yielded ops a.tmps j := by
          unfold yielded; rw [hs j (hg i o j b ho hnp hgu)]
        simp only [this]
    rw [hy] at H'
    split
    · rename_i hw
      rw [if_pos hw] at H'
      exact H'.imp (Oper.wp_mono fun a w h => ih _ a w hl' h) id
    · rename_i hw
      rw [if_neg hw] at H'
      exact ih _ _ _ hl' H'

def PZ (P : Program) (l : List Oper) (n : Nat) (s : Slots) (K : Slots → Prop) : List Nat → Slots → Prop
  | [], z => K z
  | i :: r, z => ∃ o d v, l[i]? = some o ∧ o.dst = some d ∧ d < n ∧ lk (z ++ s) d = none ∧ PX P o (z ++ s) v ∧ PZ P l n s K r ((d, v) :: z)

theorem PX.mono {P : Program} {o : Oper} {s : Slots} {v : Value} {d : Nat} {u : Value} (h : PX P o s v) (hd : lk s d = none) : PX P o ((d, u) :: s) v := fun ρ hρ w =>
  h ρ (fun x u' hx => hρ x u' (by
    cases x with
    | tmp t =>
      have : d ≠ t := fun e => by subst e; simp only [ev] at hx; rw [hd] at hx; cases hx
      simp only [ev] at hx ⊢; rw [lk_cons_ne _ _ this]; exact hx
    | const v => exact hx
    | global g => exact hx
    | func f => exact hx)) w

theorem pz_spec {P : Program} {l : List Oper} {n : Nat} {s : Slots} {K : Slots → Prop} : ∀ (r done : List Nat) (z : Slots),
    (∀ i ∈ done, ∀ o d, l[i]? = some o → o.dst = some d → ∃ v, lk z d = some v ∧ PX P o (z ++ s) v) → (∀ t v, lk z t = some v → t < n ∧ ∃ i ∈ done, dstAt l.toArray i = some t) → PZ P l n s K r z →
    ∃ zf, K zf ∧ (∀ i, i ∈ done ∨ i ∈ r → ∀ o d, l[i]? = some o → o.dst = some d → ∃ v, lk zf d = some v ∧ PX P o (zf ++ s) v) ∧ (∀ t v, lk zf t = some v → t < n ∧ ∃ i, (i ∈ done ∨ i ∈ r) ∧ dstAt l.toArray i = some t)
  | [], done, z, h1, h2, h3 => ⟨z, h3, fun i hi => h1 i (hi.resolve_right (by simp)), fun t v hv => by
      obtain ⟨g1, i, g2, g3⟩ := h2 t v hv
      exact ⟨g1, i, .inl g2, g3⟩⟩
  | j :: r, done, z, h1, h2, ⟨o, d, v, e1, e2, e3, e4, e5, e6⟩ => by
    have hzd : lk z d = none := by
      rw [lk_append] at e4
      cases hl : lk z d with
      | none => rfl
      | some u => rw [hl] at e4; cases e4
    obtain ⟨zf, g1, g2, g3⟩ := pz_spec r (j :: done) ((d, v) :: z) (fun i hi o' d' ho' hd' => by
      rcases List.mem_cons.1 hi with rfl | hi
      · rw [e1] at ho'; cases ho'; rw [e2] at hd'; cases hd'
        exact ⟨v, lk_cons_self _ _ _, e5.mono e4⟩
      · obtain ⟨v', f1, f2⟩ := h1 i hi o' d' ho' hd'
        refine ⟨v', ?_, f2.mono e4⟩
        have : d ≠ d' := fun e => by subst e; rw [hzd] at f1; cases f1
        rw [lk_cons_ne _ _ this]; exact f1) (fun t u hu => by
      by_cases hdt : d = t
      · subst hdt; exact ⟨e3, j, by simp, by simp [dstAt, e1, e2]⟩
      · rw [lk_cons_ne _ _ hdt] at hu
        obtain ⟨f1, i, f2, f3⟩ := h2 t u hu
        exact ⟨f1, i, List.mem_cons_of_mem _ f2, f3⟩) e6
    refine ⟨zf, g1, fun i hi => g2 i ?_, fun t u hu => ?_⟩
    · rcases hi with hi | hi
      · exact .inl (List.mem_cons_of_mem _ hi)
      · rcases List.mem_cons.1 hi with rfl | hi
        · exact .inl List.mem_cons_self
        · exact .inr hi
    · obtain ⟨f1, i, f2, f3⟩ := g3 t u hu
      refine ⟨f1, i, ?_, f3⟩
      rcases f2 with f2 | f2
      · rcases List.mem_cons.1 f2 with rfl | f2
        · exact .inr List.mem_cons_self
        · exact .inl f2
      · exact .inr (List.mem_cons_of_mem _ f2)

def backsOK (ops : Array Oper) : Bool := (List.range ops.size).all fun i => match ops[i]? with | none => false | some o => backs o i
theorem backsOK_spec {ops : Array Oper} (h : backsOK ops = true) : ∀ i o, ops[i]? = some o → ∀ e ∈ o.after, Region.binds .any e = true → e.on < i := by
  intro i o e ed hed hb
  simp only [backsOK, List.all_eq_true, List.mem_range] at h
  have := h i (Array.getElem?_eq_some_iff.1 e).1
  simp only [e] at this
  have h4 := Array.all_eq_true_iff_forall_mem.1 this ed hed
  simp [hb] at h4
  exact h4

/-- A region whose order is open, of which some operations touch no memory: these first. -/
theorem ws_drawP {e : Entry} {id : Nat} {l : List Oper} {Q : Exit → Act → World → Prop} {s : Slots} {h : Hp} {ms : List Hp} (np : Nat) (m : List Bool) (hm : e.P.follows .mixedOrders = true) (hp : preOK (ixs m 0) (zapL m l).toArray np = true) (hpu : pureOK (ixs m 0) l.toArray = true) (hbk : backsOK l.toArray = true)
    (k : PZ e.P l e.n s (fun z => freshB e.n ((zapL m l).take np) (z ++ s) = true ∧ WR e (zapL m l).toArray (Q0 Q) ((zapL m l).drop np) h ms ((zapL m l).take np) (z ++ s) [] []) (ixs m 0) []) : WS e (.region id l.toArray true) Q s h ms := by
  intro a w ha hw
  obtain ⟨z, ⟨hf, kw⟩, hz1, hz2⟩ := pz_spec _ [] [] (by simp) (fun t v hv => by cases hv) k
  have P := preOK_spec hp
  have PO := pureOK_spec hpu
  have HB := backsOK_spec hbk
  have hlen : (zapL m l).length = l.length := zapL_length m l
  have hmem : ∀ i, (ixs m 0).contains i = true ↔ i ∈ ixs m 0 := fun i => List.contains_iff_mem
  have hZ : ZOK e.P (ixs m 0) l.toArray s z e.n := ⟨fun i o d hi ho hd => hz1 i (.inr ((hmem i).1 hi)) o d (by simpa using ho) hd, fun t v hv => by
    obtain ⟨g1, i, g2, g3⟩ := hz2 t v hv
    exact ⟨g1, i, (hmem i).2 (g2.resolve_left (by simp)), g3⟩⟩
  refine wp_region_any hm (Q := Q) ?_
  have hq : wpAny e.P .any l.toArray (Q0 Q) l.toArray.size (Array.replicate l.toArray.size false) a { w with drawn := w.drawn + 1 } := by
    refine sim_any ha PO HB hZ _ l.toArray.size _ a _ ⟨fun i _ hi => (by rw [getD_replicate_false] at hi; cases hi), fun _ _ => rfl, rfl, fun i o hi => (by rw [getD_replicate_false] at hi; cases hi)⟩ (by simp) (by
      unfold left; rw [Array.toList_replicate]; exact Nat.le_trans (List.countP_le_length) (by simp)) ?_
    have hug : ∀ i, (un (ixs m 0) (Array.replicate l.toArray.size false)).getD i false = (ixs m 0).contains i := fun i => by
      rcases Nat.lt_or_ge i l.length with hi | hi
      · rw [un_get _ _ _ _ (by simpa using hi), getD_replicate_false]; rfl
      · rw [Array.getD_eq_getD_getElem?, Array.getElem?_eq_none (by simpa [un] using hi)]
        cases hc : (ixs m 0).contains i with
        | false => rfl
        | true =>
          have h1 := P.low i hc
          simp [hlen] at h1; omega
    refine any_same (ops' := (zapL m l).toArray) (ixs m 0) (by simp [hlen]) (fun i hi => ?_) PO.guard _ _ _ _ (fun i hi hc => by rw [hug]; exact hc) ?_
    · have : ¬ m[i]? = some true := fun h' => by rw [(ixs_contains m i).2 h'] at hi; cases hi
      simp only [List.getElem?_toArray]
      rw [zapL_get, if_neg this]
    · refine any_draw np hp hf kw (by simp [un, hlen]) hug (fun i o hi ho ed hed hb => ?_) (fun i hi => ?_) ?_ ⟨ha.defers, by simp [zA, ha.size], fun t u hu => ?_⟩ hw
      · rw [hug] at hi
        have := (ixs_contains m i).1 hi
        simp only [List.getElem?_toArray] at ho
        rw [zapL_get, if_pos this] at ho
        cases hl : l[i]? with
        | none => rw [hl] at ho; cases ho
        | some o' => rw [hl] at ho; cases ho; simp [zap] at hed
      · have := (ixs_contains m i).1 hi
        unfold dstAt
        simp only [List.getElem?_toArray]
        rw [zapL_get, if_pos this]
        cases l[i]? <;> rfl
      · unfold left
        refine Nat.le_trans (List.countP_le_length) ?_
        simp [un]
      · rw [zA_get]
        rw [lk_append] at hu
        cases hl : lk z t with
        | some v =>
          rw [hl] at hu; cases hu
          have hlt : t < a.tmps.size := by rw [ha.size]; exact (hz2 t _ hl).1
          simp [hlt]
        | none => rw [hl] at hu; rw [ha.slots t u hu]; rfl
  -- the end alone
  have hmono : ∀ fuel listed a w, wpAny e.P .any l.toArray (Q0 Q) fuel listed a w → wpAny e.P .any l.toArray Q fuel listed a w := by
    intro fuel
    induction fuel with
    | zero => intro listed a w H; exact ⟨H.1, H.2.2⟩
    | succ fuel ih =>
      intro listed a w H
      refine ⟨fun h => (H.1 h).2, fun i hi => ?_⟩
      have H' := H.2 i hi
      unfold wpOp at H' ⊢
      split
      · rename_i ho; simp only [ho] at H'; exact ih _ _ _ H'
      · rename_i o ho
        simp only [ho] at H'
        split
        · rename_i hw
          rw [if_pos hw] at H'
          rcases H' with H' | ⟨_, H'⟩
          · refine .inl ?_
            unfold Oper.wp at *
            generalize (execOp a.eval o).run e.P w = r at *
            cases r with
            | ok n w' =>
              cases n <;> simp only [Oper.upon] at H' ⊢ <;>
                first
                  | exact ih _ _ _ H'
                  | exact Calls.mono H' (fun x w'' he => by
                      cases x
                      · exact ih _ _ _ he
                      · exact absurd he.1 (by simp)
                      · exact absurd he q0_out)
                  | exact Rows.mono H' (fun _ _ he => ih _ _ _ he)
            | halt x w' => cases x <;> simp only [Oper.upon] at H' ⊢ <;> first | exact H' | exact absurd H'.1 (by simp)
          · exact absurd H' q0_out
        · rename_i hw
          rw [if_neg hw] at H'
          exact ih _ _ _ H'
  exact hmono _ _ _ _ hq

section
variable {P : Program} {l : List Oper} {n : Nat} {s z : Slots} {K : Slots → Prop} {r : List Nat} {i d : Nat} {o : Oper} {v : Value}
theorem pz_x (ho : l[i]? = some o) (hd : o.dst = some d) (hn : Nat.blt d n = true) (hf : lk (z ++ s) d = none) (hx : PX P o (z ++ s) v) (k : PZ P l n s K r ((d, v) :: z)) : PZ P l n s K (i :: r) z :=
  ⟨o, d, v, ho, hd, Nat.le_of_ble_eq_true hn, hf, hx, k⟩
theorem px_move {x : Operand} (ho : o.op = .move x) (hx : ev s x = some v) : PX P o s v := fun ρ hρ w => by simp [execOp, ho, hρ _ _ hx]
end
section
variable {e : Entry} {ops : Array Oper} {Q : Exit → Act → World → Prop} {tl : List Oper} {h : Hp} {ms : List Hp} {l : List Oper} {o : Oper} {s : Slots} {q : List (Nat × VP)} {al : List (Nat × Nb)}
/-- One that came first. -/
theorem wr_z (hd : o.dst = none) (hg : o.guard = none) (ho : o.op = .move (.const undef)) (k : WR e ops Q tl h ms l s q al) : WR e ops Q tl h ms (o :: l) s q al :=
  .inl ⟨undef, .inl ⟨.plain hg, ox_move ho rfl⟩, by rw [hd]; exact k⟩
end
end Go.Eng

/- The engine, part 10: elements that are stored; arrays. -/
set_option linter.unusedSimpArgs false
set_option linter.unusedVariables false
namespace Go.Eng
open Go.RowKit

section
variable {P : Program} {o : Oper} {s : Slots} {t u : TypeId} {x y : Operand} {a b : Int}
theorem px_add (ho : o.op = .binOp .add t x y u) (hx : ev s x = some (.int .i64 a)) (hy : ev s y = some (.int .i64 b)) (hr : -9223372036854775808 ≤ a + b ∧ a + b ≤ 9223372036854775807) : PX P o s (.int .i64 (a + b)) := fun ρ hρ w => by
  have : (execOp ρ o).run P w = .ok (.value (.int .i64 (IntKind.i64.wrap (a + b)))) w := by simp [execOp, ho, hρ _ _ hx, hρ _ _ hy, go_sem]
  rwa [wrap_i64 hr] at this
theorem px_sub (ho : o.op = .binOp .sub t x y u) (hx : ev s x = some (.int .i64 a)) (hy : ev s y = some (.int .i64 b)) (hr : -9223372036854775808 ≤ a - b ∧ a - b ≤ 9223372036854775807) : PX P o s (.int .i64 (a - b)) := fun ρ hρ w => by
  have : (execOp ρ o).run P w = .ok (.value (.int .i64 (IntKind.i64.wrap (a - b)))) w := by simp [execOp, ho, hρ _ _ hx, hρ _ _ hy, go_sem]
  rwa [wrap_i64 hr] at this
theorem px_mul (ho : o.op = .binOp .mul t x y u) (hx : ev s x = some (.int .i64 a)) (hy : ev s y = some (.int .i64 b)) (hr : -9223372036854775808 ≤ a * b ∧ a * b ≤ 9223372036854775807) : PX P o s (.int .i64 (a * b)) := fun ρ hρ w => by
  have : (execOp ρ o).run P w = .ok (.value (.int .i64 (IntKind.i64.wrap (a * b)))) w := by simp [execOp, ho, hρ _ _ hx, hρ _ _ hy, go_sem]
  rwa [wrap_i64 hr] at this
end

section
variable {e : Entry} {Q : Exit → Act → World → Prop} {ops : Array Oper} {rest : List Oper} {o : Oper} {s : Slots} {h : Hp} {ms : List Hp} {α : Type} {F : α → List Value} {l : List α} {v : Value} {m : Hp} {el : TypeId} {sz : Nat}

/-- One cell of an owned row. -/
theorem wl_storeE {t : TypeId} {x y : Operand} {u : Value} {z : Value} {bytes k : Nat} {l' : List α} (i : Nat) (O : OwnL F sz el m v l) (ho : o.op = .store t x y) (hs : Elem e.P t 1 z bytes) (hx : ev s x = some (.pointer (some ((vbase v).add k)))) (hy : ev s y = some u) (h1 : u.oneCell' = true)
    (hm : ms[i]? = some m) (hk : k < l.length * sz) (hset : (l.flatMap F).set k u = l'.flatMap F) (hl : l'.length = l.length) (hd : o.dst = none) (hg : o.guard = none)
    (K : ∀ m', OwnL F sz el m' v l' → WL e ops Q rest s h (ms.set i m')) : WL e ops Q (o :: rest) s h ms := by
  obtain ⟨⟨h2, h3⟩, hF⟩ := O
  rcases h3 with ⟨rfl, h4, rfl⟩ | ⟨g, cap, spare, rfl, rfl, e1, e2, e3⟩
  · rw [h4] at hk; simp at hk
  · refine wl_storeAt i k ho hs hx hy h1 hm rfl (by rw [List.length_append]; omega) hd hg (K _ ⟨⟨?_, .inr ⟨g, cap, spare, by rw [hl], ?_, ?_, by omega, e3⟩⟩, hF⟩)
    · rw [← hset, List.length_set, h2, hl]
    · rw [List.set_append_left _ _ (by omega), hset]
    · rw [← hset, List.length_append, List.length_set, ← List.length_append]; exact e1

/-- An element of one cell. -/
theorem wl_storeL1 {f : α → Value} {t : TypeId} {x y : Operand} {z : Value} {bytes : Nat} {a : α} (i j : Nat) (hF : ∀ x, F x = [f x]) (O : OwnL F 1 el m v l) (ho : o.op = .store t x y) (hs : Elem e.P t 1 z bytes) (hx : ev s x = some (.pointer (some ((vbase v).add (j * 1))))) (hy : ev s y = some (f a)) (h1 : (f a).oneCell' = true)
    (hm : ms[i]? = some m) (hj : j < l.length) (hd : o.dst = none) (hg : o.guard = none)
    (K : ∀ m', OwnL F 1 el m' v (l.set j a) → WL e ops Q rest s h (ms.set i m')) : WL e ops Q (o :: rest) s h ms := by
  have hF' : F = fun y => [f y] := funext hF
  refine wl_storeE i O ho hs hx hy h1 hm (by omega) ?_ (by simp) hd hg K
  rw [hF', Nat.mul_one]
  exact flatMap_set1 f l j a
/-- .. of an array. -/
theorem wl_storeA1 {f : α → Value} {t : TypeId} {x y : Operand} {z : Value} {bytes : Nat} {a : α} {d : Array α} (i j : Nat) (hF : ∀ x, F x = [f x]) (O : OwnL F 1 el m v d.toList) (ho : o.op = .store t x y) (hs : Elem e.P t 1 z bytes) (hx : ev s x = some (.pointer (some ((vbase v).add (j * 1))))) (hy : ev s y = some (f a)) (h1 : (f a).oneCell' = true)
    (hm : ms[i]? = some m) (hj : j < d.size) (hd : o.dst = none) (hg : o.guard = none)
    (K : ∀ m', OwnL F 1 el m' v (d.setIfInBounds j a).toList → WL e ops Q rest s h (ms.set i m')) : WL e ops Q (o :: rest) s h ms :=
  wl_storeL1 i j hF O ho hs hx hy h1 hm (by simpa using hj) hd hg fun m' O' => K m' (by rw [Array.toList_setIfInBounds]; exact O')

/-- An array's element, read. -/
theorem RdL.getA {f : α → Value} [Inhabited α] {d : Array α} (R : RdL F 1 h ms v d.toList) (hF : ∀ x, F x = [f x]) {j : Nat} (hj : j < d.size) : Cell h ms ((vbase v).add (j * 1)) (f d[j]!) := by
  refine R.cell0 (j := j) (by simpa using hj) ?_
  rw [hF]; simp [hj]
end
end Go.Eng

/- The engine, part 11: bits; contracts of the kit's shelf. -/
set_option linter.unusedSimpArgs false
set_option linter.unusedVariables false
namespace Go.Eng
open Go.RowKit

/-- A contract of the shelf that leaves the world. -/
theorem FnV.ofCalls {P : Program} {f : FuncId} {args : Array Value} {h : Hp} {ms : List Hp} {v : Value} (k : ∀ w, Calls P f args w (fun e w' => e = .returned v ∧ w' = w)) : FnV P f args h ms v :=
  fun w hw => (k w).mono fun x w' ⟨e1, e2⟩ => ⟨e1, by rw [e2]; exact Below.refl _ _⟩

theorem wrap_u64 {n : Int} (hn : 0 ≤ n ∧ n ≤ 18446744073709551615) : IntKind.u64.wrap n = n := IntWalk.u64_in n hn

section
variable {P : Program} {o : Oper} {s : Slots} {h : Hp} {ms : List Hp} {t u : TypeId} {x y : Operand} {a b n : Nat} {k : IntKind}
theorem ox_shlU (ho : o.op = .binOp .shl t x y u) (hx : ev s x = some (.int .u64 a)) (hy : ev s y = some (.int k n)) (hn : n ≤ 64) : OX P o s h ms (.int .u64 ((a * 2 ^ n % 18446744073709551616 : Nat) : Int)) :=
  ox_of fun ρ w hρ _ => by
    have h1 : ¬ ((n : Int) < 0) := by omega
    have h2 : min n 64 = n := Nat.min_eq_left hn
    have h3 : IntKind.u64.wrap ((a : Int) * 2 ^ n) = ((a * 2 ^ n % 18446744073709551616 : Nat) : Int) := by
      simp [IntKind.wrap, IntKind.bits, IntKind.signed]
    simp [execOp, ho, hρ _ _ hx, hρ _ _ hy, Op.shift, h1, IntKind.bits, h2, h3, go_sem]
theorem ox_shrU (ho : o.op = .binOp .shr t x y u) (hx : ev s x = some (.int .u64 a)) (hy : ev s y = some (.int k n)) (hn : n ≤ 64) : OX P o s h ms (.int .u64 ((a / 2 ^ n : Nat) : Int)) :=
  ox_of fun ρ w hρ _ => by
    have h1 : ¬ ((n : Int) < 0) := by omega
    have h2 : min n 64 = n := Nat.min_eq_left hn
    have h3 : (a : Int).fdiv (2 ^ n) = ((a / 2 ^ n : Nat) : Int) := by
      rw [Int.fdiv_eq_ediv_of_nonneg _ (Int.le_of_lt (Int.pow_pos (by decide)))]; simp
    simp [execOp, ho, hρ _ _ hx, hρ _ _ hy, Op.shift, h1, IntKind.bits, h2, h3, go_sem]
theorem ox_xorU (ho : o.op = .binOp .xor t x y u) (hx : ev s x = some (.int .u64 a)) (hy : ev s y = some (.int .u64 b)) (ha : a < 18446744073709551616) (hb : b < 18446744073709551616) : OX P o s h ms (.int .u64 ((a ^^^ b : Nat) : Int)) :=
  ox_of fun ρ w hρ _ => by
    have h0 : a ^^^ b < 2 ^ 64 := Nat.xor_lt_two_pow (by omega) (by omega)
    have h3 : IntKind.u64.wrap (((BitVec.ofNat 64 a) ^^^ (BitVec.ofNat 64 b)).toNat : Int) = ((a ^^^ b : Nat) : Int) := by
      rw [BitVec.toNat_xor, BitVec.toNat_ofNat, BitVec.toNat_ofNat, Nat.mod_eq_of_lt (by omega), Nat.mod_eq_of_lt (by omega)]
      exact wrap_u64 (by omega)
    simp [execOp, ho, hρ _ _ hx, hρ _ _ hy, Op.intBits, IntKind.bits, go_sem]
    exact h3
theorem ox_andU (ho : o.op = .binOp .and t x y u) (hx : ev s x = some (.int .u64 a)) (hy : ev s y = some (.int .u64 b)) (ha : a < 18446744073709551616) (hb : b < 18446744073709551616) : OX P o s h ms (.int .u64 ((a &&& b : Nat) : Int)) :=
  ox_of fun ρ w hρ _ => by
    have h0 : a &&& b ≤ a := Nat.and_le_left
    have h3 : IntKind.u64.wrap (((BitVec.ofNat 64 a) &&& (BitVec.ofNat 64 b)).toNat : Int) = ((a &&& b : Nat) : Int) := by
      rw [BitVec.toNat_and, BitVec.toNat_ofNat, BitVec.toNat_ofNat, Nat.mod_eq_of_lt (by omega), Nat.mod_eq_of_lt (by omega)]
      exact wrap_u64 (by omega)
    simp [execOp, ho, hρ _ _ hx, hρ _ _ hy, Op.intBits, IntKind.bits, go_sem]
    exact h3
end

theorem bitLenAux_eq : ∀ (f x : Nat), x < 2 ^ f → Lib.bitLenAux f x = Sort.bitsLen x
  | 0, x, h => by have : x = 0 := by omega
                  subst this; rfl
  | f + 1, x, h => by
    unfold Lib.bitLenAux
    split
    · rename_i h0; subst h0; rfl
    · rename_i h0
      rw [bitLenAux_eq f (x / 2) (by rw [Nat.pow_succ] at h; omega)]
      unfold Sort.bitsLen
      rw [if_neg h0]
      by_cases h1 : x / 2 = 0
      · have : x = 1 := by omega
        subst this; rfl
      · rw [if_neg h1]
        have h2 : 2 ≤ x := by omega
        conv => rhs; rw [Nat.log2_def]
        rw [if_pos h2]; omega
theorem bitLen_eq (x : Nat) (h : x < 18446744073709551616) : Lib.bitLen x = Sort.bitsLen x := bitLenAux_eq 64 x (by simpa using h)
end Go.Eng

/- The engine, part 12: guarded calls that hand over memory; copies. -/
set_option linter.unusedSimpArgs false
set_option linter.unusedVariables false
namespace Go.Eng
open Go.RowKit
section
variable {e : Entry} {Q : Exit → Act → World → Prop} {ops : Array Oper} {rest : List Oper} {o : Oper} {s : Slots} {h : Hp} {ms : List Hp}
theorem wl_gcall_ {f : FuncId} {l : List Operand} {ts : Array TypeId} {vs : List Value} {d j dj : Nat} {b : Bool} {oj : Oper} {pre fr : List Hp} {post : Value → Hp → List Hp → Prop} (ho : o.op = .call { callee := .value (.func f), args := l.toArray, argTypes := ts }) (hc : ∀ as w, (callFunc f as).run e.P w = .ok (.enter f as) w) (ha : evs s l = some vs) (k : FnT e.P f vs.toArray h pre post) (hm : ms = pre ++ fr) (hd : o.dst = some d) (hn : Nat.blt d e.n = true) (hg : o.guard = some (j, b)) (hj : ops[j]? = some oj) (hdj : oj.dst = some dj) (hv : lk s dj = some (.bool b))
    (K : ∀ v h' pre', h.le h' → post v h' pre' → WL e ops Q rest ((d, v) :: s) h' (pre' ++ fr)) : WL e ops Q (o :: rest) s h ms := by
  subst hm
  exact wl_gt (ot_call ho hc ha k) hd hn hg hj hdj hv fun v h' ms' ⟨pre', e1, e2, e3⟩ => by subst e1; exact K v h' pre' e2 e3
theorem wl_gcallv_ {x : Operand} {f : FuncId} {l : List Operand} {ts : Array TypeId} {fs cs vs : List Value} {d j dj : Nat} {b : Bool} {oj : Oper} {pre fr : List Hp} {post : Value → Hp → List Hp → Prop} (ho : o.op = .call { callee := .value x, args := l.toArray, argTypes := ts }) (hx : ev s x = some (.func (.func f) fs.toArray cs.toArray)) (hc : ∀ as w, (callFunc f as).run e.P w = .ok (.enter f as) w) (ha : evs s l = some vs) (k : FnT e.P f (fs ++ vs ++ cs).toArray h pre post) (hm : ms = pre ++ fr) (hd : o.dst = some d) (hn : Nat.blt d e.n = true) (hg : o.guard = some (j, b)) (hj : ops[j]? = some oj) (hdj : oj.dst = some dj) (hv : lk s dj = some (.bool b))
    (K : ∀ v h' pre', h.le h' → post v h' pre' → WL e ops Q rest ((d, v) :: s) h' (pre' ++ fr)) : WL e ops Q (o :: rest) s h ms := by
  subst hm
  exact wl_gt (ot_callv ho hx hc ha k) hd hn hg hj hdj hv fun v h' ms' ⟨pre', e1, e2, e3⟩ => by subst e1; exact K v h' pre' e2 e3

/-- A copy into a block of the caller's own, from whatever can be read. -/
theorem wl_copyB {t t2 el : TypeId} {x y : Operand} {a : Addr} {g of dLen dCap sLen d n : Nat} {u z : Value} {bytes : Nat} {cs cur : List Value} (i : Nat) (ho : o.op = .call { callee := .builtin .copy, args := #[x, y], argTypes := #[t, t2] }) (ht : e.P.underlying t = some (.slice el)) (hs : Elem e.P el 1 z bytes)
    (hx : ev s x = some (.slice (some a) dLen dCap)) (hy : ev s y = some u) (ha : a = ⟨g, of, none⟩) (R : Rd h ms u 1 sLen cs) (h0 : 0 < sLen) (hn : n = min sLen dLen) (hm : ms[i]? = some (Blk g el cur)) (hfit : of + n ≤ cur.length) (h1 : ∀ c ∈ cs, c.oneCell' = true)
    (hd : o.dst = some d) (hnd : Nat.blt d e.n = true) (hg : o.guard = none) (K : WL e ops Q rest ((d, .int .i64 n) :: s) h (ms.set i (Blk g el (cur.take of ++ cs.take n ++ cur.drop (of + n))))) : WL e ops Q (o :: rest) s h ms := by
  subst ha
  obtain ⟨a, c, rfl, e2, e3, e4, e5⟩ := R.ex
  obtain ⟨q, rfl, hq⟩ := e5 h0
  have hl : (cs.take n).length = n := by rw [List.length_take, e4, Nat.mul_one]; omega
  refine wl_t (post := fun v h' ms' => v = .int .i64 n ∧ h' = h ∧ ms' = ms.set i (Blk g el (cur.take of ++ cs.take n ++ cur.drop (of + n)))) (fun ρ w hρ hw => ?_) hd hnd hg fun v h' ms' ⟨e1, e2, e3⟩ => by subst e1 e2 e3; exact K
  have hgw : w.heap[g]? = some (.cells cur.toArray el (0, 0)) := hw.st.own _ (List.mem_of_getElem? hm) g _ (Hp.one_self _ _)
  have hrun := run_copy_row (P := e.P) w t t2 o.type el g of dLen dCap q sLen c cur.toArray el (cs.take n) ht (by
    have := hs.sizeOf w
    cases hq' : e.P.info? el with
    | none => simp [Go.sizeOf, Go.typeInfo, hq', go_sem] at this
    | some inf => simp [Go.sizeOf, Go.typeInfo, hq', go_sem] at this; simp [this]) hgw (by rw [hl]; exact hn) (fun j v hv => hw.st.cell (hq j v (by
      rw [List.getElem?_take] at hv; split at hv; · exact hv
      · cases hv))) (by rw [hl]; simpa using hfit) (fun v hv => h1 v (List.mem_of_mem_take hv))
  rw [hl] at hrun
  have : (execOp ρ o).run e.P w = .ok (.value (.int .i64 n)) (w.setRow g (cur.take of ++ cs.take n ++ cur.drop (of + n)).toArray) := by
    simp [execOp, ho, hρ _ _ hx, hρ _ _ hy, resolve, invoke, builtin, hrun, goInt]
  unfold OpRes; rw [this]
  exact ⟨h, _, Ends.put hw hm rfl rfl rfl (by simp) (setRow_heap w g _ _ _ _ hgw) (fun j hj hne => setRow_other w g j _ hne), rfl, rfl, rfl⟩
end
section
variable {e : Entry} {Q : Exit → Act → World → Prop} {ops : Array Oper} {rest : List Oper} {s : Slots} {h : Hp} {ms : List Hp}
theorem perm_erase {α : Type} : ∀ (l : List α) (i : Nat) (x : α), l[i]? = some x → l.Perm (x :: l.eraseIdx i)
  | [], _, _, h => by cases h
  | a :: l, 0, x, h => by simp at h; subst h; exact List.Perm.refl _
  | a :: l, i + 1, x, h => by
    rw [List.eraseIdx_cons_succ]
    exact ((perm_erase l i x (by simpa using h)).cons a).trans (List.Perm.swap _ _ _)
/-- One of the blocks is from here on immutable. -/
theorem ws_freezeI {c : Code} {g : Nat} {el : TypeId} {cs : List Value} (i : Nat) (hm : ms[i]? = some (Blk g el cs)) (k : ∀ h', h.le h' → Seg h' [] ⟨g, 0, none⟩ cs → WS e c Q s h' (ms.eraseIdx i)) : WS e c Q s h ms :=
  ws_perm (perm_erase ms i _ hm) (ws_freezeB k)
theorem wl_freezeI {g : Nat} {el : TypeId} {cs : List Value} (i : Nat) (hm : ms[i]? = some (Blk g el cs)) (k : ∀ h', h.le h' → Seg h' [] ⟨g, 0, none⟩ cs → WL e ops Q rest s h' (ms.eraseIdx i)) : WL e ops Q rest s h ms :=
  wl_perm (perm_erase ms i _ hm) (wl_freezeB k)
theorem ws_freezeLI {c : Code} {α : Type} {F : α → List Value} {sz : Nat} {el : TypeId} {v : Value} {l : List α} {m : Hp} (i : Nat) (O : OwnL F sz el m v l) (hm : ms[i]? = some m) (k : ∀ h', h.le h' → RdL F sz h' [] v l → WS e c Q s h' (ms.eraseIdx i)) : WS e c Q s h ms :=
  ws_perm (perm_erase ms i _ hm) (ws_freezeL O k)
theorem wl_freezeLI {α : Type} {F : α → List Value} {sz : Nat} {el : TypeId} {v : Value} {l : List α} {m : Hp} (i : Nat) (O : OwnL F sz el m v l) (hm : ms[i]? = some m) (k : ∀ h', h.le h' → RdL F sz h' [] v l → WL e ops Q rest s h' (ms.eraseIdx i)) : WL e ops Q rest s h ms :=
  wl_perm (perm_erase ms i _ hm) (wl_freezeL O k)
end
end Go.Eng

/- The engine, part 13: slices that are made in a region whose order is open. -/
set_option linter.unusedSimpArgs false
set_option linter.unusedVariables false
namespace Go.Eng
open Go.RowKit
section
variable {e : Entry} {ops : Array Oper} {Q : Exit → Act → World → Prop} {tl : List Oper} {h : Hp} {ms : List Hp} {l : List Oper} {o : Oper} {s : Slots} {q : List (Nat × VP)} {al : List (Nat × Nb)}
theorem wr_gb {d j dj : Nat} {b : Bool} {x : Nb} (hx : ONB e.P o s h ms x) (hd : o.dst = some d) (hg : o.guard = some (j, b)) (hj : dstAt ops j = some dj) (hv : lk s dj = some (.bool b)) (k : WR e ops Q tl h ms l s q (al ++ [(d, x)])) : WR e ops Q tl h ms (o :: l) s q al :=
  .inr (.inr ⟨x, ⟨.yes hg hj hv, ⟨d, hd⟩, hx⟩, by rw [hd]; exact k⟩)
theorem onb_make {P : Program} {t el : TypeId} {z : Value} {bytes n : Nat} {x y : Operand} {k1 k2 : IntKind} {l c : Int} (ho : o.op = .makeSlice t x y) (ht : P.underlying t = some (.slice el)) (hs : Elem P el 1 z bytes) (hz : z.cells = #[z])
    (hx : ev s x = some (.int k1 l)) (hy : ev s y = some (.int k2 c)) (hl : l = (n : Int)) (hc : c = (n : Int)) (hb : bytes * n ≤ 281474976710656) (h63 : n ≤ 9223372036854775807) : ONB P o s h ms ((el, List.replicate n z), fun g => .slice (some ⟨g, 0, none⟩) n n) := fun ρ w hρ hw => by
  obtain ⟨i, hi, hz', his, hib⟩ := hs.info
  have hb' : (i.bytes : Int) * c ≤ 281474976710656 := by
    rw [hib, hc]
    have h : ((bytes * n : Nat) : Int) ≤ 281474976710656 := by omega
    rwa [Int.natCast_mul] at h
  have hr := run_make (P := P) w t el i z ht hi hz' k1 k2 l c (by omega) (by omega) hb' (by omega)
  have : (execOp ρ o).run P w = .ok (.value (.slice (some ⟨w.heap.size, 0, none⟩) n n)) (w.alloc (.cells (List.replicate n z).toArray el)) := by
    have e1 : l.toNat = n := by omega
    have e2 : c.toNat = n := by omega
    rw [e1, e2, his, hz, Nat.mul_one, madeCells_one] at hr
    simp only [execOp, ho, hρ _ _ hx, hρ _ _ hy, Sem.run_bind, hr, Result.andThen_ok, Sem.run_pure]
  unfold OpRes; rw [this]; exact ⟨rfl, rfl⟩
end
end Go.Eng

/- The engine, part 14: a guard that says yes falls away. -/
set_option linter.unusedSimpArgs false
set_option linter.unusedVariables false
namespace Go.Eng
open Go.RowKit
section
variable {e : Entry} {Q : Exit → Act → World → Prop} {ops : Array Oper} {rest : List Oper} {o : Oper} {s : Slots} {h : Hp} {ms : List Hp}
theorem wl_yes {j dj : Nat} {b : Bool} {oj : Oper} (hg : o.guard = some (j, b)) (hj : ops[j]? = some oj) (hdj : oj.dst = some dj) (hv : lk s dj = some (.bool b))
    (k : WL e ops Q ({ o with guard := none } :: rest) s h ms) : WL e ops Q (o :: rest) s h ms := fun a w ha hw => by
  have h1 := k a w ha hw
  unfold wpList at h1 ⊢
  rw [if_pos (by simp [Region.wanted])] at h1
  rw [if_pos (by simp [Region.wanted, hg, ha.yields hj hdj hv])]
  exact h1
end
end Go.Eng

/- The engine, part 15: arguments that come in: the whole heap as what is immutable; slices that read as lists. -/
set_option linter.unusedSimpArgs false
set_option linter.unusedVariables false
namespace Go.Eng
open Go.RowKit Go.ChangeShapes Go.WideShapes Go.Deep

/-- All that is there. -/
def whole (w : World) : Hp := fun g => w.heap[g]?
theorem St.whole (w : World) : St w (whole w) [] := ⟨fun _ _ h => h, by simp, by simp, List.Pairwise.nil⟩
theorem Cell.ofW {w : World} {ms : List Hp} {a : Addr} {v : Value} (h : w.cell? a = some v) : Cell (whole w) ms a v := by
  unfold World.cell? at h
  split at h
  · rename_i c el fr hb
    split at h
    · cases h
    · rename_i hs
      exact ⟨by simpa using hs, c, el, fr, .inl hb, h⟩
  · cases h

theorem exists_list {α : Type} {Q : Nat → α → Prop} : ∀ n, (∀ i, i < n → ∃ a, Q i a) → ∃ l : List α, l.length = n ∧ ∀ i (hi : i < l.length), Q i l[i]
  | 0, _ => ⟨[], rfl, fun i hi => by simp at hi⟩
  | n + 1, h => by
    obtain ⟨l, hl, hq⟩ := exists_list n fun i hi => h i (by omega)
    obtain ⟨a, ha⟩ := h n (by omega)
    refine ⟨l ++ [a], by simp [hl], fun i hi => ?_⟩
    rw [List.getElem_append]
    split
    · exact hq i (by assumption)
    · have : i = n := by simp at hi; omega
      subst this; simpa using ha

section
variable {H : Type} {enc : TypeId × Value → H} {P : Program} {w : World} {base : Nat} {spare : Nat → Bool} {held : Bool}
/-- A slice among the arguments reads as a list. -/
theorem open_rdl {α : Type} {F : α → List Value} {Ok : α → Prop} {sz : Nat} {t e : TypeId} {fuel : Nat} {v : Value} {x : DataW H × List MemPlace} (ht : P.underlying t = some (.slice e)) (hC : P.cellsOf e = sz) (hF : ∀ x, (F x).length = sz) (hsz : 0 < sz)
    (hel : ∀ n cs y, DataW.trod enc P w base spare held n e cs = some y → ∃ a, cs = F a ∧ Ok a) (h : DataW.trod enc P w base spare held fuel t [v] = some x) : ∃ l, RdL F sz (whole w) [] v l ∧ ∀ a ∈ l, Ok a := by
  rcases open_slice ht h with ⟨h0, _⟩ | ⟨a, len, cap, m, n, D, Pl, hcs, hb, hl, hm, hmm, hx, hi⟩
  · simp only [List.cons.injEq, and_true] at h0
    subst h0
    exact ⟨[], ⟨⟨none, 0, rfl, by simp, by omega, by simp, fun h => by simp at h⟩, hF⟩, by simp⟩
  · simp only [List.cons.injEq, and_true] at hcs
    subst hcs
    rw [hC] at hi
    have hlm : len ≤ m := by rw [hmm]; split <;> omega
    obtain ⟨l, hll, hq⟩ := exists_list (α := α) (Q := fun i b => w.cells? base (a.add (i * sz)) sz = some (F b) ∧ Ok b) len fun i hi' => by
      obtain ⟨cs, h1, h2⟩ := hi i (by omega)
      obtain ⟨b, rfl, h3⟩ := hel n cs _ h2
      exact ⟨b, h1, h3⟩
    refine ⟨l, ⟨⟨some a, cap, by rw [hll], by omega, by unfold maxLen at hm; omega, flatMap_len hF l, fun _ => ⟨a, rfl, fun j u hj => ?_⟩⟩, hF⟩, fun b hb => ?_⟩
    · have hjl := (List.getElem?_eq_some_iff.1 hj).1
      rw [flatMap_len hF l] at hjl
      have h1 : j / sz < l.length := Nat.div_lt_of_lt_mul (by rw [Nat.mul_comm]; exact hjl)
      have h2 : j % sz < sz := Nat.mod_lt _ hsz
      have h3 : j / sz * sz + j % sz = j := by rw [Nat.mul_comm]; exact Nat.div_add_mod j sz
      have h4 := flatMap_get hF l (j / sz) h1 (j % sz) ((F l[j / sz])[j % sz]'(by rw [hF]; exact h2)) (List.getElem?_eq_getElem _)
      rw [h3, hj] at h4
      have h5 := Option.some.inj h4
      obtain ⟨_, _, hat⟩ := World.cells?_some (hq (j / sz) h1).1
      have h6 := hat (j % sz) h2
      rw [addr_add_add, h3] at h6
      refine Cell.ofW (h6.trans ?_)
      rw [List.getElem?_eq_getElem (by rw [hF]; exact h2), ← h5]
    · obtain ⟨i, hi', rfl⟩ := List.getElem_of_mem hb
      exact (hq i hi').2
/-- An array of integers. -/
theorem trod_ints {t e : TypeId} {k : IntKind} {n fuel : Nat} {cs : List Value} {x : DataW H × List MemPlace} (ht : P.underlying t = some (.array n e)) (he : P.underlying e = some (.int k)) (hc : P.cellsOf e = 1) (hct : P.cellsOf t = n) (h : DataW.trod enc P w base spare held fuel t cs = some x) :
    ∃ xs : List Int, xs.length = n ∧ cs = xs.map (Value.int k) ∧ ∀ x ∈ xs, (Lit.int k x).wf = true := by
  obtain ⟨ys, m, _, _, hlen, hyl, hi⟩ := DataW.trod_array ht h
  rw [hct] at hlen
  simp only [hc, Nat.mul_one] at hi
  obtain ⟨xs, hxl, hq⟩ := exists_list (α := Int) (Q := fun i b => cs[i]? = some (.int k b) ∧ (Lit.int k b).wf = true) n fun i hin => by
    have h1 := hi i hin
    have hic : i < cs.length := by omega
    rw [List.getElem?_eq_getElem (show i < ys.length by omega)] at h1
    obtain ⟨b, h2, _, h3⟩ := DataW.trod_int he h1
    have h4 : ((cs.drop i).take 1)[0]? = some (Value.int k b) := by rw [h2]; rfl
    rw [List.getElem?_take_of_lt (by decide), List.getElem?_drop] at h4
    exact ⟨b, h4, h3⟩
  refine ⟨xs, hxl, ?_, fun x hx => ?_⟩
  · refine List.ext_getElem (by simp [hlen, hxl]) fun i h1 h2 => ?_
    have h3 := (hq i (by omega)).1
    rw [List.getElem?_eq_getElem h1] at h3
    simpa using h3
  · obtain ⟨i, hi', rfl⟩ := List.getElem_of_mem hx
    exact (hq i hi').2
end
end Go.Eng

/- The engine, part 16: the greatest of several integers. -/
set_option linter.unusedSimpArgs false
set_option linter.unusedVariables false
namespace Go.Eng
open Go.RowKit
section
variable {P : Program} {o : Oper} {s : Slots} {h : Hp} {ms : List Hp} {x y z u : Operand} {a b c d : Int} {k k1 k2 k3 : IntKind} {ts : Array TypeId}
theorem ox_max3 (ho : o.op = .call { callee := .builtin .max, args := #[x, y, z], argTypes := ts }) (hx : ev s x = some (.int k a)) (hy : ev s y = some (.int k1 b)) (hz : ev s z = some (.int k2 c)) : OX P o s h ms (.int k (max (max a b) c)) :=
  ox_of fun ρ w hρ _ => by
    have e1 : (if b > a then b else a) = max a b := by omega
    have e2 : (if c > max a b then c else max a b) = max (max a b) c := by omega
    simp [execOp, ho, hρ _ _ hx, hρ _ _ hy, hρ _ _ hz, resolve, invoke, builtin, Builtin.max_, Builtin.max2, e1, e2]
theorem ox_max4 (ho : o.op = .call { callee := .builtin .max, args := #[x, y, z, u], argTypes := ts }) (hx : ev s x = some (.int k a)) (hy : ev s y = some (.int k1 b)) (hz : ev s z = some (.int k2 c)) (hu : ev s u = some (.int k3 d)) : OX P o s h ms (.int k (max (max (max a b) c) d)) :=
  ox_of fun ρ w hρ _ => by
    have e1 : (if b > a then b else a) = max a b := by omega
    have e2 : (if c > max a b then c else max a b) = max (max a b) c := by omega
    have e3 : (if d > max (max a b) c then d else max (max a b) c) = max (max (max a b) c) d := by omega
    simp [execOp, ho, hρ _ _ hx, hρ _ _ hy, hρ _ _ hz, hρ _ _ hu, resolve, invoke, builtin, Builtin.max_, Builtin.max2, e1, e2, e3]
    split <;> omega
end
theorem onb_buildSlice {P : Program} {o : Oper} {s : Slots} {h : Hp} {ms : List Hp} {t el : TypeId} {n sz : Nat} {z : Value} {bytes : Nat} {lp : List (Nat × Operand)} {vs : List (Nat × Value)} (ps : List (Nat × List Value)) (zl vl : List Value) (ho : o.op = .buildSlice t n lp.toArray) (ht : P.underlying t = some (.slice el)) (hs : Elem P el sz z bytes)
    (hv : evp s lp = some vs) (hb : n * sz ≤ 16777216) (hz : (Array.range (n * sz)).map (fun i => (if n * sz = 0 then #[] else z.cells)[i % (if n * sz = 0 then #[] else z.cells).size]!) = zl.toArray) (hps : PourOK (fun i => some (i * sz, sz)) zl.length vs ps) (hvl : pour zl ps = vl) :
    ONB P o s h ms ((el, vl), fun g => .slice (some ⟨g, 0, none⟩) n n) := fun ρ w hρ hw => by
  have hm : (lp.toArray.map fun (i, x) => (i, ρ x)) = vs.toArray := by
    rw [List.map_toArray, hρ.pairs lp vs hv]
  have : (execOp ρ o).run P w = .ok (.value (.slice (some ⟨w.heap.size, 0, none⟩) n n)) (w.alloc (.cells vl.toArray el)) := by
    simp only [execOp, ho, hm, Sem.run_bind, run_buildSlice ps zl vl ht hs hb hz hps hvl, Result.andThen_ok, Sem.run_pure]
  unfold OpRes; rw [this]; exact ⟨rfl, rfl⟩
end Go.Eng

/- The engine, part 17: slices and lengths taken first in a region whose order is open. -/
set_option linter.unusedSimpArgs false
set_option linter.unusedVariables false
namespace Go.Eng
open Go.RowKit
section
variable {P : Program} {o : Oper} {s : Slots} {h : Hp} {ms : List Hp} {t el : TypeId} {x lo hi : Operand} {z v : Value} {bytes sz n : Nat} {cs : List Value} {k k' : IntKind}
theorem px_sliceR_lh {l r : Int} (i j : Nat) (R : Rd h ms v sz n cs) (ho : o.op = .slice t x (some lo) (some hi) none) (ht : P.underlying t = some (.slice el)) (hs : Elem P el sz z bytes) (hx : ev s x = some v) (hlo : ev s lo = some (.int k l)) (hhi : ev s hi = some (.int k' r)) (el' : l = (i : Int)) (er : r = (j : Int)) (h1 : i ≤ j) (h2 : j ≤ n) :
    PX P o s (vsub sz v i j) := by
  obtain ⟨a, c, rfl, e2, e3, e4, e5⟩ := R.ex
  intro ρ hρ w
  have g1 : (0 : Int) ≤ l ∧ l ≤ (j : Int) := by omega
  have g2 : (0 : Int) ≤ r ∧ r ≤ (c : Int) := by omega
  have g3 : l.toNat = i := by omega
  have g4 : r.toNat = j := by omega
  simp [execOp, ho, hρ _ _ hx, hρ _ _ hlo, hρ _ _ hhi, Instr.sliceAt, Instr.slice, run_underlying ht, Instr.sliceBounds, Instr.sliceBound, asIntOf, g1, g2, g3, g4, hs.sizeOf, vsub]
theorem px_sliceR_l {l : Int} (i : Nat) (R : Rd h ms v sz n cs) (ho : o.op = .slice t x (some lo) none none) (ht : P.underlying t = some (.slice el)) (hs : Elem P el sz z bytes) (hx : ev s x = some v) (hlo : ev s lo = some (.int k l)) (el' : l = (i : Int)) (h1 : i ≤ n) :
    PX P o s (vsub sz v i n) := by
  obtain ⟨a, c, rfl, e2, e3, e4, e5⟩ := R.ex
  intro ρ hρ w
  have g1 : (0 : Int) ≤ l ∧ l ≤ (n : Int) := by omega
  have g3 : l.toNat = i := by omega
  simp [execOp, ho, hρ _ _ hx, hρ _ _ hlo, Instr.sliceAt, Instr.slice, run_underlying ht, Instr.sliceBounds, Instr.sliceBound, asIntOf, g1, g3, hs.sizeOf, vsub]
theorem px_sliceR_h {r : Int} (j : Nat) (R : Rd h ms v sz n cs) (ho : o.op = .slice t x none (some hi) none) (ht : P.underlying t = some (.slice el)) (hs : Elem P el sz z bytes) (hx : ev s x = some v) (hhi : ev s hi = some (.int k r)) (er : r = (j : Int)) (h2 : j ≤ n) :
    PX P o s (vsub sz v 0 j) := by
  obtain ⟨a, c, rfl, e2, e3, e4, e5⟩ := R.ex
  intro ρ hρ w
  have g2 : (0 : Int) ≤ r ∧ r ≤ (c : Int) := by omega
  have g4 : r.toNat = j := by omega
  simp [execOp, ho, hρ _ _ hx, hρ _ _ hhi, Instr.sliceAt, Instr.slice, run_underlying ht, Instr.sliceBounds, Instr.sliceBound, asIntOf, g2, g4, hs.sizeOf, vsub]
theorem px_lenR (R : Rd h ms v sz n cs) {ty : TypeId} (ho : o.op = .call { callee := .builtin .len, args := #[x], argTypes := #[ty] }) (ht : P.underlying ty = some (.slice el)) (hx : ev s x = some v) : PX P o s (.int .i64 n) := by
  obtain ⟨a, c, rfl, e2, e3, e4, e5⟩ := R.ex
  intro ρ hρ w
  simp [execOp, ho, hρ _ _ hx, resolve, invoke, builtin, Builtin.len_, run_underlying ht, goInt, go_sem, ht]
end
end Go.Eng
