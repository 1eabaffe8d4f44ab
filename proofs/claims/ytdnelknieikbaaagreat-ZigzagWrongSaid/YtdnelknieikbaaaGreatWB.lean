/- A part of the proof. -/
import Derived.Test.YtdnelknieikbaaaGreatWA
import Derived.Sort.AssemblyPlain
import Derived.Sort.LotD5
import Derived.Sort.Walk13a
import Derived.Lib.BitFns
import Derived.Laws.CopyRow
import Derived.Deep.Slices
import Derived.OpenShut
import Derived.Maps.RangeRun
import Derived.Maps.Keyed
import Derived.Carry
import Derived.Lib.SliceRun
import Derived.Scope
import Derived.RangeFuncLeaves
import Derived.RangeFuncRecord
import Derived.OrdersIn
import Derived.TacticsIn
import Derived.Shelf.GgSortFunc.InsertionK
import Derived.Test.YtdnelknieikbaaaGreatChecked
import Derived.KernelRfl
set_option linter.unusedSimpArgs false
set_option linter.unusedVariables false
namespace Go.Eng
open Go.RowKit
variable {a : Act} {pu : List Nat}
def Q0 (Q : Exit → Act → World → Prop) : Exit → Act → World → Prop := fun x a w => x = .normal ∧ Q .normal a w
theorem HD {Q : Exit → Act → World → Prop} : ¬ LetsOut (Q0 Q) := fun h => by simp [LetsOut, Q0] at h
theorem NQ {e : Entry} {Q : Exit → Act → World → Prop} {s : Ay} {h : Hp} {ms : List Hp} (k : NX e Q .normal s h ms) : NX e (Q0 Q) .normal s h ms := fun a w ha hw => ⟨rfl, k a w ha hw⟩
def PX (P : Program) (o : Oper) (s : Ay) (v : Value) : Prop := ∀ ρ, Evs s ρ → ∀ w, (execOp ρ o).run P w = .ok (.value v) w
def zA (z : Ay) (a : Act) : Act := { a with tmps := a.tmps.mapIdx fun k x => (lk z k).getD x }
theorem Ij {b : Act} (h1 : a.tmps = b.tmps) (h2 : a.defers = b.defers) : a = b := by cases a; cases b; cases h1; cases h2; rfl
theorem DY (z : Ay) (a : Act) (t : Nat) : (zA z a).tmps[t]? = (a.tmps[t]?).map fun x => (lk z t).getD x := by simp [zA]
theorem E2 {z : Ay} {d : Option Nat} {v : Value} (h : ∀ t, d = some t → lk z t = none) : zA z (a.put d v) = (zA z a).put d v := by
  cases d with
  | none => rfl
  | some d =>
    refine Ij ?_ rfl
    apply Array.ext_getElem?
    intro i
    rw [DY]
    simp only [Act.put, Array.getElem?_setIfInBounds]
    have hs : (zA z a).tmps.size = a.tmps.size := by simp [zA]
    by_cases hd : d = i
    · subst hd
      simp only [if_true, hs]
      by_cases hlt : d < a.tmps.size
      · simp [hlt, h d rfl]
      · simp [hlt]
    · simp only [hd, if_false]
      rw [DY]
theorem HP {z : Ay} {d : Nat} {v : Value} (h : lk z d = some v) : zA z (a.put (some d) v) = zA z a := by
  refine Ij ?_ rfl
  apply Array.ext_getElem?
  intro i
  rw [DY, DY]
  simp only [Act.put, Array.getElem?_setIfInBounds]
  by_cases hd : d = i
  · subst hd
    by_cases hlt : d < a.tmps.size
    · simp [hlt, h]
    · simp [hlt]
  · simp [hd]
def HG (pu : List Nat) (ops : Array Oper) : Bool :=
  Region.noSelect ops &&
  (List.range ops.size).all fun i => match ops[i]? with
    | none => false
    | some o =>
      ((o.looksAt ops).all fun t => (List.range ops.size).all fun j => Bf ops j != some t || (if pu.contains j then Kg o j else (!pu.contains i || (match ops[j]? with | some oj => Kg oj i | none => false)))) &&
      (if pu.contains i then o.guard.isNone && o.dst.isSome && ((List.range ops.size).all fun j => j == i || Bf ops j != o.dst)
       else match o.guard with | none => true | some (j, _) => !pu.contains j)
structure Wp (pu : List Nat) (ops : Array Oper) : Prop where
  nosel : Region.noSelect ops = true
  look : ∀ i o t j, ops[i]? = some o → t ∈ o.looksAt ops → Bf ops j = some t → (pu.contains j = true ∧ Kg o j = true) ∨ (pu.contains j = false ∧ (pu.contains i = false ∨ ∃ oj, ops[j]? = some oj ∧ Kg oj i = true))
  plain : ∀ i o, ops[i]? = some o → pu.contains i = true → o.guard = none ∧ (∃ d, o.dst = some d) ∧ ∀ j, j ≠ i → ∀ d, o.dst = some d → Bf ops j ≠ some d
  guard : ∀ i o j b, ops[i]? = some o → pu.contains i = false → o.guard = some (j, b) → pu.contains j = false
theorem CJ {ops : Array Oper} {j t : Nat} (h : Bf ops j = some t) : j < ops.size := by
  unfold Bf at h
  rcases Nat.lt_or_ge j ops.size with h' | h'
  · exact h'
  · rw [Array.getElem?_eq_none h'] at h; cases h
theorem H3 {ops : Array Oper} (h : HG pu ops = true) : Wp pu ops := by
  simp only [HG, Bool.and_eq_true, List.all_eq_true, List.mem_range] at h
  obtain ⟨h1, h2⟩ := h
  have at_ : ∀ i o, ops[i]? = some o → i < ops.size := fun i o e => (Array.getElem?_eq_some_iff.1 e).1
  refine ⟨h1, ?_, ?_, ?_⟩
  · intro i o t j e ht hd
    have := h2 i (at_ i o e)
    simp only [e, Bool.and_eq_true, List.all_eq_true, List.mem_range] at this
    have h3 := this.1 t ht j (CJ hd)
    cases hc : pu.contains j with
    | true => rw [hc] at h3; simp [hd] at h3; exact .inl ⟨rfl, h3⟩
    | false =>
      rw [hc] at h3; simp [hd] at h3
      refine .inr ⟨rfl, ?_⟩
      rcases h3 with h3 | h3
      · exact .inl (by simpa using h3)
      · right
        cases hoj : ops[j]? with
        | none => rw [hoj] at h3; cases h3
        | some oj => rw [hoj] at h3; exact ⟨oj, rfl, h3⟩
  · intro i o e hi
    have := h2 i (at_ i o e)
    simp only [e, Bool.and_eq_true, hi, if_true, List.all_eq_true, List.mem_range] at this
    obtain ⟨_, ⟨g1, g2⟩, g3⟩ := this
    refine ⟨by simpa using g1, by simpa [Option.isSome_iff_exists] using g2, fun j hj d hd hdj => ?_⟩
    have := g3 j (CJ hdj)
    simp [hj, hdj, hd] at this
  · intro i o j b e hi hg
    have := h2 i (at_ i o e)
    simp only [e, Bool.and_eq_true, hi, hg] at this
    simpa using this.2
section
variable {P : Program} {ops : Array Oper} {Q : Exit → Act → World → Prop}
theorem Oper.wp_sim {o : Oper} {z : Ay} {w : World} {K K' : Act → World → Prop} (hx : execOp (zA z a).eval o = execOp a.eval o) (hd : ∀ t, o.dst = some t → lk z t = none) (hK : ∀ b w v, b.tmps = (a.put o.dst v).tmps → K' (zA z b) w → K b w)
    (h : o.wp P (zA z a) w K' (Q0 Q)) : o.wp P a w K (Q0 Q) := by
  unfold Oper.wp at *
  rw [hx] at h
  generalize (execOp a.eval o).run P w = r at *
  have hv : ∀ v w, K' ((zA z a).put o.dst v) w → K (a.put o.dst v) w := fun v w hh => hK _ _ v rfl (by rw [E2 hd]; exact hh)
  cases r with
  | ok n w' =>
    cases n <;> simp only [Oper.upon] at h ⊢ <;>
      first
        | exact hv _ _ h
        | exact Calls.mono h (fun e w'' he => by
            cases e
            · exact hv _ _ he
            · exact absurd he.1 (by simp)
            · exact absurd he HD)
        | exact Rows.mono h (fun _ _ he => hv _ _ he)
        | exact hK _ _ undef (by cases o.dst <;> rfl) (by rw [E2 hd]; exact h)
  | halt x w' => cases x <;> simp only [Oper.upon] at h ⊢ <;> first | exact h | exact absurd h.1 (by simp)
structure Wi (pu : List Nat) (ops : Array Oper) (z : Ay) (a0 a : Act) (listed : Array Bool) : Prop where
  pure : ∀ i, pu.contains i = true → listed.getD i false = true → ∀ d v, Bf ops i = some d → lk z d = some v → d < a.tmps.size → a.tmps[d]? = some v
  old : ∀ t, (∀ j, Bf ops j = some t → listed.getD j false = false) → a.tmps[t]? = a0.tmps[t]?
  size : a.tmps.size = a0.tmps.size
  closed : Closed ops listed
def un (pu : List Nat) (listed : Array Bool) : Array Bool := listed.mapIdx fun i b => b || pu.contains i
theorem Gn (pu : List Nat) (listed : Array Bool) (i : Nat) (b : Bool) (hi : i < listed.size) : (un pu listed).getD i b = (listed.getD i b || pu.contains i) := by
  simp [un, Array.getD_eq_getD_getElem?, hi]
theorem P0 (pu : List Nat) (listed : Array Bool) (i : Nat) : un pu (listed.setIfInBounds i true) = (un pu listed).setIfInBounds i true := by
  apply Array.ext_getElem?
  intro j
  simp only [un, Array.getElem?_mapIdx, Array.getElem?_setIfInBounds, Array.size_mapIdx]
  by_cases hij : i = j
  · subst hij
    by_cases hlt : i < listed.size <;> simp [hlt]
  · simp [hij]
theorem H5 (listed : Array Bool) {i : Nat} (h : pu.contains i = true) : un pu (listed.setIfInBounds i true) = un pu listed := by
  apply Array.ext_getElem?
  intro j
  simp only [un, Array.getElem?_mapIdx, Array.getElem?_setIfInBounds]
  by_cases hij : i = j
  · subst hij
    by_cases hlt : i < listed.size
    · have hm : i ∈ pu := by simpa using h
      simp [hlt, hm]
    · simp [hlt]
  · simp [hij]
structure WM (P : Program) (pu : List Nat) (ops : Array Oper) (s z : Ay) (n : Nat) : Prop where
  val : ∀ i o d, pu.contains i = true → ops[i]? = some o → o.dst = some d → ∃ v, lk z d = some v ∧ PX P o (z ++ s) v
  only : ∀ t v, lk z t = some v → t < n ∧ ∃ i, pu.contains i = true ∧ Bf ops i = some t
theorem Pb {o : Oper} {s : Ay} {v : Value} (hs : ∀ cs b, o.op ≠ .select cs b) (hl : ∀ t ∈ o.looksAt ops, ∀ u, lk s t = some u → a.tmps[t]? = some u)
    (k : PX P o s v) (w : World) : (execOp a.eval o).run P w = .ok (.value v) w := by
  classical
  rw [execOp_congr (ρ := a.eval) (ρ' := fun x => if x ∈ o.op.operands then a.eval x else (ev s x).getD undef) o hs (fun x hx => (if_pos hx).symm)]
  refine k _ (fun x u hu => ?_) w
  show (if x ∈ o.op.operands then a.eval x else (ev s x).getD undef) = u
  split
  · rename_i hx
    cases x with
    | tmp t =>
      refine Act.eval_of_slot (hl t ?_ u hu)
      exact List.mem_append_left _ (List.mem_filterMap.2 ⟨.tmp t, by simpa using hx, rfl⟩)
    | const v => cases hu; rfl
    | global g => cases hu; rfl
    | func f => cases hu; rfl
  · rw [hu]; rfl
theorem TH {s z : Ay} {n : Nat} {ds : List Nat} {a0 : Act} (ha0 : Has n ds a0 s) (hp : Wp pu ops) (hb : ∀ i o, ops[i]? = some o → ∀ e ∈ o.after, Region.binds .any e = true → e.on < i) (hz : WM P pu ops s z n) :
    ∀ fuel fuel' listed a w, Wi pu ops z a0 a listed → listed.size = ops.size → left listed ≤ fuel → wpAny P .any ops (Q0 Q) fuel' (un pu listed) (zA z a) w → wpAny P .any ops (Q0 Q) fuel listed a w := by
  -- all is listed
  have alldone : ∀ fuel' listed a w, Wi pu ops z a0 a listed → listed.size = ops.size → (∀ j, j < ops.size → listed.getD j false = true) → wpAny P .any ops (Q0 Q) fuel' (un pu listed) (zA z a) w → Region.ready .any ops listed = [] ∧ (Q0 Q) .normal a w := by
    intro fuel' listed a w S hsz hall H
    have noready : ∀ l' : Array Bool, (∀ j, j < ops.size → l'.getD j false = true) → Region.ready .any ops l' = [] := fun l' hl' => by
      cases hr : Region.ready .any ops l' with
      | nil => rfl
      | cons x xs =>
        have hx : x ∈ Region.ready .any ops l' := by rw [hr]; exact List.mem_cons_self
        obtain ⟨h0, o, ho, _⟩ := mem_ready.1 hx
        have := hl' x (Array.getElem?_eq_some_iff.1 ho).1
        have h2 := Be h0
        rw [Array.getD_eq_getD_getElem?, h2] at this; cases this
    have hr' := noready (un pu listed) (fun j hj => by rw [Gn _ _ _ _ (by omega), hall j hj]; rfl)
    have hQ : (Q0 Q) .normal (zA z a) w := by
      cases fuel' with
      | zero => exact H.2
      | succ f => exact H.1 hr'
    have hza : zA z a = a := by
      refine Ij ?_ rfl
      apply Array.ext_getElem?
      intro t
      rw [DY]
      cases hl : lk z t with
      | none => simp
      | some v =>
        obtain ⟨hn, i, hi, hd⟩ := hz.only t v hl
        have hlt : t < a.tmps.size := by rw [S.size, ha0.size]; exact hn
        rw [S.pure i hi (hall i (CJ hd)) t v hd hl hlt]; rfl
    rw [hza] at hQ
    exact ⟨noready _ hall, hQ⟩
  have hall_of : ∀ listed : Array Bool, listed.size = ops.size → left listed = 0 → ∀ j, j < ops.size → listed.getD j false = true := fun listed hsz h0 j hj => by
    have h1 := Hy h0 j
    have hjlt : j < listed.size := by omega
    rw [Array.getD_eq_getD_getElem?] at h1 ⊢
    simp [hjlt] at h1 ⊢; exact h1
  intro fuel
  induction fuel with
  | zero =>
    intro fuel' listed a w S hsz hle H
    exact alldone fuel' listed a w S hsz (hall_of listed hsz (by omega)) H
  | succ fuel ih =>
    intro fuel' listed a w S hsz hle H
    refine ⟨fun hr0 => ?_, fun i hir => ?_⟩
    · -- nothing is ready: all is listed
      refine (alldone fuel' listed a w S hsz ?_ H).2
      intro j
      induction j using Nat.strongRecOn with
      | _ j ihj =>
        intro hj
        cases hl : listed.getD j false with
        | true => rfl
        | false =>
          have ho : ops[j]? = some ops[j] := by simp [hj]
          have : j ∈ Region.ready .any ops listed := mem_ready.2 ⟨by
            have hjlt : j < listed.size := by omega
            rw [Array.getD_eq_getD_getElem?] at hl ⊢
            simp [hjlt] at hl ⊢; exact hl, _, ho, fun ed hed hbd => by
              have := hb j _ ho ed hed hbd
              exact ihj _ this (by omega)⟩
          rw [hr0] at this; cases this
    · obtain ⟨hun, o, ho, hall⟩ := mem_ready.1 hir
      have hilt : i < ops.size := (Array.getElem?_eq_some_iff.1 ho).1
      have hdi : Bf ops i = o.dst := by simp [Bf, ho]
      have hsel : ∀ cs b, o.op ≠ .select cs b := fun cs b => Region.noSelect_spec hp.nosel i o cs b ho
      have hls := GF (Be hun)
      have hset : ∀ j d, (listed.setIfInBounds i true).getD j d = if j = i then true else listed.getD j d := fun j d => by
        by_cases hj : j = i
        · subst hj; simp [show j < listed.size by omega]
        · rw [getD_set_ne d (Ne.symm hj)]; simp [hj]
      -- the slots of pure ones that are looked at stand
      have hpl : ∀ t ∈ o.looksAt ops, ∀ v, lk z t = some v → a.tmps[t]? = some v ∧ ∃ j, pu.contains j = true ∧ Bf ops j = some t := fun t ht v hv => by
        obtain ⟨hn, j, hj, hd⟩ := hz.only t v hv
        refine ⟨?_, j, hj, hd⟩
        rcases hp.look i o t j ho ht hd with ⟨_, h2⟩ | ⟨h2, _⟩
        · obtain ⟨e, he, hbd, rfl⟩ := Ed h2
          exact S.pure _ hj (hall e he hbd) t v hd hv (by rw [S.size, ha0.size]; exact hn)
        · rw [hj] at h2; cases h2
      have hsame : ∀ t ∈ o.looksAt ops, (zA z a).tmps[t]? = a.tmps[t]? := fun t ht => by
        rw [DY]
        cases hl : lk z t with
        | none => simp
        | some v => rw [(hpl t ht v hl).1]; rfl
      have hx : execOp (zA z a).eval o = execOp a.eval o := execOp_congr o hsel fun x hx => by
        cases x with
        | tmp t =>
          have := hsame t (List.mem_append_left _ (List.mem_filterMap.2 ⟨.tmp t, by simpa using hx, rfl⟩))
          simp only [Act.eval]
          rw [Array.getD_eq_getD_getElem?, this, ← Array.getD_eq_getD_getElem?]
        | const v => rfl
        | global g => rfl
        | func f => rfl
      unfold wpOp
      simp only [ho]
      cases hc : pu.contains i with
      | true =>
        obtain ⟨hg, ⟨d, hd⟩, huq⟩ := hp.plain i o ho hc
        obtain ⟨v, hv, hpx⟩ := hz.val i o d hc ho hd
        have hw : Region.wanted o (yielded ops a.tmps) = true := by unfold Region.wanted; rw [hg]
        rw [if_pos hw]
        refine .inl ?_
        unfold Oper.wp
        rw [← hx, Pb (ops := ops) hsel (fun t ht u hu => ?_) hpx w]
        · show wpAny P .any ops (Q0 Q) fuel (listed.setIfInBounds i true) (a.put o.dst v) w
          rw [hd]
          refine ih fuel' _ _ w ⟨?_, ?_, by simp [Act.put, S.size], S.closed.set hir⟩ (by simpa using hsz) (by omega) (by rw [H5 _ hc, HP hv]; exact H)
          · intro j hj hlj d' v' hd' hv' hlt
            by_cases hji : j = i
            · subst hji; rw [hdi, hd] at hd'; cases hd'; rw [hv] at hv'; cases hv'
              simp only [Act.put]
              have : d < a.tmps.size := by simpa [Act.put] using hlt
              simp [this]
            · rw [hset] at hlj; simp only [hji, if_false] at hlj
              have hne : d ≠ d' := fun e' => huq j hji d hd (by rw [hd', e'])
              simp only [Act.put, Array.getElem?_setIfInBounds_ne hne]
              exact S.pure j hj hlj d' v' hd' hv' (by simpa [Act.put] using hlt)
          · intro t ht
            have hne : d ≠ t := fun e' => by
              have := ht i (by rw [hdi, hd, e'])
              rw [hset] at this; simp at this
            simp only [Act.put, Array.getElem?_setIfInBounds_ne hne]
            exact S.old t fun j hj => by
              have := ht j hj
              rw [hset] at this
              by_cases hji : j = i
              · simp [hji] at this
              · simpa [hji] using this
        · rw [B9] at hu
          cases hl : lk z t with
          | some v' => rw [hl] at hu; cases hu; rw [hsame t ht]; exact (hpl t ht _ hl).1
          | none =>
            rw [hl] at hu
            rw [hsame t ht, S.old t fun j hj => ?_]
            · exact ha0.slots t u hu
            · rcases hp.look i o t j ho ht hj with ⟨h1, _⟩ | ⟨_, h2⟩
              · obtain ⟨oj, hoj⟩ : ∃ oj, ops[j]? = some oj := ⟨ops[j]'(CJ hj), by simp [CJ hj]⟩
                have hdj : oj.dst = some t := by simpa [Bf, hoj] using hj
                obtain ⟨v', hv', _⟩ := hz.val j oj t h1 hoj hdj
                rw [hl] at hv'; cases hv'
              · rcases h2 with h2 | ⟨oj, hoj, hed⟩
                · rw [hc] at h2; cases h2
                · cases hlj : listed.getD j false with
                  | false => rfl
                  | true =>
                    obtain ⟨e, he, hbd, hon⟩ := Ed hed
                    have h4 := S.closed j oj hlj hoj e he hbd
                    rw [hon, Array.getD_eq_getD_getElem?, Be hun] at h4; cases h4
      | false =>
        have hdz : ∀ t, o.dst = some t → lk z t = none := fun t ht => by
          cases hl : lk z t with
          | none => rfl
          | some v =>
            obtain ⟨_, j, hj, hd⟩ := hz.only t v hl
            have hji : j ≠ i := fun e' => by rw [e', hc] at hj; cases hj
            obtain ⟨oj, hoj⟩ : ∃ oj, ops[j]? = some oj := ⟨ops[j]'(CJ hd), by simp [CJ hd]⟩
            obtain ⟨_, _, huq⟩ := hp.plain j oj hoj hj
            exact absurd (by rw [hdi, ht]) (huq i (Ne.symm hji) t (by simpa [Bf, hoj] using hd))
        have hir' : i ∈ Region.ready .any ops (un pu listed) := mem_ready.2 ⟨by rw [Gn _ _ _ _ (by omega), hun, hc]; rfl, o, ho, fun e he hbd => by
          have h1 := hb i o ho e he hbd
          rw [Gn _ _ _ _ (by omega), hall e he hbd]; rfl⟩
        cases fuel' with
        | zero => rw [H.1] at hir'; cases hir'
        | succ fuel' =>
          have H' := H.2 i hir'
          rw [← P0] at H'
          unfold wpOp at H'
          simp only [ho] at H'
          have hwant : Region.wanted o (yielded ops (zA z a).tmps) = Region.wanted o (yielded ops a.tmps) := by
            unfold Region.wanted
            cases hg : o.guard with
            | none => rfl
            | some p =>
              obtain ⟨j, b⟩ := p
              have : yielded ops (zA z a).tmps j = yielded ops a.tmps j := by
                unfold yielded
                cases hd : (ops[j]?).bind (·.dst) with
                | none => rfl
                | some t =>
                  have ht : t ∈ o.looksAt ops := by
                    unfold Oper.looksAt
                    refine List.mem_append_right _ ?_
                    simp only [hg]
                    rw [hd]; simp
                  simp [hd, hsame t ht]
              simp only [this]
          rw [hwant] at H'
          have hnext : ∀ b w v, b.tmps = (a.put o.dst v).tmps → wpAny P .any ops (Q0 Q) fuel' (un pu (listed.setIfInBounds i true)) (zA z b) w → wpAny P .any ops (Q0 Q) fuel (listed.setIfInBounds i true) b w := fun b w v hbt hh => by
            have hbget : ∀ t, o.dst ≠ some t → b.tmps[t]? = a.tmps[t]? := fun t ht => by
              rw [hbt]
              cases hd : o.dst with
              | none => rfl
              | some d =>
                have : d ≠ t := fun e' => ht (by rw [hd, e'])
                simp only [Act.put, Array.getElem?_setIfInBounds_ne this]
            have hbs : b.tmps.size = a.tmps.size := by rw [hbt]; cases o.dst <;> simp [Act.put]
            refine ih fuel' _ b w ⟨?_, ?_, by rw [hbs, S.size], S.closed.set hir⟩ (by simpa using hsz) (by omega) hh
            · intro j hj hlj d' v' hd' hv' hlt
              have hji : j ≠ i := fun e' => by rw [e', hc] at hj; cases hj
              rw [hset] at hlj; simp only [hji, if_false] at hlj
              have hne : o.dst ≠ some d' := fun e' => by rw [hdz d' e'] at hv'; cases hv'
              rw [hbget d' hne]
              exact S.pure j hj hlj d' v' hd' hv' (by rw [← hbs]; exact hlt)
            · intro t ht
              rw [hbget t (fun e' => by
                have := ht i (by rw [hdi, e'])
                rw [hset] at this; simp at this)]
              exact S.old t fun j hj => by
                have := ht j hj
                rw [hset] at this
                by_cases hji : j = i
                · simp [hji] at this
                · simpa [hji] using this
          split
          · rename_i hw
            rw [if_pos hw] at H'
            rcases H' with H' | ⟨_, H'⟩
            · exact .inl (Oper.wp_sim hx hdz hnext H')
            · exact absurd H' HD
          · rename_i hw
            rw [if_neg hw] at H'
            exact hnext _ _ undef rfl (by rw [E2 hdz]; exact H')
end
def zap (o : Oper) : Oper := { o with dst := none, op := .move (.const undef), after := #[], guard := none }
def EH : List Bool → List Oper → List Oper
  | true :: m, o :: l => zap o :: EH m l
  | false :: m, o :: l => o :: EH m l
  | _, l => l
def Gy : List Bool → Nat → List Nat
  | [], _ => []
  | true :: m, k => k :: Gy m (k + 1)
  | false :: m, k => Gy m (k + 1)
theorem NL : ∀ (m : List Bool) (k i : Nat), i ∈ Gy m k ↔ k ≤ i ∧ m[i - k]? = some true
  | [], k, i => by simp [Gy]
  | b :: m, k, i => by
    have ih := NL m (k + 1) i
    cases b with
    | true =>
      simp only [Gy, List.mem_cons, ih]
      by_cases hik : i = k
      · subst hik; simp
      · constructor
        · rintro (h | ⟨h1, h2⟩)
          · exact absurd h hik
          · refine ⟨by omega, ?_⟩
            rw [show i - k = (i - (k + 1)) + 1 by omega]; simpa using h2
        · rintro ⟨h1, h2⟩
          right
          refine ⟨by omega, ?_⟩
          rw [show i - k = (i - (k + 1)) + 1 by omega] at h2; simpa using h2
    | false =>
      simp only [Gy, ih]
      by_cases hik : i = k
      · subst hik; simp; omega
      · constructor
        · rintro ⟨h1, h2⟩
          refine ⟨by omega, ?_⟩
          rw [show i - k = (i - (k + 1)) + 1 by omega]; simpa using h2
        · rintro ⟨h1, h2⟩
          refine ⟨by omega, ?_⟩
          rw [show i - k = (i - (k + 1)) + 1 by omega] at h2; simpa using h2
theorem E7 (m : List Bool) (i : Nat) : (Gy m 0).contains i = true ↔ m[i]? = some true := by
  rw [List.contains_iff_mem, NL]; simp
theorem G3 : ∀ (m : List Bool) (l : List Oper) (i : Nat), (EH m l)[i]? = if m[i]? = some true then (l[i]?).map zap else l[i]?
  | [], l, i => by simp [EH]
  | b :: m, [], i => by cases b <;> simp [EH]
  | b :: m, o :: l, i => by
    cases b <;> cases i <;> simp [EH, G3 m l]
theorem HQ : ∀ (m : List Bool) (l : List Oper), (EH m l).length = l.length
  | [], l => by simp [EH]
  | b :: m, [] => by cases b <;> simp [EH]
  | b :: m, o :: l => by cases b <;> simp [EH, HQ m l]
theorem PV {P : Program} {ops ops' : Array Oper} {Q : Exit → Act → World → Prop} (pu : List Nat) (hsz : ops'.size = ops.size) (hs : ∀ i, pu.contains i = false → ops'[i]? = ops[i]?)
    (hg : ∀ i o j b, ops[i]? = some o → pu.contains i = false → o.guard = some (j, b) → pu.contains j = false) :
    ∀ fuel listed a w, (∀ i, i < ops.size → pu.contains i = true → listed.getD i false = true) → wpAny P .any ops' Q fuel listed a w → wpAny P .any ops Q fuel listed a w := by
  have hready : ∀ listed : Array Bool, (∀ i, i < ops.size → pu.contains i = true → listed.getD i false = true) → ∀ i, i ∈ Region.ready .any ops listed ↔ i ∈ Region.ready .any ops' listed := by
    intro listed hl i
    have hnp : listed.getD i true = false → i < ops.size → pu.contains i = false := fun h1 h2 => by
      cases hc : pu.contains i with
      | false => rfl
      | true =>
        have := hl i h2 hc
        rw [Array.getD_eq_getD_getElem?, Be h1] at this; cases this
    constructor
    · intro h
      obtain ⟨h1, o, h2, h3⟩ := mem_ready.1 h
      exact mem_ready.2 ⟨h1, o, by rw [hs i (hnp h1 (Array.getElem?_eq_some_iff.1 h2).1)]; exact h2, h3⟩
    · intro h
      obtain ⟨h1, o, h2, h3⟩ := mem_ready.1 h
      have hlt := (Array.getElem?_eq_some_iff.1 h2).1
      exact mem_ready.2 ⟨h1, o, by rw [← hs i (hnp h1 (by omega))]; exact h2, h3⟩
  have hempty : ∀ listed : Array Bool, (∀ i, i < ops.size → pu.contains i = true → listed.getD i false = true) → Region.ready .any ops listed = [] → Region.ready .any ops' listed = [] := fun listed hl h => by
    cases hr : Region.ready .any ops' listed with
    | nil => rfl
    | cons x xs =>
      have := (hready listed hl x).2 (by rw [hr]; exact List.mem_cons_self)
      rw [h] at this; cases this
  have hempty' : ∀ listed : Array Bool, (∀ i, i < ops.size → pu.contains i = true → listed.getD i false = true) → Region.ready .any ops' listed = [] → Region.ready .any ops listed = [] := fun listed hl h => by
    cases hr : Region.ready .any ops listed with
    | nil => rfl
    | cons x xs =>
      have := (hready listed hl x).1 (by rw [hr]; exact List.mem_cons_self)
      rw [h] at this; cases this
  intro fuel
  induction fuel with
  | zero => intro listed a w hl H; exact ⟨hempty' listed hl H.1, H.2⟩
  | succ fuel ih =>
    intro listed a w hl H
    refine ⟨fun h => H.1 (hempty listed hl h), fun i hi => ?_⟩
    have H' := H.2 i ((hready listed hl i).1 hi)
    obtain ⟨h1, o, ho, _⟩ := mem_ready.1 hi
    have hnp : pu.contains i = false := by
      cases hc : pu.contains i with
      | false => rfl
      | true =>
        have := hl i (Array.getElem?_eq_some_iff.1 ho).1 hc
        rw [Array.getD_eq_getD_getElem?, Be h1] at this; cases this
    have hl' : ∀ j, j < ops.size → pu.contains j = true → (listed.setIfInBounds i true).getD j false = true := fun j hj hc => getD_set_true (hl j hj hc)
    unfold wpOp at H' ⊢
    rw [hs i hnp] at H'
    simp only [ho] at H' ⊢
    have hy : Region.wanted o (yielded ops' a.tmps) = Region.wanted o (yielded ops a.tmps) := by
      unfold Region.wanted
      cases hgu : o.guard with
      | none => rfl
      | some p =>
        obtain ⟨j, b⟩ := p
        have : yielded ops' a.tmps j = yielded ops a.tmps j := by
          unfold yielded; rw [hs j (hg i o j b ho hnp hgu)]
        simp only [this]
    rw [hy] at H'
    split
    · rename_i hw
      rw [if_pos hw] at H'
      exact H'.imp (Oper.wp_mono fun a w h => ih _ a w hl' h) id
    · rename_i hw
      rw [if_neg hw] at H'
      exact ih _ _ _ hl' H'
def PZ (P : Program) (l : List Oper) (n : Nat) (s : Ay) (K : Ay → Prop) : List Nat → Ay → Prop
  | [], z => K z
  | i :: r, z => ∃ o d v, l[i]? = some o ∧ o.dst = some d ∧ d < n ∧ lk (z ++ s) d = none ∧ PX P o (z ++ s) v ∧ PZ P l n s K r ((d, v) :: z)
theorem PX.mono {P : Program} {o : Oper} {s : Ay} {v : Value} {d : Nat} {u : Value} (h : PX P o s v) (hd : lk s d = none) : PX P o ((d, u) :: s) v := fun ρ hρ w =>
  h ρ (fun x u' hx => hρ x u' (by
    cases x with
    | tmp t =>
      have : d ≠ t := fun e => by subst e; simp only [ev] at hx; rw [hd] at hx; cases hx
      simp only [ev] at hx ⊢; rw [Bq _ _ this]; exact hx
    | const v => exact hx
    | global g => exact hx
    | func f => exact hx)) w
theorem Nj {P : Program} {l : List Oper} {n : Nat} {s : Ay} {K : Ay → Prop} : ∀ (r done : List Nat) (z : Ay),
    (∀ i ∈ done, ∀ o d, l[i]? = some o → o.dst = some d → ∃ v, lk z d = some v ∧ PX P o (z ++ s) v) → (∀ t v, lk z t = some v → t < n ∧ ∃ i ∈ done, Bf l.toArray i = some t) → PZ P l n s K r z →
    ∃ zf, K zf ∧ (∀ i, i ∈ done ∨ i ∈ r → ∀ o d, l[i]? = some o → o.dst = some d → ∃ v, lk zf d = some v ∧ PX P o (zf ++ s) v) ∧ (∀ t v, lk zf t = some v → t < n ∧ ∃ i, (i ∈ done ∨ i ∈ r) ∧ Bf l.toArray i = some t)
  | [], done, z, h1, h2, h3 => ⟨z, h3, fun i hi => h1 i (hi.resolve_right (by simp)), fun t v hv => by
      obtain ⟨g1, i, g2, g3⟩ := h2 t v hv
      exact ⟨g1, i, .inl g2, g3⟩⟩
  | j :: r, done, z, h1, h2, ⟨o, d, v, e1, e2, e3, e4, e5, e6⟩ => by
    have hzd : lk z d = none := by
      rw [B9] at e4
      cases hl : lk z d with
      | none => rfl
      | some u => rw [hl] at e4; cases e4
    obtain ⟨zf, g1, g2, g3⟩ := Nj r (j :: done) ((d, v) :: z) (fun i hi o' d' ho' hd' => by
      rcases List.mem_cons.1 hi with rfl | hi
      · rw [e1] at ho'; cases ho'; rw [e2] at hd'; cases hd'
        exact ⟨v, Bt _ _ _, e5.mono e4⟩
      · obtain ⟨v', f1, f2⟩ := h1 i hi o' d' ho' hd'
        refine ⟨v', ?_, f2.mono e4⟩
        have : d ≠ d' := fun e => by subst e; rw [hzd] at f1; cases f1
        rw [Bq _ _ this]; exact f1) (fun t u hu => by
      by_cases hdt : d = t
      · subst hdt; exact ⟨e3, j, by simp, by simp [Bf, e1, e2]⟩
      · rw [Bq _ _ hdt] at hu
        obtain ⟨f1, i, f2, f3⟩ := h2 t u hu
        exact ⟨f1, i, List.mem_cons_of_mem _ f2, f3⟩) e6
    refine ⟨zf, g1, fun i hi => g2 i ?_, fun t u hu => ?_⟩
    · rcases hi with hi | hi
      · exact .inl (List.mem_cons_of_mem _ hi)
      · rcases List.mem_cons.1 hi with rfl | hi
        · exact .inl List.mem_cons_self
        · exact .inr hi
    · obtain ⟨f1, i, f2, f3⟩ := g3 t u hu
      refine ⟨f1, i, ?_, f3⟩
      rcases f2 with f2 | f2
      · rcases List.mem_cons.1 f2 with rfl | f2
        · exact .inr List.mem_cons_self
        · exact .inl f2
      · exact .inr (List.mem_cons_of_mem _ f2)
def FZ (ops : Array Oper) : Bool := (List.range ops.size).all fun i => match ops[i]? with | none => false | some o => backs o i
theorem G4 {ops : Array Oper} (h : FZ ops = true) : ∀ i o, ops[i]? = some o → ∀ e ∈ o.after, Region.binds .any e = true → e.on < i := by
  intro i o e ed hed hb
  simp only [FZ, List.all_eq_true, List.mem_range] at h
  have := h i (Array.getElem?_eq_some_iff.1 e).1
  simp only [e] at this
  have h4 := Array.all_eq_true_iff_forall_mem.1 this ed hed
  simp [hb] at h4
  exact h4
theorem Hd {e : Entry} {id : Nat} {l : List Oper} {Q : Exit → Act → World → Prop} {s : Ay} {h : Hp} {ms : List Hp} (np : Nat) (m : List Bool) (hm : e.P.follows .mixedOrders = true) (hp : Mb (Gy m 0) (EH m l).toArray np = true) (hpu : HG (Gy m 0) l.toArray = true) (hbk : FZ l.toArray = true)
    (k : PZ e.P l e.n s (fun z => HI e.n ((EH m l).take np) (z ++ s) = true ∧ WR e (EH m l).toArray (Q0 Q) ((EH m l).drop np) h ms ((EH m l).take np) (z ++ s) [] []) (Gy m 0) []) : WS e (.region id l.toArray true) Q s h ms := by
  intro a w ha hw
  obtain ⟨z, ⟨hf, kw⟩, hz1, hz2⟩ := Nj _ [] [] (by simp) (fun t v hv => by cases hv) k
  have P := Iz hp
  have PO := H3 hpu
  have HB := G4 hbk
  have hlen : (EH m l).length = l.length := HQ m l
  have hmem : ∀ i, (Gy m 0).contains i = true ↔ i ∈ Gy m 0 := fun i => List.contains_iff_mem
  have hZ : WM e.P (Gy m 0) l.toArray s z e.n := ⟨fun i o d hi ho hd => hz1 i (.inr ((hmem i).1 hi)) o d (by simpa using ho) hd, fun t v hv => by
    obtain ⟨g1, i, g2, g3⟩ := hz2 t v hv
    exact ⟨g1, i, (hmem i).2 (g2.resolve_left (by simp)), g3⟩⟩
  refine wp_region_any hm (Q := Q) ?_
  have hq : wpAny e.P .any l.toArray (Q0 Q) l.toArray.size (Array.replicate l.toArray.size false) a { w with drawn := w.drawn + 1 } := by
    refine TH ha PO HB hZ _ l.toArray.size _ a _ ⟨fun i _ hi => (by rw [BM] at hi; cases hi), fun _ _ => rfl, rfl, fun i o hi => (by rw [BM] at hi; cases hi)⟩ (by simp) (by
      unfold left; rw [Array.toList_replicate]; exact Nat.le_trans (List.countP_le_length) (by simp)) ?_
    have hug : ∀ i, (un (Gy m 0) (Array.replicate l.toArray.size false)).getD i false = (Gy m 0).contains i := fun i => by
      rcases Nat.lt_or_ge i l.length with hi | hi
      · rw [Gn _ _ _ _ (by simpa using hi), BM]; rfl
      · rw [Array.getD_eq_getD_getElem?, Array.getElem?_eq_none (by simpa [un] using hi)]
        cases hc : (Gy m 0).contains i with
        | false => rfl
        | true =>
          have h1 := P.low i hc
          simp [hlen] at h1; omega
    refine PV (ops' := (EH m l).toArray) (Gy m 0) (by simp [hlen]) (fun i hi => ?_) PO.guard _ _ _ _ (fun i hi hc => by rw [hug]; exact hc) ?_
    · have : ¬ m[i]? = some true := fun h' => by rw [(E7 m i).2 h'] at hi; cases hi
      simp only [List.getElem?_toArray]
      rw [G3, if_neg this]
    · refine KV np hp hf kw (by simp [un, hlen]) hug (fun i o hi ho ed hed hb => ?_) (fun i hi => ?_) ?_ ⟨ha.defers, by simp [zA, ha.size], fun t u hu => ?_⟩ hw
      · rw [hug] at hi
        have := (E7 m i).1 hi
        simp only [List.getElem?_toArray] at ho
        rw [G3, if_pos this] at ho
        cases hl : l[i]? with
        | none => rw [hl] at ho; cases ho
        | some o' => rw [hl] at ho; cases ho; simp [zap] at hed
      · have := (E7 m i).1 hi
        unfold Bf
        simp only [List.getElem?_toArray]
        rw [G3, if_pos this]
        cases l[i]? <;> rfl
      · unfold left
        refine Nat.le_trans (List.countP_le_length) ?_
        simp [un]
      · rw [DY]
        rw [B9] at hu
        cases hl : lk z t with
        | some v =>
          rw [hl] at hu; cases hu
          have hlt : t < a.tmps.size := by rw [ha.size]; exact (hz2 t _ hl).1
          simp [hlt]
        | none => rw [hl] at hu; rw [ha.slots t u hu]; rfl
  -- the end alone
  have hmono : ∀ fuel listed a w, wpAny e.P .any l.toArray (Q0 Q) fuel listed a w → wpAny e.P .any l.toArray Q fuel listed a w := by
    intro fuel
    induction fuel with
    | zero => intro listed a w H; exact ⟨H.1, H.2.2⟩
    | succ fuel ih =>
      intro listed a w H
      refine ⟨fun h => (H.1 h).2, fun i hi => ?_⟩
      have H' := H.2 i hi
      unfold wpOp at H' ⊢
      split
      · rename_i ho; simp only [ho] at H'; exact ih _ _ _ H'
      · rename_i o ho
        simp only [ho] at H'
        split
        · rename_i hw
          rw [if_pos hw] at H'
          rcases H' with H' | ⟨_, H'⟩
          · refine .inl ?_
            unfold Oper.wp at *
            generalize (execOp a.eval o).run e.P w = r at *
            cases r with
            | ok n w' =>
              cases n <;> simp only [Oper.upon] at H' ⊢ <;>
                first
                  | exact ih _ _ _ H'
                  | exact Calls.mono H' (fun x w'' he => by
                      cases x
                      · exact ih _ _ _ he
                      · exact absurd he.1 (by simp)
                      · exact absurd he HD)
                  | exact Rows.mono H' (fun _ _ he => ih _ _ _ he)
            | halt x w' => cases x <;> simp only [Oper.upon] at H' ⊢ <;> first | exact H' | exact absurd H'.1 (by simp)
          · exact absurd H' HD
        · rename_i hw
          rw [if_neg hw] at H'
          exact ih _ _ _ H'
  exact hmono _ _ _ _ hq
section
variable {P : Program} {l : List Oper} {n : Nat} {s z : Ay} {K : Ay → Prop} {r : List Nat} {i d : Nat} {o : Oper} {v : Value}
theorem HK (ho : l[i]? = some o) (hd : o.dst = some d) (hn : Nat.blt d n = true) (hf : lk (z ++ s) d = none) (hx : PX P o (z ++ s) v) (k : PZ P l n s K r ((d, v) :: z)) : PZ P l n s K (i :: r) z :=
  ⟨o, d, v, ho, hd, Nat.le_of_ble_eq_true hn, hf, hx, k⟩
theorem D4 {x : Operand} (ho : o.op = .move x) (hx : ev s x = some v) : PX P o s v := fun ρ hρ w => by simp [execOp, ho, hρ _ _ hx]
end
section
variable {e : Entry} {ops : Array Oper} {Q : Exit → Act → World → Prop} {tl : List Oper} {h : Hp} {ms : List Hp} {l : List Oper} {o : Oper} {s : Ay} {q : List (Nat × VP)} {al : List (Nat × Nb)}
theorem HL (hd : o.dst = none) (hg : o.guard = none) (ho : o.op = .move (.const undef)) (k : WR e ops Q tl h ms l s q al) : WR e ops Q tl h ms (o :: l) s q al :=
  .inl ⟨undef, .inl ⟨.plain hg, As ho rfl⟩, by rw [hd]; exact k⟩
end
end Go.Eng
namespace Go.Eng
open Go.RowKit
section
variable {P : Program} {o : Oper} {s : Ay} {t u : TypeId} {x y : Operand} {a b : Int}
theorem QY (ho : o.op = .binOp .add t x y u) (hx : ev s x = some (.int .i64 a)) (hy : ev s y = some (.int .i64 b)) (hr : -9223372036854775808 ≤ a + b ∧ a + b ≤ 9223372036854775807) : PX P o s (.int .i64 (a + b)) := fun ρ hρ w => by
  have : (execOp ρ o).run P w = .ok (.value (.int .i64 (IntKind.i64.wrap (a + b)))) w := by simp [execOp, ho, hρ _ _ hx, hρ _ _ hy, go_sem]
  rwa [C0 hr] at this
theorem RI (ho : o.op = .binOp .sub t x y u) (hx : ev s x = some (.int .i64 a)) (hy : ev s y = some (.int .i64 b)) (hr : -9223372036854775808 ≤ a - b ∧ a - b ≤ 9223372036854775807) : PX P o s (.int .i64 (a - b)) := fun ρ hρ w => by
  have : (execOp ρ o).run P w = .ok (.value (.int .i64 (IntKind.i64.wrap (a - b)))) w := by simp [execOp, ho, hρ _ _ hx, hρ _ _ hy, go_sem]
  rwa [C0 hr] at this
end
section
variable {e : Entry} {Q : Exit → Act → World → Prop} {ops : Array Oper} {rest : List Oper} {o : Oper} {s : Ay} {h : Hp} {ms : List Hp} {α : Type} {F : α → List Value} {l : List α} {v : Value} {m : Hp} {el : TypeId} {sz : Nat}
theorem O0 {t : TypeId} {x y : Operand} {u : Value} {z : Value} {bytes k : Nat} {l' : List α} (i : Nat) (O : OwnL F sz el m v l) (ho : o.op = .store t x y) (hs : Elem e.P t 1 z bytes) (hx : ev s x = some (.pointer (some ((Bl v).add k)))) (hy : ev s y = some u) (h1 : u.oneCell' = true)
    (hm : ms[i]? = some m) (hk : k < l.length * sz) (hset : (l.flatMap F).set k u = l'.flatMap F) (hl : l'.length = l.length) (hd : o.dst = none) (hg : o.guard = none)
    (K : ∀ m', OwnL F sz el m' v l' → WL e ops Q rest s h (ms.set i m')) : WL e ops Q (o :: rest) s h ms := by
  obtain ⟨⟨h2, h3⟩, hF⟩ := O
  rcases h3 with ⟨rfl, h4, rfl⟩ | ⟨g, cap, spare, rfl, rfl, e1, e2, e3⟩
  · rw [h4] at hk; simp at hk
  · refine AK i k ho hs hx hy h1 hm rfl (by rw [List.length_append]; omega) hd hg (K _ ⟨⟨?_, .inr ⟨g, cap, spare, by rw [hl], ?_, ?_, by omega, e3⟩⟩, hF⟩)
    · rw [← hset, List.length_set, h2, hl]
    · rw [List.set_append_left _ _ (by omega), hset]
    · rw [← hset, List.length_append, List.length_set, ← List.length_append]; exact e1
theorem Ms {f : α → Value} {t : TypeId} {x y : Operand} {z : Value} {bytes : Nat} {a : α} (i j : Nat) (hF : ∀ x, F x = [f x]) (O : OwnL F 1 el m v l) (ho : o.op = .store t x y) (hs : Elem e.P t 1 z bytes) (hx : ev s x = some (.pointer (some ((Bl v).add (j * 1))))) (hy : ev s y = some (f a)) (h1 : (f a).oneCell' = true)
    (hm : ms[i]? = some m) (hj : j < l.length) (hd : o.dst = none) (hg : o.guard = none)
    (K : ∀ m', OwnL F 1 el m' v (l.set j a) → WL e ops Q rest s h (ms.set i m')) : WL e ops Q (o :: rest) s h ms := by
  have hF' : F = fun y => [f y] := funext hF
  refine O0 i O ho hs hx hy h1 hm (by omega) ?_ (by simp) hd hg K
  rw [hF', Nat.mul_one]
  exact GG f l j a
end
end Go.Eng
namespace Go.Eng
open Go.RowKit
section
variable {P : Program} {o : Oper} {s : Ay} {h : Hp} {ms : List Hp} {t u : TypeId} {x y : Operand} {a b n : Nat} {k : IntKind}
theorem Ie (ho : o.op = .binOp .shr t x y u) (hx : ev s x = some (.int .u64 a)) (hy : ev s y = some (.int k n)) (hn : n ≤ 64) : OX P o s h ms (.int .u64 ((a / 2 ^ n : Nat) : Int)) :=
  BI fun ρ w hρ _ => by
    have h1 : ¬ ((n : Int) < 0) := by omega
    have h2 : min n 64 = n := Nat.min_eq_left hn
    have h3 : (a : Int).fdiv (2 ^ n) = ((a / 2 ^ n : Nat) : Int) := by
      rw [Int.fdiv_eq_ediv_of_nonneg _ (Int.le_of_lt (Int.pow_pos (by decide)))]; simp
    simp [execOp, ho, hρ _ _ hx, hρ _ _ hy, Op.shift, h1, IntKind.bits, h2, h3, go_sem]
end
end Go.Eng
namespace Go.Eng
open Go.RowKit
section
variable {e : Entry} {Q : Exit → Act → World → Prop} {ops : Array Oper} {rest : List Oper} {o : Oper} {s : Ay} {h : Hp} {ms : List Hp}
theorem Q6 {t t2 el : TypeId} {x y : Operand} {a : Addr} {g of dLen dCap sLen d n : Nat} {u z : Value} {bytes : Nat} {cs cur : List Value} (i : Nat) (ho : o.op = .call { callee := .builtin .copy, args := #[x, y], argTypes := #[t, t2] }) (ht : e.P.underlying t = some (.slice el)) (hs : Elem e.P el 1 z bytes)
    (hx : ev s x = some (.slice (some a) dLen dCap)) (hy : ev s y = some u) (ha : a = ⟨g, of, none⟩) (R : Rd h ms u 1 sLen cs) (h0 : 0 < sLen) (hn : n = min sLen dLen) (hm : ms[i]? = some (AX g el cur)) (hfit : of + n ≤ cur.length) (h1 : ∀ c ∈ cs, c.oneCell' = true)
    (hd : o.dst = some d) (hnd : Nat.blt d e.n = true) (hg : o.guard = none) (K : WL e ops Q rest ((d, .int .i64 n) :: s) h (ms.set i (AX g el (cur.take of ++ cs.take n ++ cur.drop (of + n))))) : WL e ops Q (o :: rest) s h ms := by
  subst ha
  obtain ⟨a, c, rfl, e2, e3, e4, e5⟩ := R.ex
  obtain ⟨q, rfl, hq⟩ := e5 h0
  have hl : (cs.take n).length = n := by rw [List.length_take, e4, Nat.mul_one]; omega
  refine G6 (post := fun v h' ms' => v = .int .i64 n ∧ h' = h ∧ ms' = ms.set i (AX g el (cur.take of ++ cs.take n ++ cur.drop (of + n)))) (fun ρ w hρ hw => ?_) hd hnd hg fun v h' ms' ⟨e1, e2, e3⟩ => by subst e1 e2 e3; exact K
  have hgw : w.heap[g]? = some (.cells cur.toArray el (0, 0)) := hw.st.own _ (List.mem_of_getElem? hm) g _ (Hp.one_self _ _)
  have hrun := run_copy_row (P := e.P) w t t2 o.type el g of dLen dCap q sLen c cur.toArray el (cs.take n) ht (by
    have := hs.sizeOf w
    cases hq' : e.P.info? el with
    | none => simp [Go.sizeOf, Go.typeInfo, hq', go_sem] at this
    | some inf => simp [Go.sizeOf, Go.typeInfo, hq', go_sem] at this; simp [this]) hgw (by rw [hl]; exact hn) (fun j v hv => hw.st.cell (hq j v (by
      rw [List.getElem?_take] at hv; split at hv; · exact hv
      · cases hv))) (by rw [hl]; simpa using hfit) (fun v hv => h1 v (List.mem_of_mem_take hv))
  rw [hl] at hrun
  have : (execOp ρ o).run e.P w = .ok (.value (.int .i64 n)) (w.setRow g (cur.take of ++ cs.take n ++ cur.drop (of + n)).toArray) := by
    simp [execOp, ho, hρ _ _ hx, hρ _ _ hy, resolve, invoke, builtin, hrun, goInt]
  unfold OpRes; rw [this]
  exact ⟨h, _, Ends.put hw hm rfl ⟨rfl, Nat.le_refl _⟩ rfl (by simp) (setRow_heap w g _ _ _ _ hgw) (fun j hj hne => setRow_other w g j _ hne), rfl, rfl, rfl⟩
end
section
variable {e : Entry} {Q : Exit → Act → World → Prop} {ops : Array Oper} {rest : List Oper} {s : Ay} {h : Hp} {ms : List Hp}
end
end Go.Eng
namespace Go.Eng
open Go.RowKit
section
variable {e : Entry} {ops : Array Oper} {Q : Exit → Act → World → Prop} {tl : List Oper} {h : Hp} {ms : List Hp} {l : List Oper} {o : Oper} {s : Ay} {q : List (Nat × VP)} {al : List (Nat × Nb)}
end
end Go.Eng
namespace Go.Eng
open Go.RowKit
section
variable {e : Entry} {Q : Exit → Act → World → Prop} {ops : Array Oper} {rest : List Oper} {o : Oper} {s : Ay} {h : Hp} {ms : List Hp}
theorem Ce {j dj : Nat} {b : Bool} {oj : Oper} (hg : o.guard = some (j, b)) (hj : ops[j]? = some oj) (hdj : oj.dst = some dj) (hv : lk s dj = some (.bool b))
    (k : WL e ops Q ({ o with guard := none } :: rest) s h ms) : WL e ops Q (o :: rest) s h ms := fun a w ha hw => by
  have h1 := k a w ha hw
  unfold wpList at h1 ⊢
  rw [if_pos (by simp [Region.wanted])] at h1
  rw [if_pos (by simp [Region.wanted, hg, ha.yields hj hdj hv])]
  exact h1
end
end Go.Eng
namespace Go.Eng
open Go.RowKit Go.ChangeShapes Go.WideShapes Go.Deep
def whole (w : World) : Hp := fun g => w.heap[g]?
theorem St.whole (w : World) : St w (whole w) [] := ⟨fun _ _ h => h, by simp, by simp, List.Pairwise.nil⟩
theorem Cell.ofW {w : World} {ms : List Hp} {a : Addr} {v : Value} (h : w.cell? a = some v) : Cell (whole w) ms a v := by
  unfold World.cell? at h
  split at h
  · rename_i c el fr hb
    split at h
    · cases h
    · rename_i hs
      exact ⟨by simpa using hs, c, el, fr, .inl hb, h⟩
  · cases h
theorem HR {α : Type} {Q : Nat → α → Prop} : ∀ n, (∀ i, i < n → ∃ a, Q i a) → ∃ l : List α, l.length = n ∧ ∀ i (hi : i < l.length), Q i l[i]
  | 0, _ => ⟨[], rfl, fun i hi => by simp at hi⟩
  | n + 1, h => by
    obtain ⟨l, hl, hq⟩ := HR n fun i hi => h i (by omega)
    obtain ⟨a, ha⟩ := h n (by omega)
    refine ⟨l ++ [a], by simp [hl], fun i hi => ?_⟩
    rw [List.getElem_append]
    split
    · exact hq i (by assumption)
    · have : i = n := by simp at hi; omega
      subst this; simpa using ha
section
variable {H : Type} {enc : TypeId × Value → H} {P : Program} {w : World} {base : Nat} {spare : Nat → Bool} {held : Bool}
theorem Lk {α : Type} {F : α → List Value} {Ok : α → Prop} {sz : Nat} {t e : TypeId} {fuel : Nat} {v : Value} {x : DataW H × List MemPlace} (ht : P.underlying t = some (.slice e)) (hC : P.cellsOf e = sz) (hF : ∀ x, (F x).length = sz) (hsz : 0 < sz)
    (hel : ∀ n cs y, DataW.trod enc P w base spare held n e cs = some y → ∃ a, cs = F a ∧ Ok a) (h : DataW.trod enc P w base spare held fuel t [v] = some x) : ∃ l, RdL F sz (whole w) [] v l ∧ ∀ a ∈ l, Ok a := by
  rcases open_slice ht h with ⟨h0, _⟩ | ⟨a, len, cap, m, n, D, Pl, hcs, hb, hl, hm, hmm, hx, hi⟩
  · simp only [List.cons.injEq, and_true] at h0
    subst h0
    exact ⟨[], ⟨⟨none, 0, rfl, by simp, by omega, by simp, fun h => by simp at h⟩, hF⟩, by simp⟩
  · simp only [List.cons.injEq, and_true] at hcs
    subst hcs
    rw [hC] at hi
    have hlm : len ≤ m := by rw [hmm]; split <;> omega
    obtain ⟨l, hll, hq⟩ := HR (α := α) (Q := fun i b => w.cells? base (a.add (i * sz)) sz = some (F b) ∧ Ok b) len fun i hi' => by
      obtain ⟨cs, h1, h2⟩ := hi i (by omega)
      obtain ⟨b, rfl, h3⟩ := hel n cs _ h2
      exact ⟨b, h1, h3⟩
    refine ⟨l, ⟨⟨some a, cap, by rw [hll], by omega, by unfold maxLen at hm; omega, BL hF l, fun _ => ⟨a, rfl, fun j u hj => ?_⟩⟩, hF⟩, fun b hb => ?_⟩
    · have hjl := (List.getElem?_eq_some_iff.1 hj).1
      rw [BL hF l] at hjl
      have h1 : j / sz < l.length := Nat.div_lt_of_lt_mul (by rw [Nat.mul_comm]; exact hjl)
      have h2 : j % sz < sz := Nat.mod_lt _ hsz
      have h3 : j / sz * sz + j % sz = j := by rw [Nat.mul_comm]; exact Nat.div_add_mod j sz
      have h4 := Ey hF l (j / sz) h1 (j % sz) ((F l[j / sz])[j % sz]'(by rw [hF]; exact h2)) (List.getElem?_eq_getElem _)
      rw [h3, hj] at h4
      have h5 := Option.some.inj h4
      obtain ⟨_, _, hat⟩ := World.cells?_some (hq (j / sz) h1).1
      have h6 := hat (j % sz) h2
      rw [A6, h3] at h6
      refine Cell.ofW (h6.trans ?_)
      rw [List.getElem?_eq_getElem (by rw [hF]; exact h2), ← h5]
    · obtain ⟨i, hi', rfl⟩ := List.getElem_of_mem hb
      exact (hq i hi').2
end
end Go.Eng
namespace Go.Eng
open Go.RowKit
section
variable {P : Program} {o : Oper} {s : Ay} {h : Hp} {ms : List Hp} {x y z u : Operand} {a b c d : Int} {k k1 k2 k3 : IntKind} {ts : Array TypeId}
end
end Go.Eng
namespace Go.Eng
open Go.RowKit
section
variable {P : Program} {o : Oper} {s : Ay} {h : Hp} {ms : List Hp} {t el : TypeId} {x lo hi : Operand} {z v : Value} {bytes sz n : Nat} {cs : List Value} {k k' : IntKind}
end
end Go.Eng
namespace Go.Eng
open Go.RowKit
section
variable {e : Entry} {ops : Array Oper} {Q : Exit → Act → World → Prop} {fuel : Nat} {listed : Array Bool} {s : Ay} {h : Hp} {ms : List Hp}
theorem UH {P : Program} : ∀ fuel listed a w, wpAny P .any ops (Q0 Q) fuel listed a w → wpAny P .any ops Q fuel listed a w := by
  intro fuel
  induction fuel with
  | zero => intro listed a w H; exact ⟨H.1, H.2.2⟩
  | succ fuel ih =>
    intro listed a w H
    refine ⟨fun h => (H.1 h).2, fun i hi => ?_⟩
    have H' := H.2 i hi
    unfold wpOp at H' ⊢
    split
    · rename_i ho; simp only [ho] at H'; exact ih _ _ _ H'
    · rename_i o ho
      simp only [ho] at H'
      split
      · rename_i hw
        rw [if_pos hw] at H'
        rcases H' with H' | ⟨_, H'⟩
        · refine .inl ?_
          unfold Oper.wp at *
          generalize (execOp a.eval o).run P w = r at *
          cases r with
          | ok n w' =>
            cases n <;> simp only [Oper.upon] at H' ⊢ <;>
              first
                | exact ih _ _ _ H'
                | exact Calls.mono H' (fun x w'' he => by
                    cases x
                    · exact ih _ _ _ he
                    · exact absurd he.1 (by simp)
                    · exact absurd he HD)
                | exact Rows.mono H' (fun _ _ he => ih _ _ _ he)
          | halt x w' => cases x <;> simp only [Oper.upon] at H' ⊢ <;> first | exact H' | exact absurd H'.1 (by simp)
        · exact absurd H' HD
      · rename_i hw
        rw [if_neg hw] at H'
        exact ih _ _ _ H'
end
end Go.Eng
set_option linter.unusedSectionVars false
namespace Go.Eng
open Go.RowKit
structure LS {κ : Type} (P : Program) (kt : TypeId) (K : κ → Value) (Ok : κ → Prop) : Prop where
  law : Maps.Keyed P kt
  inj : ∀ a b, K a = K b → a = b
  key : ∀ a, Ok a → ∃ l, keyOf P kt (K a) = some l
section
variable {κ ν : Type} (K : κ → Value) (V : ν → Value)
def ent (p : (κ × ν) × Nat) : MapEntry := ⟨K p.1.1, V p.1.2, p.2⟩
structure DI (g : Nat) (Ok : κ → Prop) (m : Hp) (T : List (κ × ν)) (bs : List Nat) : Prop where
  ex : ∃ es clock, m = Hp.one g (.map es clock) ∧ es.toList = (T.zip bs).map (ent K V) ∧ ∀ b ∈ bs, b < clock
  len : bs.length = T.length
  up : bs.Pairwise (· < ·)
  keys : (T.map Prod.fst).Nodup
  ok : ∀ p ∈ T, Ok p.1
end
theorem Ju {α : Type} {l : List α} (hn : l.Nodup) {i j : Nat} {a : α} (h1 : l[i]? = some a) (h2 : l[j]? = some a) : i = j := by
  obtain ⟨i1, i2⟩ := List.getElem?_eq_some_iff.1 h1
  obtain ⟨j1, j2⟩ := List.getElem?_eq_some_iff.1 h2
  have hp := List.pairwise_iff_getElem.1 hn
  rcases Nat.lt_trichotomy i j with h | h | h
  · exact absurd (i2.trans j2.symm) (hp i j i1 j1 h)
  · exact h
  · exact absurd (j2.trans i2.symm) (hp j i j1 i1 h)
section
variable {κ ν : Type} [DecidableEq κ]
def Dg (T : List (κ × ν)) (a : κ) : Option ν := (T.find? fun p => decide (p.1 = a)).map Prod.snd
theorem G7 {T : List (κ × ν)} (hn : (T.map Prod.fst).Nodup) {j : Nat} {a : κ} {x : ν} (h : T[j]? = some (a, x)) : Dg T a = some x := by
  induction T generalizing j with
  | nil => simp at h
  | cons p T ih =>
    unfold Dg
    rw [List.find?_cons]
    cases j with
    | zero => simp at h; subst h; simp
    | succ j =>
      have h' : T[j]? = some (a, x) := by simpa using h
      have hne : p.1 ≠ a := fun e => by
        rw [List.map_cons, List.nodup_cons] at hn
        exact hn.1 (List.mem_map.2 ⟨(a, x), List.mem_of_getElem? h', e.symm⟩)
      simp only [hne, decide_false]
      rw [List.map_cons, List.nodup_cons] at hn
      exact ih hn.2 h'
theorem Ec {T : List (κ × ν)} {a : κ} (h : a ∉ T.map Prod.fst) : Dg T a = none := by
  unfold Dg
  rw [List.find?_eq_none.2 fun p hp => by
    simp only [decide_eq_true_eq]
    exact fun e => h (List.mem_map.2 ⟨p, hp, e⟩)]
  rfl
end
section
variable {κ ν : Type} [DecidableEq κ] {K : κ → Value} {V : ν → Value} {Ok : κ → Prop} {P : Program} {kt et t : TypeId} {g : Nat} {m : Hp} {T : List (κ × ν)} {bs : List Nat}
theorem He (L : LS P kt K Ok) (hn : (T.map Prod.fst).Nodup) (hok : ∀ p ∈ T, Ok p.1) (hl : bs.length = T.length) {es : Array MapEntry} (he : es.toList = (T.zip bs).map (ent K V)) (w : World) (a : κ) (ha : Ok a) :
    ((Instr.findKey kt (K a) es.toList).run P w = .ok none w ∧ a ∉ T.map Prod.fst) ∨ ∃ (j : Nat) (x : ν) (b : Nat), (Instr.findKey kt (K a) es.toList).run P w = .ok (some (j, V x)) w ∧ T[j]? = some (a, x) ∧ bs[j]? = some b ∧ es[j]? = some ⟨K a, V x, b⟩ := by
  obtain ⟨l, hk⟩ := L.key a ha
  rcases L.law.find w hk es.toList (fun e hmem => by
    rw [he] at hmem
    obtain ⟨p, hp, rfl⟩ := List.mem_map.1 hmem
    exact L.key p.1.1 (hok p.1 (List.of_mem_zip hp).1)) with ⟨h1, h2⟩ | ⟨j, e, h1, h2, h3⟩
  · refine .inl ⟨h1, fun hmem => ?_⟩
    obtain ⟨p, hp, rfl⟩ := List.mem_map.1 hmem
    obtain ⟨j, hj, e⟩ := List.getElem_of_mem hp
    have hjb : j < bs.length := by omega
    refine h2 (ent K V (p, bs[j])) ?_ rfl
    rw [he]
    exact List.mem_map.2 ⟨(p, bs[j]), List.mem_of_getElem? (i := j) (by rw [List.getElem?_zip_eq_some]; exact ⟨by rw [List.getElem?_eq_getElem hj, e], List.getElem?_eq_getElem hjb⟩), rfl⟩
  · rw [he, List.getElem?_map] at h2
    cases hz : (T.zip bs)[j]? with
    | none => rw [hz] at h2; cases h2
    | some p =>
      rw [hz] at h2
      have h2 := Option.some.inj h2
      obtain ⟨z1, z2⟩ := List.getElem?_zip_eq_some.1 hz
      have e1 : p.1.1 = a := L.inj _ _ (by rw [← h2] at h3; exact h3)
      refine .inr ⟨j, p.1.2, p.2, ?_, ?_, z2, ?_⟩
      · rw [h1, ← h2]; rfl
      · rw [z1, ← e1]
      · rw [← Array.getElem?_toList, he, List.getElem?_map, hz, ← e1]; rfl
variable {o : Oper} {s : Ay} {h : Hp} {ms : List Hp}
theorem Jr {x y : Operand} {z : ν} (a : κ) (L : LS P kt K Ok) (O : DI K V g Ok m T bs) (hm : m ∈ ms) (ho : o.op = .lookup t x y false) (ht : P.underlying t = some (.map kt et)) (hz : ∀ w, (zeroValue et).run P w = .ok (V z) w) (hx : ev s x = some (.map (some g))) (hy : ev s y = some (K a)) (ha : Ok a) :
    OX P o s h ms (V ((Dg T a).getD z)) :=
  BI fun ρ w hρ hw => by
    obtain ⟨es, clock, rfl, he, hb⟩ := O.ex
    have hgw : w.heap[g]? = some (.map es clock) := hw.own _ hm g _ (Hp.one_self _ _)
    obtain ⟨l, hk⟩ := L.key a ha
    have hc := L.law.check w es.isEmpty hk
    rcases He L O.keys O.ok O.len he w a ha with ⟨h1, h2⟩ | ⟨j, u, b, h1, h2, _, _⟩
    · rw [Ec h2]
      simp only [execOp, ho, hρ _ _ hx, hρ _ _ hy, Instr.lookup, Sem.run_bind, run_underlying ht, Result.andThen_ok, getObj, Sem.run_pure, h1, hz]
      simp [Sem.run, hgw, hc, h1, hz, Result.andThen]
    · rw [G7 O.keys h2]
      simp only [execOp, ho, hρ _ _ hx, hρ _ _ hy, Instr.lookup, Sem.run_bind, run_underlying ht, Result.andThen_ok, getObj, Sem.run_pure, h1, hz]
      simp [Sem.run, hgw, hc, h1, hz, Result.andThen]
theorem Ends.turn {w0 w : World} {h0 h : Hp} {ms0 ms : List Hp} {i g : Nat} {o o' : Obj} (H : Ends w0 h0 ms0 w h ms) (hm : ms[i]? = some (Hp.one g o)) : Ends w0 h0 ms0 { w with heap := w.heap.setIfInBounds g o' } h (ms.set i (Hp.one g o')) := by
  obtain ⟨r, p1, p2⟩ := EU ms i (Hp.one g o) (Hp.one g o') hm
  have hgw : w.heap[g]? = some o := H.st.own _ (List.mem_of_getElem? hm) g o (Hp.one_self g o)
  have hlt := (Array.getElem?_eq_some_iff.1 hgw).1
  refine Ends.perm (Ends.change (H.perm p1) rfl ⟨rfl, Nat.le_refl _⟩ rfl (by simp) ?_ fun k hk hne => ?_) p2.symm
  · simp [hlt]
  · show (w.heap.setIfInBounds g o')[k]? = w.heap[k]?
    rw [Array.getElem?_setIfInBounds_ne (Ne.symm hne)]
def Dt (T : List (κ × ν)) (a : κ) (x : ν) : List (κ × ν) := if a ∈ T.map Prod.fst then T.map fun p => if p.1 = a then (a, x) else p else T ++ [(a, x)]
theorem F0 {T : List (κ × ν)} (hn : (T.map Prod.fst).Nodup) (a : κ) (x : ν) : ((Dt T a x).map Prod.fst).Nodup := by
  unfold Dt
  split
  · have : (T.map fun p => if p.1 = a then (a, x) else p).map Prod.fst = T.map Prod.fst := by
      rw [List.map_map]
      refine List.map_congr_left fun p _ => ?_
      show (if p.1 = a then (a, x) else p).1 = p.1
      split
      · rename_i e; exact e.symm
      · rfl
    rw [this]; exact hn
  · rename_i h
    rw [List.map_append]
    exact List.nodup_append.2 ⟨hn, by simp, fun b hb c hc e => by
      simp at hc; subst hc; subst e; exact h hb⟩
theorem Fc {T : List (κ × ν)} (hn : (T.map Prod.fst).Nodup) {j : Nat} {a : κ} {y x : ν} (h : T[j]? = some (a, y)) : Dt T a x = T.set j (a, x) := by
  have hmem : a ∈ T.map Prod.fst := List.mem_map.2 ⟨(a, y), List.mem_of_getElem? h, rfl⟩
  unfold Dt
  rw [if_pos hmem]
  refine List.ext_getElem? fun i => ?_
  rw [List.getElem?_map, List.getElem?_set]
  obtain ⟨hj, hje⟩ := List.getElem?_eq_some_iff.1 h
  by_cases hij : j = i
  · subst hij; simp [h, hj, hje]
  · rw [if_neg hij]
    cases hi : T[i]? with
    | none => rfl
    | some p =>
      have : p.1 ≠ a := fun e => by
        have h1 : (T.map Prod.fst)[i]? = some a := by rw [List.getElem?_map, hi]; exact congrArg some e
        have h2 : (T.map Prod.fst)[j]? = some a := by rw [List.getElem?_map, h]; rfl
        exact hij (Ju hn h2 h1)
      simp [this]
theorem F3 {T : List (κ × ν)} (a b : κ) (x : ν) : Dg (Dt T a x) b = if b = a then some x else Dg T b := by
  unfold Dg Dt
  split
  · rename_i hmem
    induction T with
    | nil => simp at hmem
    | cons p T ih =>
      rw [List.map_cons, List.find?_cons, List.find?_cons]
      by_cases hp : p.1 = a
      · rw [if_pos hp]
        by_cases hba : b = a
        · subst hba; simp
        · have h1 : a ≠ b := fun e => hba e.symm
          have h2 : p.1 ≠ b := fun e => h1 (hp.symm.trans e)
          simp only [h1, h2, decide_false, if_neg hba]
          by_cases hmem' : a ∈ T.map Prod.fst
          · have := ih hmem'
            rw [if_neg hba] at this; exact this
          · have : (T.map fun p => if p.1 = a then (a, x) else p) = T := by
              rw [List.map_congr_left (g := id) fun q hq => ?_]
              · simp
              · rw [if_neg fun e => hmem' (List.mem_map.2 ⟨q, hq, e⟩)]; rfl
            rw [this]
      · rw [if_neg hp]
        by_cases hpb : p.1 = b
        · have hba : b ≠ a := fun e => hp (hpb.trans e)
          simp [hpb, hba]
        · simp only [hpb, decide_false]
          exact ih (by
            rw [List.map_cons, List.mem_cons] at hmem
            exact hmem.resolve_left fun e => hp e.symm)
  · rename_i hmem
    rw [List.find?_append]
    by_cases hba : b = a
    · subst hba
      rw [List.find?_eq_none.2 fun p hp => by
        simp only [decide_eq_true_eq]
        exact fun e => hmem (List.mem_map.2 ⟨p, hp, e⟩)]
      simp
    · have h1 : a ≠ b := fun e => hba e.symm
      rw [if_neg hba]
      simp [List.find?_cons, h1]
theorem NA (T : List (κ × ν)) (bs : List Nat) (j : Nat) (p : κ × ν) (b : Nat) (hb : bs[j]? = some b) : (T.set j p).zip bs = (T.zip bs).set j (p, b) := by
  induction T generalizing j bs with
  | nil => simp
  | cons q T ih =>
    cases bs with
    | nil => simp
    | cons c bs =>
      cases j with
      | zero => simp at hb; subst hb; simp
      | succ j => simp [ih bs j (by simpa using hb)]
variable {e : Entry} {Q : Exit → Act → World → Prop} {ops : Array Oper} {rest : List Oper}
theorem Gl {d : Nat} (ho : o.op = .makeMap t none) (hd : o.dst = some d) (hn : Nat.blt d e.n = true) (hg : o.guard = none)
    (k : ∀ g m, DI K V g Ok m ([] : List (κ × ν)) [] → WL e ops Q rest ((d, .map (some g)) :: s) h (m :: ms)) : WL e ops Q (o :: rest) s h ms :=
  G6 (post := fun v h' ms' => ∃ g, v = .map (some g) ∧ h' = h ∧ ms' = Hp.one g (.map #[] 0) :: ms) (fun ρ w hρ hw => by
    have : (execOp ρ o).run e.P w = .ok (.value (.map (some w.heap.size))) (w.alloc (.map #[] 0)) := by
      simp [execOp, ho, run_makeMap]
    unfold OpRes; rw [this]
    exact ⟨h, _, Ends.alloc hw _, _, rfl, rfl, rfl⟩) hd hn hg fun _ _ _ ⟨g, e1, e2, e3⟩ => by
      subst e1 e2 e3
      exact k g _ ⟨⟨#[], 0, rfl, rfl, by simp⟩, rfl, List.Pairwise.nil, by simp, by simp⟩
theorem LA (T : List (κ × ν)) (bs : List Nat) (hl : bs.length = T.length) (p : κ × ν) (b : Nat) : (T ++ [p]).zip (bs ++ [b]) = T.zip bs ++ [(p, b)] := by
  rw [List.zip_append hl.symm]; rfl
theorem N5 {bs : List Nat} (h : bs.Pairwise (· < ·)) {c : Nat} (hc : ∀ b ∈ bs, b < c) : (bs ++ [c]).Pairwise (· < ·) :=
  List.pairwise_append.2 ⟨h, by simp, fun a ha b hb => by simp at hb; subst hb; exact hc a ha⟩
theorem H2 {x y : Operand} {z : ν} {d : Nat} (i : Nat) (a : κ) (L : LS e.P kt K Ok) (O : DI K V g Ok m T bs) (hm : ms[i]? = some m) (ho : o.op = .mapEntry t x y) (ht : e.P.underlying t = some (.map kt et)) (hz : ∀ w, (zeroValue et).run e.P w = .ok (V z) w) (hx : ev s x = some (.map (some g))) (hy : ev s y = some (K a)) (ha : Ok a)
    (hd : o.dst = some d) (hn : Nat.blt d e.n = true) (hg : o.guard = none)
    (k : ∀ (m' : Hp) (bs' : List Nat) (j b : Nat), DI K V g Ok m' (Dt T a ((Dg T a).getD z)) bs' → (Dt T a ((Dg T a).getD z))[j]? = some (a, (Dg T a).getD z) → bs'[j]? = some b → WL e ops Q rest ((d, .tuple #[V ((Dg T a).getD z), .int .i64 b]) :: s) h (ms.set i m')) : WL e ops Q (o :: rest) s h ms :=
  G6 (post := fun v h' ms' => ∃ (m' : Hp) (bs' : List Nat) (j b : Nat), DI K V g Ok m' (Dt T a ((Dg T a).getD z)) bs' ∧ (Dt T a ((Dg T a).getD z))[j]? = some (a, (Dg T a).getD z) ∧ bs'[j]? = some b ∧ v = .tuple #[V ((Dg T a).getD z), .int .i64 b] ∧ h' = h ∧ ms' = ms.set i m') (fun ρ w hρ hw => by
    obtain ⟨es, clock, rfl, he, hb⟩ := O.ex
    have hgw : w.heap[g]? = some (.map es clock) := hw.st.own _ (List.mem_of_getElem? hm) g _ (Hp.one_self _ _)
    obtain ⟨l, hk⟩ := L.key a ha
    have hc := L.law.check w false hk
    have hs := L.law.stays w hk
    rcases He L O.keys O.ok O.len he w a ha with ⟨h1, h2⟩ | ⟨j, u, b, h1, h2, h3, h4⟩
    · have hT : Dt T a ((Dg T a).getD z) = T ++ [(a, z)] := by unfold Dt; rw [if_neg h2, Ec h2]; rfl
      have hrun : (execOp ρ o).run e.P w = .ok (.value (.tuple #[V z, .int .i64 clock])) { w with heap := w.heap.setIfInBounds g (.map (es.push ⟨K a, V z, clock⟩) (clock + 1)) } := by
        simp only [execOp, ho, hρ _ _ hx, hρ _ _ hy, Instr.mapEntry, Sem.run_bind, run_underlying ht, Result.andThen_ok, getObj, Sem.run_pure]
        simp [Sem.run, hgw, hc, h1, hz, Result.andThen, setObj, goInt]
      unfold OpRes; rw [hrun]
      refine ⟨h, _, Ends.turn hw hm, _, bs ++ [clock], T.length, clock, ?_, ?_, ?_, by rw [Ec h2]; rfl, rfl, rfl⟩
      · rw [hT]
        refine ⟨⟨_, _, rfl, ?_, fun b hb' => ?_⟩, by simp [O.len], N5 O.up hb, ?_, fun p hp => ?_⟩
        · rw [Array.toList_push, he, LA T bs O.len, List.map_append]; rfl
        · rcases List.mem_append.1 hb' with hb' | hb'
          · have := hb b hb'; omega
          · simp at hb'; omega
        · have := F0 O.keys a ((Dg T a).getD z); rw [hT] at this; exact this
        · rcases List.mem_append.1 hp with hp | hp
          · exact O.ok p hp
          · simp at hp; subst hp; exact ha
      · rw [hT, Ec h2]; simp
      · rw [← O.len]; simp
    · have hgk := G7 O.keys h2
      have hT : Dt T a ((Dg T a).getD z) = T := by
        rw [hgk]
        show Dt T a u = T
        rw [Fc O.keys h2]
        obtain ⟨hj, hje⟩ := List.getElem?_eq_some_iff.1 h2
        rw [← hje]; exact List.set_getElem_self hj
      have hj4 := (Array.getElem?_eq_some_iff.1 h4)
      have hmod : es.modify j (fun e => { e with key := K a }) = es := by
        refine Array.ext_getElem? fun i => ?_
        rw [Array.getElem?_modify]
        split
        · rename_i hij; subst hij; rw [h4]; rfl
        · rfl
      have hrun : (execOp ρ o).run e.P w = .ok (.value (.tuple #[V u, .int .i64 b])) { w with heap := w.heap.setIfInBounds g (.map es clock) } := by
        simp only [execOp, ho, hρ _ _ hx, hρ _ _ hy, Instr.mapEntry, Sem.run_bind, run_underlying ht, Result.andThen_ok, getObj, Sem.run_pure]
        simp [Sem.run, hgw, hc, h1, hz, Result.andThen, setObj, goInt, h4, hs, hmod]
      unfold OpRes; rw [hrun]
      exact ⟨h, _, Ends.turn hw hm, _, bs, j, b, by rw [hT]; exact ⟨⟨_, _, rfl, he, hb⟩, O.len, O.up, O.keys, O.ok⟩, by rw [hT, hgk]; exact h2, h3, by rw [hgk]; rfl, rfl, rfl⟩) hd hn hg fun v h' ms' ⟨m', bs', j, b, e1, e2, e3, e4, e5, e6⟩ => by subst e4 e5 e6; exact k m' bs' j b e1 e2 e3
theorem Gi {x y u : Operand} (i : Nat) {j b : Nat} {a : κ} {x0 : ν} (y' : ν) (O : DI K V g Ok m T bs) (hj : T[j]? = some (a, x0)) (hjb : bs[j]? = some b) (hm : ms[i]? = some m) (ho : o.op = .entryStore t x y u) (hx : ev s x = some (.map (some g))) (hy : ev s y = some (.int .i64 b)) (hu : ev s u = some (V y'))
    (hd : o.dst = none) (hg : o.guard = none) (k : ∀ m', DI K V g Ok m' (Dt T a y') bs → WL e ops Q rest s h (ms.set i m')) : WL e ops Q (o :: rest) s h ms :=
  Jp (post := fun _ h' ms' => ∃ m', DI K V g Ok m' (Dt T a y') bs ∧ h' = h ∧ ms' = ms.set i m') (fun ρ w hρ hw => by
    obtain ⟨es, clock, rfl, he, hb⟩ := O.ex
    have hgw : w.heap[g]? = some (.map es clock) := hw.st.own _ (List.mem_of_getElem? hm) g _ (Hp.one_self _ _)
    have hjl := (List.getElem?_eq_some_iff.1 hj).1
    have hz : (T.zip bs)[j]? = some ((a, x0), b) := by rw [List.getElem?_zip_eq_some]; exact ⟨hj, hjb⟩
    have hej : es[j]? = some ⟨K a, V x0, b⟩ := by rw [← Array.getElem?_toList, he, List.getElem?_map, hz]; rfl
    have hfind : es.findIdx? (fun e => ((e.born : Int) == (b : Int))) = some j := by
      rw [show es = es.toList.toArray by simp, List.findIdx?_toArray, List.findIdx?_eq_some_iff_getElem]
      have hjs : j < es.toList.length := by simpa using (Array.getElem?_eq_some_iff.1 hej).1
      refine ⟨hjs, ?_, fun k hk => ?_⟩
      · have : es.toList[j] = ⟨K a, V x0, b⟩ := by
          have := Array.getElem?_toList (xs := es) (i := j)
          rw [hej, List.getElem?_eq_getElem hjs] at this
          exact Option.some.inj this
        rw [this]; simp
      · have hkl : k < T.length := by omega
        have hkb : k < bs.length := by rw [O.len]; exact hkl
        have : es.toList[k]? = some (ent K V (T[k], bs[k])) := by
          rw [he, List.getElem?_map, List.getElem?_zip_eq_some (z := (T[k], bs[k])) |>.2 ⟨List.getElem?_eq_getElem hkl, List.getElem?_eq_getElem hkb⟩]; rfl
        rw [List.getElem?_eq_getElem (by omega)] at this
        rw [Option.some.inj this]
        have hjb' : j < bs.length := by have := O.len; omega
        have hlt := List.pairwise_iff_getElem.1 O.up k j hkb hjb' hk
        have hbj : bs[j]'hjb' = b := by
          rw [List.getElem?_eq_getElem hjb'] at hjb; exact Option.some.inj hjb
        simp [ent]; omega
    have hrun : (execOp ρ o).run e.P w = .ok .skip { w with heap := w.heap.setIfInBounds g (.map (es.modify j fun e => { e with val := V y' }) clock) } := by
      simp only [execOp, ho, hρ _ _ hx, hρ _ _ hy, hρ _ _ hu, Instr.entryStore, Sem.run_bind, Result.andThen_ok, getObj, Sem.run_pure, asInt]
      simp [Sem.run, hgw, hfind, Result.andThen, setObj, asInt, asIntOf]
    unfold OpRes; rw [hrun]
    refine ⟨h, _, Ends.turn hw hm, _, ?_, rfl, rfl⟩
    refine ⟨⟨_, _, rfl, ?_, hb⟩, ?_, O.up, F0 O.keys a y', fun p hp => ?_⟩
    · rw [Fc O.keys hj, NA T bs j _ b hjb, List.map_set, ← he]
      refine List.ext_getElem? fun k => ?_
      rw [Array.getElem?_toList, Array.getElem?_modify, List.getElem?_set]
      by_cases hjk : j = k
      · subst hjk
        rw [if_pos rfl, if_pos rfl, hej]
        have : j < es.toList.length := by simpa using (Array.getElem?_eq_some_iff.1 hej).1
        rw [if_pos this]; rfl
      · rw [if_neg hjk, if_neg hjk, Array.getElem?_toList]
    · rw [Fc O.keys hj, List.length_set]; exact O.len
    · rw [Fc O.keys hj] at hp
      rcases List.mem_or_eq_of_mem_set hp with hp | hp
      · exact O.ok p hp
      · subst hp; exact O.ok (a, x0) (List.mem_of_getElem? hj)) hd hg fun v h' ms' ⟨m', e1, e2, e3⟩ => by subst e2 e3; exact k m' e1
end
end Go.Eng
namespace Go.Eng
open Go.RowKit
structure IW (gi g : Nat) (m mi : Hp) (bs vis : List Nat) : Prop where
  ex : ∃ es clock since seen last, m = Hp.one g (.map es clock) ∧ mi = Hp.one gi (.mapIter (some g) since seen last) ∧ (∀ b ∈ bs, b < since) ∧ since ≤ last ∧ since ≤ clock ∧ seen.toList = vis.map (fun j => bs[j]?.getD 0) ∧ (vis ≠ [] → last = clock)
  lt : ∀ j ∈ vis, j < bs.length
  nodup : vis.Nodup
theorem Nq {g : Nat} {o o' : Obj} (h : Hp.one g o = Hp.one g o') : o = o' := by
  have := congrFun h g
  rw [Hp.one_self, Hp.one_self] at this
  exact Option.some.inj this
section
variable {κ ν : Type} [DecidableEq κ] {K : κ → Value} {V : ν → Value} {Ok : κ → Prop} {P : Program} {t : TypeId} {gi g : Nat} {m mi : Hp} {T : List (κ × ν)} {bs vis : List Nat}
variable {o : Oper} {s : Ay} {h : Hp} {ms : List Hp} {e : Entry} {Q : Exit → Act → World → Prop} {ops : Array Oper} {rest : List Oper}
theorem UV {bs : List Nat} (h : bs.Pairwise (· < ·)) {i j : Nat} {b : Nat} (hi : bs[i]? = some b) (hj : bs[j]? = some b) : i = j :=
  Ju (h.imp fun h => Nat.ne_of_lt h) hi hj
end
end Go.Eng
namespace Go.Eng
open Go.RowKit
variable {m : Hp} {c : Code} {w : World}
theorem Cw {α : Type} : ∀ {l : List α} {i : Nat} {a : α}, l[i]? = some a → l.Perm (a :: l.eraseIdx i)
  | [], i, a, h => by simp at h
  | b :: l, 0, a, h => by simp at h; subst h; simp
  | b :: l, i + 1, a, h => by
    simp at h
    exact ((Cw h).cons b).trans (List.Perm.swap _ _ _)
theorem Ends.erase {w0 : World} {h0 h : Hp} {ms0 ms : List Hp} {i : Nat} (H : Ends w0 h0 ms0 w h ms) (hm : ms[i]? = some m) : Ends w0 h0 ms0 w h (ms.eraseIdx i) :=
  Ends.drop (Ends.perm H (Cw hm))
section
variable {P : Program} {w0 : World} {h0 : Hp} {ms0 : List Hp} {n : Nat} {fn : Func} {post : Value → Hp → List Hp → Prop} {s : Ay} {h : Hp} {ms : List Hp} {t u : Nat} {ty el : TypeId} {g : Nat} {d : TypeDesc} {sz : Nat} {z : Value} {bytes : Nat} {vs : List Value} {v : Value}
theorem Cl (i : Nat) (hr : fn.results = #[.cell t ty]) (hv : lk s t = some (.pointer (some ⟨g, 0, none⟩))) (ht : P.underlying ty = some d) (hd : Jj d = true) (hs : Elem P ty sz z bytes) (hl : vs.length = sz) (hc : ms[i]? = some (AX g el vs)) (hp : post (.agg vs.toArray) h (ms.eraseIdx i)) :
    NX ⟨P, w0, h0, ms0, n, []⟩ (bodyPost P fn (RP w0 h0 ms0 post)) .ret s h ms := fun a w ha hw => by
  have h1 : a.tmps[t]?.getD undef = .pointer (some ⟨g, 0, none⟩) := by rw [ha.slots t _ hv]; rfl
  have hag : (isAgg ty).run P w = .ok true w := by rw [F2 ht, hd]
  have hc' : ∀ j v, vs[j]? = some v → w.cell? ((⟨g, 0, none⟩ : Addr).add j) = some v := fun j v e => hw.st.cell (Seg.blk i hc j v e)
  refine bodyPost_ret (v := .agg vs.toArray) ?_ ha.defers ⟨_, h, _, rfl, Ends.erase hw hc, hp⟩
  subst hl
  simp [results, hr, h1, asAddr, loadVar, hag, hs.sizeOf, run_loadCells_list (P := P) w _ vs hc']
theorem CX (i : Nat) (hr : fn.results = #[.cell t ty, .tmp u]) (hv : lk s t = some (.pointer (some ⟨g, 0, none⟩))) (hu : lk s u = some v) (ht : P.underlying ty = some d) (hd : Jj d = true) (hs : Elem P ty sz z bytes) (hl : vs.length = sz) (hc : ms[i]? = some (AX g el vs)) (hp : post (.tuple #[.agg vs.toArray, v]) h (ms.eraseIdx i)) :
    NX ⟨P, w0, h0, ms0, n, []⟩ (bodyPost P fn (RP w0 h0 ms0 post)) .ret s h ms := fun a w ha hw => by
  have h1 : a.tmps[t]?.getD undef = .pointer (some ⟨g, 0, none⟩) := by rw [ha.slots t _ hv]; rfl
  have h2 : a.tmps[u]?.getD undef = v := by rw [ha.slots u _ hu]; rfl
  have hag : (isAgg ty).run P w = .ok true w := by rw [F2 ht, hd]
  have hc' : ∀ j v, vs[j]? = some v → w.cell? ((⟨g, 0, none⟩ : Addr).add j) = some v := fun j v e => hw.st.cell (Seg.blk i hc j v e)
  refine bodyPost_ret (v := .tuple #[.agg vs.toArray, v]) ?_ ha.defers ⟨_, h, _, rfl, Ends.erase hw hc, hp⟩
  subst hl
  simp [results, hr, h1, h2, asAddr, loadVar, hag, hs.sizeOf, run_loadCells_list (P := P) w _ vs hc']
end
def Nu : Value → Bool
  | .slice none _ _ => true
  | _ => false
section
variable {P : Program} {o : Oper} {s : Ay} {h : Hp} {ms : List Hp} {t u el : TypeId} {x y : Operand} {v : Value} {sz n : Nat} {cs : List Value}
theorem Ru (R : Rd h ms v sz n cs) (ho : o.op = .binOp .eql t x y u) (ht : P.underlying t = some (.slice el)) (hx : ev s x = some v) (hy : ev s y = some (.slice none 0 0)) : OX P o s h ms (.bool (Nu v)) := by
  obtain ⟨a, c, rfl, _⟩ := R.ex
  refine BI fun ρ w hρ _ => ?_
  have := Go.Lib.run_eql_slice_nil w t el a n c 0 0 ht
  have hg : (eqGuard .eql t x y (.slice a n c) (.slice none 0 0)).run P w = .ok () w := by simp [eqGuard]
  cases a <;> simp [execOp, ho, hρ _ _ hx, hρ _ _ hy, this, hg, Nu]
end
theorem O9 {h : Hp} {ms : List Hp} {v : Value} {sz n : Nat} {cs : List Value} (R : Rd h ms v sz n cs) (hv : Nu v = true) : n = 0 := by
  obtain ⟨a, c, rfl, h1, h2, h3, h4⟩ := R.ex
  refine Nat.eq_zero_of_not_pos fun hn => ?_
  obtain ⟨q, rfl, _⟩ := h4 hn
  simp [Nu] at hv
theorem Hp.disj_join {a b c : Hp} (h1 : a.disj c) (h2 : b.disj c) : (a.join b).disj c := fun g => by
  rcases h1 g with e1 | e1
  · rcases h2 g with e2 | e2
    · left; simp [Hp.join, e1, e2]
    · exact .inr e2
  · exact .inr e1
theorem Hp.disj_left {a b c : Hp} (h : (a.join b).disj c) : a.disj c := fun g => by
  rcases h g with e | e
  · left
    cases ha : a g with
    | none => rfl
    | some o => simp [Hp.join, ha] at e
  · exact .inr e
theorem Hp.disj_right {a b c : Hp} (h : (a.join b).disj c) : b.disj c := fun g => by
  rcases h g with e | e
  · left
    cases ha : a g with
    | none => simpa [Hp.join, ha] using e
    | some o => simp [Hp.join, ha] at e
  · exact .inr e
theorem IN {e : Entry} {Q : Exit → Act → World → Prop} {s : Ay} {h : Hp} {ms : List Hp} {x : Exit} (k : NX e Q x s h (Hp.emp :: ms)) : NX e Q x s h ms := fun a w ha hw => k a w ha
  ⟨⟨hw.st.imm, fun m hm => by
      rcases List.mem_cons.1 hm with rfl | hm
      · intro g o e; cases e
      · exact hw.st.own m hm, fun m hm => by
      rcases List.mem_cons.1 hm with rfl | hm
      · exact fun _ => .inl rfl
      · exact hw.st.off m hm, List.pairwise_cons.2 ⟨fun _ _ _ => .inl rfl, hw.st.apart⟩⟩, hw.os, hw.tape, hw.output, hw.size, hw.block, hw.le, hw.hnew, fun m hm k hk hne => by
      rcases List.mem_cons.1 hm with rfl | hm
      · exact absurd rfl hne
      · exact hw.mnew m hm k hk hne⟩
theorem AP {e : Entry} {Q : Exit → Act → World → Prop} {s : Ay} {h : Hp} {ms : List Hp} {x : Exit} (i : Nat) (hm : ms[i]? = some m) (k : NX e Q x s h (ms.eraseIdx i)) : NX e Q x s h ms := fun a w ha hw => k a w ha (Ends.erase hw hm)
theorem HF {e : Entry} {Q : Exit → Act → World → Prop} {s : Ay} {h : Hp} {ms : List Hp} (i : Nat) (hm : ms[i]? = some m) (k : WS e c Q s h (ms.eraseIdx i)) : WS e c Q s h ms := fun a w ha hw => k a w ha (Ends.erase hw hm)
theorem Oe {e : Entry} {Q : Exit → Act → World → Prop} {s : Ay} {h : Hp} {ms : List Hp} {ops : Array Oper} {r : List Oper} (i : Nat) (hm : ms[i]? = some m) (k : WL e ops Q r s h (ms.eraseIdx i)) : WL e ops Q r s h ms := fun a w ha hw => k a w ha (Ends.erase hw hm)
@[simp] theorem Wz (k : IntKind) (n : Int) : (Value.int k n).oneCell' = true := rfl
@[simp] theorem Wj (b : Bool) : (Value.bool b).oneCell' = true := rfl
@[simp] theorem Wo (p : Option Addr) : (Value.pointer p).oneCell' = true := rfl
@[simp] theorem VN (p : Option Addr) (n c : Nat) : (Value.slice p n c).oneCell' = true := rfl
@[simp] theorem Wy (p : Option Nat) : (Value.map p).oneCell' = true := rfl
theorem Bu {e : Entry} {Q : Exit → Act → World → Prop} {ops : Array Oper} {rest : List Oper} {o : Oper} {s : Ay} {h : Hp} {ms : List Hp} {el : TypeId} {v : Value} {l : List Int} {t : TypeId} {x y : Operand} {z : Value} {bytes : Nat} {a : Int} (i j : Nat) (O : OwnL cI 1 el m v l) (ho : o.op = .store t x y) (hs : Elem e.P t 1 z bytes) (hx : ev s x = some (.pointer (some ((Bl v).add (j * 1))))) (hy : ev s y = some (.int .i64 a))
    (hm : ms[i]? = some m) (hj : j < l.length) (hd : o.dst = none) (hg : o.guard = none)
    (K : ∀ m', OwnL cI 1 el m' v (l.set j a) → WL e ops Q rest s h (ms.set i m')) : WL e ops Q (o :: rest) s h ms :=
  Ms i j (fun _ => rfl) O ho hs hx hy rfl hm hj hd hg K
theorem OwnL.blk {α : Type} {F : α → List Value} {sz : Nat} {el : TypeId} {g : Nat} {l : List α} (n : Nat) (hF : ∀ x, (F x).length = sz) (hl : l.length = n) (hn : n ≤ 9223372036854775807) : OwnL F sz el (AX g el (l.flatMap F)) (.slice (some ⟨g, 0, none⟩) n n) l :=
  ⟨⟨BL hF l, .inr ⟨g, n, [], by rw [hl], by rw [List.append_nil], by rw [List.append_nil, BL hF, hl], by omega, hn⟩⟩, hF⟩
theorem OwnL.rep {g : Nat} {el : TypeId} (n : Nat) (x : Int) (hn : n ≤ 9223372036854775807) : OwnL cI 1 el (AX g el (List.replicate n (.int .i64 x))) (.slice (some ⟨g, 0, none⟩) n n) (List.replicate n x) := by
  rw [Q8]
  exact OwnL.blk n Br (by simp) hn
theorem Ends.join {w0 : World} {h0 h : Hp} {ms0 ms : List Hp} {a b : Hp} (H : Ends w0 h0 ms0 w h (a :: b :: ms)) : Ends w0 h0 ms0 w h (a.join b :: ms) := by
  have hap := List.pairwise_cons.1 H.st.apart
  have hap2 := List.pairwise_cons.1 hap.2
  refine ⟨⟨H.st.imm, ?_, ?_, List.pairwise_cons.2 ⟨fun m hm => Hp.disj_join (hap.1 m (List.mem_cons_of_mem _ hm)) (hap2.1 m hm), hap2.2⟩⟩, H.os, H.tape, H.output, H.size, H.block, H.le, H.hnew, ?_⟩
  · intro m hm
    rcases List.mem_cons.1 hm with rfl | hm
    · intro k o e
      unfold Hp.join at e
      split at e
      · rename_i o' e'; cases e; exact H.st.own a (by simp) k _ e'
      · exact H.st.own b (by simp) k o e
    · exact H.st.own m (by simp [hm])
  · intro m hm
    rcases List.mem_cons.1 hm with rfl | hm
    · exact Hp.disj_join (H.st.off a (by simp)) (H.st.off b (by simp))
    · exact H.st.off m (by simp [hm])
  · intro m hm k hk e
    rcases List.mem_cons.1 hm with rfl | hm
    · cases ha : a k with
      | some o => exact H.mnew a (by simp) k hk (by rw [ha]; simp)
      | none => exact H.mnew b (by simp) k hk (by simpa [Hp.join, ha] using e)
    · exact H.mnew m (by simp [hm]) k hk e
theorem Ends.part {w0 : World} {h0 h : Hp} {ms0 ms : List Hp} {a b : Hp} (H : Ends w0 h0 ms0 w h (a.join b :: ms)) (hd : a.disj b) : Ends w0 h0 ms0 w h (a :: b :: ms) := by
  have hap := List.pairwise_cons.1 H.st.apart
  have hb : ∀ k o, b k = some o → (a.join b) k = some o := fun k o e => by
    rcases hd k with e1 | e1
    · simp [Hp.join, e1, e]
    · rw [e1] at e; cases e
  have ha : ∀ k o, a k = some o → (a.join b) k = some o := fun k o e => by simp [Hp.join, e]
  refine ⟨⟨H.st.imm, ?_, ?_, List.pairwise_cons.2 ⟨?_, List.pairwise_cons.2 ⟨fun m hm => Hp.disj_right (hap.1 m hm), hap.2⟩⟩⟩, H.os, H.tape, H.output, H.size, H.block, H.le, H.hnew, ?_⟩
  · intro m hm
    rcases List.mem_cons.1 hm with rfl | hm
    · exact fun k o e => H.st.own _ (by simp) k o (ha k o e)
    rcases List.mem_cons.1 hm with rfl | hm
    · exact fun k o e => H.st.own _ (by simp) k o (hb k o e)
    · exact H.st.own m (by simp [hm])
  · intro m hm
    have h1 := H.st.off (a.join b) (by simp)
    rcases List.mem_cons.1 hm with rfl | hm
    · exact Hp.disj_left h1
    rcases List.mem_cons.1 hm with rfl | hm
    · exact Hp.disj_right h1
    · exact H.st.off m (by simp [hm])
  · intro m hm
    rcases List.mem_cons.1 hm with rfl | hm
    · exact hd
    · exact Hp.disj_left (hap.1 m hm)
  · intro m hm k hk e
    rcases List.mem_cons.1 hm with rfl | hm
    · obtain ⟨o, ho⟩ := Hp.ne_none e
      exact H.mnew (m.join b) (by simp) k hk (by rw [ha k o ho]; simp)
    rcases List.mem_cons.1 hm with rfl | hm
    · obtain ⟨o, ho⟩ := Hp.ne_none e
      exact H.mnew (a.join m) (by simp) k hk (by rw [hb k o ho]; simp)
    · exact H.mnew m (by simp [hm]) k hk e
section
variable {e : Entry} {Q : Exit → Act → World → Prop} {s : Ay} {h : Hp} {ms : List Hp} {a b : Hp} {ops : Array Oper}
theorem Tq (k : WS e c Q s h (a.join b :: ms)) : WS e c Q s h (a :: b :: ms) := fun x w ha hw => k x w ha (Ends.join hw)
theorem Cq {y : Exit} (k : NX e Q y s h (a.join b :: ms)) : NX e Q y s h (a :: b :: ms) := fun x w ha hw => k x w ha (Ends.join hw)
theorem Il (hd : a.disj b) (k : WS e c Q s h (a :: b :: ms)) : WS e c Q s h (a.join b :: ms) := fun x w ha hw => k x w ha (Ends.part hw hd)
theorem PQ (k : ms.Pairwise Hp.disj → WS e c Q s h ms) : WS e c Q s h ms := fun x w ha hw => k hw.st.apart x w ha hw
theorem Ck {y : Exit} (k : ms.Pairwise Hp.disj → NX e Q y s h ms) : NX e Q y s h ms := fun x w ha hw => k hw.st.apart x w ha hw
end
end Go.Eng
namespace Go.Eng
open Go.RowKit Go.Lin
variable {h : Hp} {ms : List Hp} {v : Value}
theorem RdL.row {r c : Nat} {f : Nat → Nat → Int} (R : RdL cI 1 h ms v (mat r c f)) {i : Nat} (hi : i < r) : RdL cI 1 h ms (Ch 1 v (i * c) ((i + 1) * c)) (vec c (f i)) := by
  have h0 : (i + 1) * c ≤ r * c := Nat.mul_le_mul_right c hi
  have h1 : (i + 1) * c = i * c + c := by rw [Nat.add_mul, Nat.one_mul]
  have := R.sub_ (i := i * c) (j := (i + 1) * c) (by omega) (by rw [AY]; exact h0)
  rw [show (i + 1) * c - i * c = c by omega, Ti hi] at this
  exact this
theorem RdL.ent {r c : Nat} {f : Nat → Nat → Int} (R : RdL cI 1 h ms v (mat r c f)) {i j : Nat} (hi : i < r) (hj : j < c) : Cell h ms ((Bl v).add ((i * c + j) * 1)) (.int .i64 (f i j)) := by
  have hl : i * c + j < (mat r c f).length := by rw [AY]; exact Cp hi hj
  have := R.cell0 hl (u := .int .i64 (f i j)) (by rw [Tz hi hj]; rfl)
  exact this
theorem RdL.ev {n : Nat} {f : Nat → Int} (R : RdL cI 1 h ms v (vec n f)) {j : Nat} (hj : j < n) : Cell h ms ((Bl v).add (j * 1)) (.int .i64 (f j)) := by
  have hl : j < (vec n f).length := by rw [AQ]; exact hj
  exact R.cell0 hl (u := .int .i64 (f j)) (by rw [EE hj]; rfl)
end Go.Eng
namespace Go.Eng
open Go.RowKit
variable {n : Nat} {o : Oper} {l : List Oper} {a : Act} {w : World} {v : Value} {z : Ay}
def WB (e : Entry) (ops : Array Oper) (Q : Exit → Act → World → Prop) (h0 : Hp) : Nat → Array Bool → Ay → Hp → List Hp → Prop
  | 0, listed, s, h, ms => Region.ready .any ops listed = [] ∧ NX e Q .normal s h ms
  | n + 1, listed, s, h, ms => (Region.ready .any ops listed = [] → NX e Q .normal s h ms) ∧ ∀ i ∈ Region.ready .any ops listed, ∃ o, ops[i]? = some o ∧
      WL e ops (fun x a w => x = .normal ∧ ∃ s' h' ms', Has e.n e.ds a s' ∧ e.Ends w h' ms' ∧ h0.le h' ∧ WB e ops Q h0 n (listed.setIfInBounds i true) s' h' ms') [o] s h ms
def HB (e : Entry) (ops : Array Oper) (Q : Exit → Act → World → Prop) (h0 : Hp) (n : Nat) (listed : Array Bool) (a : Act) (w : World) : Prop :=
  ∃ s' h' ms', Has e.n e.ds a s' ∧ e.Ends w h' ms' ∧ h0.le h' ∧ WB e ops Q h0 n listed s' h' ms'
def QB (e : Entry) (ops : Array Oper) (Q : Exit → Act → World → Prop) (h0 : Hp) (n : Nat) (listed : Array Bool) : Exit → Act → World → Prop :=
  fun x a w => x = .normal ∧ HB e ops Q h0 n listed a w
theorem KB {e : Entry} {ops : Array Oper} {Q : Exit → Act → World → Prop} {h0 : Hp} {listed : Array Bool} : ¬ LetsOut (QB e ops Q h0 n listed) := fun h => by simp [LetsOut, QB] at h
theorem HB.ext {e : Entry} {ops : Array Oper} {Q : Exit → Act → World → Prop} {h0 : Hp} {listed : Array Bool} {w' : World} (H : HB e ops Q h0 n listed a w) (he : Ext w w') : HB e ops Q h0 n listed a w' := by
  obtain ⟨s', h', ms', g1, g2, g3, g4⟩ := H
  exact ⟨s', h', ms', g1, Ends.ext g2 he, g3, g4⟩
structure VR (P : Program) (pu : List Nat) (ops : Array Oper) (s z : Ay) (n : Nat) (h0 : Hp) : Prop where
  val : ∀ i o d, pu.contains i = true → ops[i]? = some o → o.dst = some d → ∃ v, lk z d = some v ∧ OX P o (z ++ s) h0 [] v
  only : ∀ t v, lk z t = some v → t < n ∧ ∃ i, pu.contains i = true ∧ Bf ops i = some t
section
variable {P : Program} {ops : Array Oper} {Q : Exit → Act → World → Prop}
theorem Pi {s : Ay} {h0 : Hp} (hs : ∀ cs b, o.op ≠ .select cs b) (hl : ∀ t ∈ o.looksAt ops, ∀ u, lk s t = some u → a.tmps[t]? = some u)
    (k : OX P o s h0 [] v) (hw : St w h0 []) : OpRes P o a.eval w (fun v' w' => v' = v ∧ Ext w w') := by
  classical
  unfold OpRes
  rw [execOp_congr (ρ := a.eval) (ρ' := fun x => if x ∈ o.op.operands then a.eval x else (ev s x).getD undef) o hs (fun x hx => (if_pos hx).symm)]
  refine k _ w (fun x u hu => ?_) hw
  show (if x ∈ o.op.operands then a.eval x else (ev s x).getD undef) = u
  split
  · rename_i hx
    cases x with
    | tmp t =>
      refine Act.eval_of_slot (hl t ?_ u hu)
      exact List.mem_append_left _ (List.mem_filterMap.2 ⟨.tmp t, by simpa using hx, rfl⟩)
    | const v => cases hu; rfl
    | global g => cases hu; rfl
    | func f => cases hu; rfl
  · rw [hu]; rfl
theorem Oper.wp_sim' {K K' : Act → World → Prop} {Qb : Exit → Act → World → Prop} (hq : ∀ x a w, Qb x a w → x = .normal) (hlo : ¬ LetsOut Qb) (hx : execOp (zA z a).eval o = execOp a.eval o) (hd : ∀ t, o.dst = some t → lk z t = none) (hK : ∀ b w v, b.tmps = (a.put o.dst v).tmps → K' (zA z b) w → K b w)
    (h : o.wp P (zA z a) w K' Qb) : o.wp P a w K (Q0 Q) := by
  unfold Oper.wp at *
  rw [hx] at h
  generalize (execOp a.eval o).run P w = r at *
  have hv : ∀ v w, K' ((zA z a).put o.dst v) w → K (a.put o.dst v) w := fun v w hh => hK _ _ v rfl (by rw [E2 hd]; exact hh)
  cases r with
  | ok n w' =>
    cases n <;> simp only [Oper.upon] at h ⊢ <;>
      first
        | exact hv _ _ h
        | exact Calls.mono h (fun e w'' he => by
            cases e
            · exact hv _ _ he
            · exact absurd (hq _ _ _ he) (by simp)
            · exact absurd he hlo)
        | exact Rows.mono h (fun _ _ he => hv _ _ he)
        | exact hK _ _ undef (by cases o.dst <;> rfl) (by rw [E2 hd]; exact h)
  | halt x w' => cases x <;> simp only [Oper.upon] at h ⊢ <;> first | exact h | exact absurd (hq _ _ _ h) (by simp)
end
theorem Vn {e : Entry} {ops : Array Oper} {Q : Exit → Act → World → Prop} {h0 : Hp} {pu : List Nat} {s : Ay} {a0 : Act} (ha0 : Has e.n e.ds a0 s) (hp : Wp pu ops) (hb : ∀ i o, ops[i]? = some o → ∀ e ∈ o.after, Region.binds .any e = true → e.on < i) (hz : VR e.P pu ops s z e.n h0) :
    ∀ fuel fuel' listed a w, Wi pu ops z a0 a listed → listed.size = ops.size → left listed ≤ fuel → HB e ops Q h0 fuel' (un pu listed) (zA z a) w → wpAny e.P .any ops (Q0 Q) fuel listed a w := by
  -- all is listed
  have alldone : ∀ fuel' listed a w, Wi pu ops z a0 a listed → listed.size = ops.size → (∀ j, j < ops.size → listed.getD j false = true) → HB e ops Q h0 fuel' (un pu listed) (zA z a) w → Region.ready .any ops listed = [] ∧ (Q0 Q) .normal a w := by
    intro fuel' listed a w S hsz hall H
    have noready : ∀ l' : Array Bool, (∀ j, j < ops.size → l'.getD j false = true) → Region.ready .any ops l' = [] := fun l' hl' => by
      cases hr : Region.ready .any ops l' with
      | nil => rfl
      | cons x xs =>
        have hx : x ∈ Region.ready .any ops l' := by rw [hr]; exact List.mem_cons_self
        obtain ⟨h0, o, ho, _⟩ := mem_ready.1 hx
        have := hl' x (Array.getElem?_eq_some_iff.1 ho).1
        have h2 := Be h0
        rw [Array.getD_eq_getD_getElem?, h2] at this; cases this
    have hr' := noready (un pu listed) (fun j hj => by rw [Gn _ _ _ _ (by omega), hall j hj]; rfl)
    have hQ : (Q0 Q) .normal (zA z a) w := by
      obtain ⟨s', h', ms', g1, g2, g3, g4⟩ := H
      cases fuel' with
      | zero => exact ⟨rfl, g4.2 _ _ g1 g2⟩
      | succ f => exact ⟨rfl, g4.1 hr' _ _ g1 g2⟩
    have hza : zA z a = a := by
      refine Ij ?_ rfl
      apply Array.ext_getElem?
      intro t
      rw [DY]
      cases hl : lk z t with
      | none => simp
      | some v =>
        obtain ⟨hn, i, hi, hd⟩ := hz.only t v hl
        have hlt : t < a.tmps.size := by rw [S.size, ha0.size]; exact hn
        rw [S.pure i hi (hall i (CJ hd)) t v hd hl hlt]; rfl
    rw [hza] at hQ
    exact ⟨noready _ hall, hQ⟩
  have hall_of : ∀ listed : Array Bool, listed.size = ops.size → left listed = 0 → ∀ j, j < ops.size → listed.getD j false = true := fun listed hsz h0 j hj => by
    have h1 := Hy h0 j
    have hjlt : j < listed.size := by omega
    rw [Array.getD_eq_getD_getElem?] at h1 ⊢
    simp [hjlt] at h1 ⊢; exact h1
  intro fuel
  induction fuel with
  | zero =>
    intro fuel' listed a w S hsz hle H
    exact alldone fuel' listed a w S hsz (hall_of listed hsz (by omega)) H
  | succ fuel ih =>
    intro fuel' listed a w S hsz hle H
    refine ⟨fun hr0 => ?_, fun i hir => ?_⟩
    · -- nothing is ready: all is listed
      refine (alldone fuel' listed a w S hsz ?_ H).2
      intro j
      induction j using Nat.strongRecOn with
      | _ j ihj =>
        intro hj
        cases hl : listed.getD j false with
        | true => rfl
        | false =>
          have ho : ops[j]? = some ops[j] := by simp [hj]
          have : j ∈ Region.ready .any ops listed := mem_ready.2 ⟨by
            have hjlt : j < listed.size := by omega
            rw [Array.getD_eq_getD_getElem?] at hl ⊢
            simp [hjlt] at hl ⊢; exact hl, _, ho, fun ed hed hbd => by
              have := hb j _ ho ed hed hbd
              exact ihj _ this (by omega)⟩
          rw [hr0] at this; cases this
    · obtain ⟨hun, o, ho, hall⟩ := mem_ready.1 hir
      have hilt : i < ops.size := (Array.getElem?_eq_some_iff.1 ho).1
      have hdi : Bf ops i = o.dst := by simp [Bf, ho]
      have hsel : ∀ cs b, o.op ≠ .select cs b := fun cs b => Region.noSelect_spec hp.nosel i o cs b ho
      have hls := GF (Be hun)
      have hset : ∀ j d, (listed.setIfInBounds i true).getD j d = if j = i then true else listed.getD j d := fun j d => by
        by_cases hj : j = i
        · subst hj; simp [show j < listed.size by omega]
        · rw [getD_set_ne d (Ne.symm hj)]; simp [hj]
      -- the slots of pure ones that are looked at stand
      have hpl : ∀ t ∈ o.looksAt ops, ∀ v, lk z t = some v → a.tmps[t]? = some v ∧ ∃ j, pu.contains j = true ∧ Bf ops j = some t := fun t ht v hv => by
        obtain ⟨hn, j, hj, hd⟩ := hz.only t v hv
        refine ⟨?_, j, hj, hd⟩
        rcases hp.look i o t j ho ht hd with ⟨_, h2⟩ | ⟨h2, _⟩
        · obtain ⟨e, he, hbd, rfl⟩ := Ed h2
          exact S.pure _ hj (hall e he hbd) t v hd hv (by rw [S.size, ha0.size]; exact hn)
        · rw [hj] at h2; cases h2
      have hsame : ∀ t ∈ o.looksAt ops, (zA z a).tmps[t]? = a.tmps[t]? := fun t ht => by
        rw [DY]
        cases hl : lk z t with
        | none => simp
        | some v => rw [(hpl t ht v hl).1]; rfl
      have hx : execOp (zA z a).eval o = execOp a.eval o := execOp_congr o hsel fun x hx => by
        cases x with
        | tmp t =>
          have := hsame t (List.mem_append_left _ (List.mem_filterMap.2 ⟨.tmp t, by simpa using hx, rfl⟩))
          simp only [Act.eval]
          rw [Array.getD_eq_getD_getElem?, this, ← Array.getD_eq_getD_getElem?]
        | const v => rfl
        | global g => rfl
        | func f => rfl
      unfold wpOp
      simp only [ho]
      cases hc : pu.contains i with
      | true =>
        obtain ⟨hg, ⟨d, hd⟩, huq⟩ := hp.plain i o ho hc
        obtain ⟨v, hv, hpx⟩ := hz.val i o d hc ho hd
        have hw : Region.wanted o (yielded ops a.tmps) = true := by unfold Region.wanted; rw [hg]
        rw [if_pos hw]
        have hst : St w h0 [] := by
          obtain ⟨s', h', ms', g1, g2, g3, g4⟩ := H
          exact ⟨fun g o e => g2.st.imm g o (g3 g o e), fun m hm => by simp at hm, fun m hm => by simp at hm, List.Pairwise.nil⟩
        refine .inl (OpRes.wp (Φ := fun v' w' => v' = v ∧ Ext w w') ?_ ?_)
        · unfold OpRes
          rw [← hx]
          refine Pi (ops := ops) hsel (fun t ht u hu => ?_) hpx hst
          rw [B9] at hu
          cases hl : lk z t with
          | some v' => rw [hl] at hu; cases hu; rw [hsame t ht]; exact (hpl t ht _ hl).1
          | none =>
            rw [hl] at hu
            rw [hsame t ht, S.old t fun j hj => ?_]
            · exact ha0.slots t u hu
            · rcases hp.look i o t j ho ht hj with ⟨h1, _⟩ | ⟨_, h2⟩
              · obtain ⟨oj, hoj⟩ : ∃ oj, ops[j]? = some oj := ⟨ops[j]'(CJ hj), by simp [CJ hj]⟩
                have hdj : oj.dst = some t := by simpa [Bf, hoj] using hj
                obtain ⟨v', hv', _⟩ := hz.val j oj t h1 hoj hdj
                rw [hl] at hv'; cases hv'
              · rcases h2 with h2 | ⟨oj, hoj, hed⟩
                · rw [hc] at h2; cases h2
                · cases hlj : listed.getD j false with
                  | false => rfl
                  | true =>
                    obtain ⟨e, he, hbd, hon⟩ := Ed hed
                    have h4 := S.closed j oj hlj hoj e he hbd
                    rw [hon, Array.getD_eq_getD_getElem?, Be hun] at h4; cases h4
        · rintro v' w' ⟨rfl, hext⟩
          show wpAny e.P .any ops (Q0 Q) fuel (listed.setIfInBounds i true) (a.put o.dst v') w'
          rw [hd]
          refine ih fuel' _ _ w' ⟨?_, ?_, by simp [Act.put, S.size], S.closed.set hir⟩ (by simpa using hsz) (by omega) (by rw [H5 _ hc, HP hv]; exact H.ext hext)
          · intro j hj hlj d' v' hd' hv' hlt
            by_cases hji : j = i
            · subst hji; rw [hdi, hd] at hd'; cases hd'; rw [hv] at hv'; cases hv'
              simp only [Act.put]
              have : d < a.tmps.size := by simpa [Act.put] using hlt
              simp [this]
            · rw [hset] at hlj; simp only [hji, if_false] at hlj
              have hne : d ≠ d' := fun e' => huq j hji d hd (by rw [hd', e'])
              simp only [Act.put, Array.getElem?_setIfInBounds_ne hne]
              exact S.pure j hj hlj d' v' hd' hv' (by simpa [Act.put] using hlt)
          · intro t ht
            have hne : d ≠ t := fun e' => by
              have := ht i (by rw [hdi, hd, e'])
              rw [hset] at this; simp at this
            simp only [Act.put, Array.getElem?_setIfInBounds_ne hne]
            exact S.old t fun j hj => by
              have := ht j hj
              rw [hset] at this
              by_cases hji : j = i
              · simp [hji] at this
              · simpa [hji] using this
      | false =>
        have hdz : ∀ t, o.dst = some t → lk z t = none := fun t ht => by
          cases hl : lk z t with
          | none => rfl
          | some v =>
            obtain ⟨_, j, hj, hd⟩ := hz.only t v hl
            have hji : j ≠ i := fun e' => by rw [e', hc] at hj; cases hj
            obtain ⟨oj, hoj⟩ : ∃ oj, ops[j]? = some oj := ⟨ops[j]'(CJ hd), by simp [CJ hd]⟩
            obtain ⟨_, _, huq⟩ := hp.plain j oj hoj hj
            exact absurd (by rw [hdi, ht]) (huq i (Ne.symm hji) t (by simpa [Bf, hoj] using hd))
        have hir' : i ∈ Region.ready .any ops (un pu listed) := mem_ready.2 ⟨by rw [Gn _ _ _ _ (by omega), hun, hc]; rfl, o, ho, fun e he hbd => by
          have h1 := hb i o ho e he hbd
          rw [Gn _ _ _ _ (by omega), hall e he hbd]; rfl⟩
        obtain ⟨s', h', ms', g1, g2, g3, g4⟩ := H
        cases fuel' with
        | zero => rw [g4.1] at hir'; cases hir'
        | succ fuel' =>
          obtain ⟨o', ho', HW⟩ := g4.2 i hir'
          rw [ho] at ho'
          cases ho'
          have H' := HW (zA z a) w g1 g2
          unfold wpList at H'
          rw [← P0] at H'
          have hwant : Region.wanted o (yielded ops (zA z a).tmps) = Region.wanted o (yielded ops a.tmps) := by
            unfold Region.wanted
            cases hg : o.guard with
            | none => rfl
            | some p =>
              obtain ⟨j, b⟩ := p
              have : yielded ops (zA z a).tmps j = yielded ops a.tmps j := by
                unfold yielded
                cases hd : (ops[j]?).bind (·.dst) with
                | none => rfl
                | some t =>
                  have ht : t ∈ o.looksAt ops := by
                    unfold Oper.looksAt
                    refine List.mem_append_right _ ?_
                    simp only [hg]
                    rw [hd]; simp
                  simp [hd, hsame t ht]
              simp only [this]
          rw [hwant] at H'
          have hnext : ∀ b w v, b.tmps = (a.put o.dst v).tmps → QB e ops Q h0 fuel' (un pu (listed.setIfInBounds i true)) .normal (zA z b) w → wpAny e.P .any ops (Q0 Q) fuel (listed.setIfInBounds i true) b w := fun b w v hbt hh => by
            have hbget : ∀ t, o.dst ≠ some t → b.tmps[t]? = a.tmps[t]? := fun t ht => by
              rw [hbt]
              cases hd : o.dst with
              | none => rfl
              | some d =>
                have : d ≠ t := fun e' => ht (by rw [hd, e'])
                simp only [Act.put, Array.getElem?_setIfInBounds_ne this]
            have hbs : b.tmps.size = a.tmps.size := by rw [hbt]; cases o.dst <;> simp [Act.put]
            refine ih fuel' _ b w ⟨?_, ?_, by rw [hbs, S.size], S.closed.set hir⟩ (by simpa using hsz) (by omega) hh.2
            · intro j hj hlj d' v' hd' hv' hlt
              have hji : j ≠ i := fun e' => by rw [e', hc] at hj; cases hj
              rw [hset] at hlj; simp only [hji, if_false] at hlj
              have hne : o.dst ≠ some d' := fun e' => by rw [hdz d' e'] at hv'; cases hv'
              rw [hbget d' hne]
              exact S.pure j hj hlj d' v' hd' hv' (by rw [← hbs]; exact hlt)
            · intro t ht
              rw [hbget t (fun e' => by
                have := ht i (by rw [hdi, e'])
                rw [hset] at this; simp at this)]
              exact S.old t fun j hj => by
                have := ht j hj
                rw [hset] at this
                by_cases hji : j = i
                · simp [hji] at this
                · simpa [hji] using this
          split
          · rename_i hw
            rw [if_pos hw] at H'
            rcases H' with H' | ⟨_, H'⟩
            · exact .inl (Oper.wp_sim' (fun x a w h => h.1) KB hx hdz hnext H')
            · exact absurd H' KB
          · rename_i hw
            rw [if_neg hw] at H'
            exact hnext _ _ undef rfl (by rw [E2 hdz]; exact H')
def CD (P : Program) (l : List Oper) (n : Nat) (s : Ay) (h0 : Hp) (K : Ay → Prop) : List Nat → Ay → Prop
  | [], z => K z
  | i :: r, z => ∃ o d v, l[i]? = some o ∧ o.dst = some d ∧ d < n ∧ lk (z ++ s) d = none ∧ OX P o (z ++ s) h0 [] v ∧ CD P l n s h0 K r ((d, v) :: z)
theorem OX.mono_s {P : Program} {s : Ay} {h : Hp} {ms : List Hp} {d : Nat} {u : Value} (k : OX P o s h ms v) (hd : lk s d = none) : OX P o ((d, u) :: s) h ms v := fun ρ w hρ hw =>
  k ρ w (fun x u' hx => hρ x u' (by
    cases x with
    | tmp t =>
      have : d ≠ t := fun e => by subst e; simp only [ev] at hx; rw [hd] at hx; cases hx
      simp only [ev] at hx ⊢; rw [Bq _ _ this]; exact hx
    | const v => exact hx
    | global g => exact hx
    | func f => exact hx)) hw
theorem Lz {P : Program} {s : Ay} {h0 : Hp} {K : Ay → Prop} : ∀ (r done : List Nat) (z : Ay),
    (∀ i ∈ done, ∀ o d, l[i]? = some o → o.dst = some d → ∃ v, lk z d = some v ∧ OX P o (z ++ s) h0 [] v) → (∀ t v, lk z t = some v → t < n ∧ ∃ i ∈ done, Bf l.toArray i = some t) → CD P l n s h0 K r z →
    ∃ zf, K zf ∧ (∀ i, i ∈ done ∨ i ∈ r → ∀ o d, l[i]? = some o → o.dst = some d → ∃ v, lk zf d = some v ∧ OX P o (zf ++ s) h0 [] v) ∧ (∀ t v, lk zf t = some v → t < n ∧ ∃ i, (i ∈ done ∨ i ∈ r) ∧ Bf l.toArray i = some t)
  | [], done, z, h1, h2, h3 => ⟨z, h3, fun i hi => h1 i (hi.resolve_right (by simp)), fun t v hv => by
      obtain ⟨g1, i, g2, g3⟩ := h2 t v hv
      exact ⟨g1, i, .inl g2, g3⟩⟩
  | j :: r, done, z, h1, h2, ⟨o, d, v, e1, e2, e3, e4, e5, e6⟩ => by
    have hzd : lk z d = none := by
      rw [B9] at e4
      cases hl : lk z d with
      | none => rfl
      | some u => rw [hl] at e4; cases e4
    obtain ⟨zf, g1, g2, g3⟩ := Lz r (j :: done) ((d, v) :: z) (fun i hi o' d' ho' hd' => by
      rcases List.mem_cons.1 hi with rfl | hi
      · rw [e1] at ho'; cases ho'; rw [e2] at hd'; cases hd'
        exact ⟨v, Bt _ _ _, e5.mono_s e4⟩
      · obtain ⟨v', f1, f2⟩ := h1 i hi o' d' ho' hd'
        refine ⟨v', ?_, f2.mono_s e4⟩
        have : d ≠ d' := fun e => by subst e; rw [hzd] at f1; cases f1
        rw [Bq _ _ this]; exact f1) (fun t u hu => by
      by_cases hdt : d = t
      · subst hdt; exact ⟨e3, j, by simp, by simp [Bf, e1, e2]⟩
      · rw [Bq _ _ hdt] at hu
        obtain ⟨f1, i, f2, f3⟩ := h2 t u hu
        exact ⟨f1, i, List.mem_cons_of_mem _ f2, f3⟩) e6
    refine ⟨zf, g1, fun i hi => g2 i ?_, fun t u hu => ?_⟩
    · rcases hi with hi | hi
      · exact .inl (List.mem_cons_of_mem _ hi)
      · rcases List.mem_cons.1 hi with rfl | hi
        · exact .inl List.mem_cons_self
        · exact .inr hi
    · obtain ⟨f1, i, f2, f3⟩ := g3 t u hu
      refine ⟨f1, i, ?_, f3⟩
      rcases f2 with f2 | f2
      · rcases List.mem_cons.1 f2 with rfl | f2
        · exact .inr List.mem_cons_self
        · exact .inl f2
      · exact .inr (List.mem_cons_of_mem _ f2)
theorem Wa {P : Program} {s : Ay} {h0 : Hp} {K : Ay → Prop} {r : List Nat} {i d : Nat} (ho : l[i]? = some o) (hd : o.dst = some d) (hn : Nat.blt d n = true) (hf : lk (z ++ s) d = none) (hx : OX P o (z ++ s) h0 [] v) (k : CD P l n s h0 K r ((d, v) :: z)) : CD P l n s h0 K (i :: r) z :=
  ⟨o, d, v, ho, hd, Nat.le_of_ble_eq_true hn, hf, hx, k⟩
section
variable {e : Entry} {ops : Array Oper} {Q : Exit → Act → World → Prop} {h0 : Hp} {fuel : Nat} {listed : Array Bool} {s : Ay} {h : Hp} {ms : List Hp}
theorem Uh (hl : h0.le h) (k : WB e ops Q h0 fuel listed s h ms) : NX e (QB e ops Q h0 fuel listed) .normal s h ms := fun a w ha hw => ⟨rfl, s, h, ms, ha, hw, hl, k⟩
theorem Vm (hr : Region.ready .any ops listed = []) (k : NX e Q .normal s h ms) : WB e ops Q h0 fuel listed s h ms := by
  cases fuel with
  | zero => exact ⟨hr, k⟩
  | succ n => exact ⟨fun _ => k, fun i hi => by rw [hr] at hi; cases hi⟩
def WBl (e : Entry) (ops : Array Oper) (Q : Exit → Act → World → Prop) (h0 : Hp) (fuel : Nat) (listed : Array Bool) (s : Ay) (h : Hp) (ms : List Hp) : List Nat → Prop
  | [] => True
  | i :: l => (∃ o, ops[i]? = some o ∧ WL e ops (QB e ops Q h0 fuel (listed.setIfInBounds i true)) [o] s h ms) ∧ WBl e ops Q h0 fuel listed s h ms l
theorem WBl.get : ∀ (l : List Nat), WBl e ops Q h0 fuel listed s h ms l → ∀ i ∈ l, ∃ o, ops[i]? = some o ∧ WL e ops (QB e ops Q h0 fuel (listed.setIfInBounds i true)) [o] s h ms
  | [], _, i, hi => by cases hi
  | j :: l, H, i, hi => by
    rcases List.mem_cons.1 hi with rfl | hi
    · exact H.1
    · exact WBl.get l H.2 i hi
theorem A3 : WBl e ops Q h0 fuel listed s h ms [] := trivial
theorem Az {i : Nat} {l : List Nat} (ho : ops[i]? = some o) (k : WL e ops (QB e ops Q h0 fuel (listed.setIfInBounds i true)) [o] s h ms) (k' : WBl e ops Q h0 fuel listed s h ms l) : WBl e ops Q h0 fuel listed s h ms (i :: l) := ⟨⟨o, ho, k⟩, k'⟩
theorem A2 (l : List Nat) (hr : Region.ready .any ops listed = l) (hne : l.isEmpty = false) (k : WBl e ops Q h0 fuel listed s h ms l) : WB e ops Q h0 (fuel + 1) listed s h ms :=
  ⟨fun h0 => (by rw [hr] at h0; subst h0; cases hne), fun i hi => k.get l i (by rw [hr] at hi; exact hi)⟩
end
theorem Lf {e : Entry} {Q : Exit → Act → World → Prop} {s : Ay} {h : Hp} {ms : List Hp} {bs : List Bool} (m : List Bool) (hpu : HG (Gy m 0) l.toArray = true) (hbk : FZ l.toArray = true) (hn : l.length = n)
    (hbs : (List.range n).map (fun i => (Gy m 0).contains i) = bs) (k : CD e.P l e.n s h (fun z => WB e l.toArray Q h n bs.toArray (z ++ s) h ms) (Gy m 0) []) : ∀ a w, Has e.n e.ds a s → e.Ends w h ms → wpAny e.P .any l.toArray Q l.toArray.size (Array.replicate l.toArray.size false) a { w with drawn := w.drawn + 1 } := by
  intro a w ha hw
  obtain ⟨z, kw, hz1, hz2⟩ := Lz _ [] [] (by simp) (fun t v hv => by cases hv) k
  have PO := H3 hpu
  have HBk := G4 hbk
  have hmem : ∀ i, (Gy m 0).contains i = true ↔ i ∈ Gy m 0 := fun i => List.contains_iff_mem
  have hZ : VR e.P (Gy m 0) l.toArray s z e.n h := ⟨fun i o d hi ho hd => hz1 i (.inr ((hmem i).1 hi)) o d (by simpa using ho) hd, fun t v hv => by
    obtain ⟨g1, i, g2, g3⟩ := hz2 t v hv
    exact ⟨g1, i, (hmem i).2 (g2.resolve_left (by simp)), g3⟩⟩
  have hsz : l.toArray.size = n := by simpa using hn
  refine UH _ _ _ _ ?_
  refine Vn (h0 := h) ha PO HBk hZ _ n _ a _ ⟨fun i _ hi => (by rw [BM] at hi; cases hi), fun _ _ => rfl, rfl, fun i o hi => (by rw [BM] at hi; cases hi)⟩ (by simp) (by
    unfold left; rw [Array.toList_replicate]; exact Nat.le_trans (List.countP_le_length) (by simp)) ?_
  have e1 : un (Gy m 0) (Array.replicate l.toArray.size false) = bs.toArray := by
    apply Array.ext_getElem?
    intro i
    rw [← hbs]
    rcases Nat.lt_or_ge i n with hi | hi
    · simp [un, hsz, hi]
    · simp [un]; simp at hsz; rw [List.getElem?_eq_none (by simpa using hi), Array.getElem?_eq_none (by simp; omega)]; rfl
  rw [e1]
  refine ⟨z ++ s, h, ms, ⟨ha.defers, by simp [zA, ha.size], fun t u hu => ?_⟩, Ends.drew hw, Hp.le_refl _, kw⟩
  rw [DY]
  rw [B9] at hu
  cases hl : lk z t with
  | some v =>
    rw [hl] at hu; cases hu
    have hlt : t < a.tmps.size := by rw [ha.size]; exact (hz2 t _ hl).1
    simp [hlt]
  | none => rw [hl] at hu; rw [ha.slots t u hu]; rfl
theorem AW {e : Entry} {id : Nat} {Q : Exit → Act → World → Prop} {s : Ay} {h : Hp} {ms : List Hp} {bs : List Bool} (m : List Bool) (hm : e.P.follows .mixedOrders = true) (hpu : HG (Gy m 0) l.toArray = true) (hbk : FZ l.toArray = true) (hn : l.length = n)
    (hbs : (List.range n).map (fun i => (Gy m 0).contains i) = bs) (k : CD e.P l e.n s h (fun z => WB e l.toArray Q h n bs.toArray (z ++ s) h ms) (Gy m 0) []) : WS e (.region id l.toArray true) Q s h ms :=
  fun a w ha hw => wp_region_any hm (Lf m hpu hbk hn hbs k a w ha hw)
theorem Seg.all {h : Hp} {p : Addr} {cs : List Value} (S : Seg h [] p cs) : ∀ i v, cs[i]? = some v → ∀ ms, Cell h ms (p.add i) v := fun i v hv ms => (S i v hv).any
end Go.Eng
namespace Go.Eng
open Go.RowKit
def TD (w : World) : Hp := fun g => w.heap[g]?
theorem Ue (w : World) : (TD w).inW w := fun _ _ e => e
theorem Ob {h : Hp} {w : World} (H : h.inW w) : h.le (TD w) := fun g o e => H g o e
theorem T4 (w : World) : St w (TD w) [] := ⟨Ue w, fun m hm => by simp at hm, fun m hm => by simp at hm, List.Pairwise.nil⟩
theorem CN {P : Program} {f : FuncId} {args : Array Value} {h : Hp} {ms : List Hp} {v : Value} (k : ∀ h', h.le h' → (∀ m ∈ ms, m.le h') → Dq P f args h' [] v) : Dq P f args h ms v := fun w hw =>
  k (TD w) (Ob hw.imm) (fun m hm => Ob (hw.own m hm)) w (T4 w)
theorem fnt_whole {P : Program} {f : FuncId} {args : Array Value} {h : Hp} {ms : List Hp} {post : Value → List Hp → Prop} (k : ∀ h', h.le h' → (∀ m ∈ ms, m.le h') → FnT P f args h' [] (fun r _ ms' => post r ms')) : FnT P f args h ms (fun r h2 ms2 => h = h2 ∧ ∃ ms', ms2 = ms' ++ ms ∧ post r ms') := fun w hw => by
  refine Calls.mono (k (TD w) (Ob hw.imm) (fun m hm => Ob (hw.own m hm)) w (T4 w)) fun e w' he => ?_
  obtain ⟨v, h', ms', e1, H, hp⟩ := he
  have hx : Ext w w' := H.toExt
  have hnew : ∀ m ∈ ms', ∀ k, m k ≠ none → w.heap.size ≤ k := fun m hm k hk => Nat.le_of_not_lt fun hlt => by
    obtain ⟨m0, hm0, _⟩ := H.mnew m hm k hlt hk
    simp at hm0
  refine ⟨v, h, ms' ++ ms, e1, ⟨⟨Hp.inW_ext hw.imm hx, ?_, ?_, ?_⟩, H.os, H.tape, H.output, H.size, ?_, Hp.le_refl _, fun _ _ _ => rfl, ?_⟩, rfl, ms', rfl, hp⟩
  · intro m hm
    rcases List.mem_append.1 hm with hm | hm
    · exact H.st.own m hm
    · exact Hp.inW_ext (hw.own m hm) hx
  · intro m hm
    rcases List.mem_append.1 hm with hm | hm
    · intro k
      by_cases hk : m k = none
      · exact .inl hk
      · exact .inr (Hp.inW_none hw.imm (hnew m hm k hk))
    · exact hw.off m hm
  · refine List.pairwise_append.2 ⟨H.st.apart, hw.apart, fun m hm m' hm' k => ?_⟩
    by_cases hk : m k = none
    · exact .inl hk
    · exact .inr (Hp.inW_none (hw.own m' hm') (hnew m hm k hk))
  · intro k hk hm
    exact H.block k hk (fun m hm => by simp at hm)
  · intro m hm k hk hne
    rcases List.mem_append.1 hm with hm | hm
    · have := hnew m hm k hne; omega
    · exact ⟨m, hm, hne⟩
section
variable {P : Program} {o : Oper} {s : Ay} {h : Hp} {ms : List Hp} {t u : TypeId} {x y : Operand} {a n : Nat}
theorem Nd (ho : o.op = .binOp .shr t x y u) {k : IntKind} (hx : ev s x = some (.int .i64 a)) (hy : ev s y = some (.int k n)) (hn : n ≤ 64) : OX P o s h ms (.int .i64 ((a / 2 ^ n : Nat) : Int)) :=
  BI fun ρ w hρ _ => by
    have h1 : ¬ ((n : Int) < 0) := by omega
    have h2 : min n 64 = n := Nat.min_eq_left hn
    have h3 : (a : Int).fdiv (2 ^ n) = ((a / 2 ^ n : Nat) : Int) := by
      rw [Int.fdiv_eq_ediv_of_nonneg _ (Int.le_of_lt (Int.pow_pos (by decide)))]; simp
    simp [execOp, ho, hρ _ _ hx, hρ _ _ hy, Op.shift, h1, IntKind.bits, h2, h3, go_sem]
theorem Vk (ho : o.op = .binOp .and t x y u) (hx : ev s x = some (.int .i64 a)) (hy : ev s y = some (.int .i64 1)) (ha : a < 9223372036854775808) : OX P o s h ms (.int .i64 ((a % 2 : Nat) : Int)) :=
  BI fun ρ w hρ _ => by
    have h3 : IntKind.i64.wrap (((BitVec.ofNat 64 a) &&& (BitVec.ofNat 64 1)).toNat : Int) = ((a % 2 : Nat) : Int) := by
      rw [BitVec.toNat_and, BitVec.toNat_ofNat, BitVec.toNat_ofNat, Nat.mod_eq_of_lt (by omega), Nat.mod_eq_of_lt (by omega), Nat.and_one_is_mod]
      exact C0 (by omega)
    simp [execOp, ho, hρ _ _ hx, hρ _ _ hy, Op.intBits, IntKind.bits, go_sem]
    exact h3
end
theorem Seg.ofLe {h : Hp} {g : Nat} {el : TypeId} {cs : List Value} (hl : (AX g el cs).le h) : Seg h [] ⟨g, 0, none⟩ cs := fun j u hu => ⟨by unfold Addr.add; split <;> rfl, cs.toArray, el, (0, 0), .inl (by
    rw [C2]
    exact hl _ _ (Hp.one_self _ _)), by rw [Dw]; simpa using hu⟩
theorem OO {h : Hp} {ms : List Hp} {v : Value} {sz n : Nat} {cs : List Value} (R : Rd h ms v sz n cs) {i j : Nat} (hi : i < n) : Bl (Ch sz v i j) = (Bl v).add (i * sz) := by
  obtain ⟨a, c, rfl, h1, h2, h3, h4⟩ := R.ex
  obtain ⟨q, rfl, _⟩ := h4 (by omega)
  unfold Ch
  simp only
  rw [if_neg (by omega)]
  rfl
section
open Go.Lin
variable {e : Entry} {Q : Exit → Act → World → Prop} {ops : Array Oper} {rest : List Oper} {o : Oper} {s : Ay} {h : Hp} {ms : List Hp}
theorem EW {el : TypeId} {m : Hp} {v : Value} {r c : Nat} {f : Nat → Nat → Int} {t : TypeId} {x y : Operand} {z : Value} {bytes : Nat} {a : Int} (i p j : Nat) (O : OwnL cI 1 el m v (mat r c f)) (hp : p < r) (hj : j < c) (ho : o.op = .store t x y) (hs : Elem e.P t 1 z bytes) (hx : ev s x = some (.pointer (some ((Bl (Ch 1 v (p * c) ((p + 1) * c))).add (j * 1))))) (hy : ev s y = some (.int .i64 a))
    (hm : ms[i]? = some m) (hd : o.dst = none) (hg : o.guard = none)
    (K : ∀ m', OwnL cI 1 el m' v (mat r c (DB f p j a)) → WL e ops Q rest s h (ms.set i m')) : WL e ops Q (o :: rest) s h ms := by
  have hl : p * c + j < (mat r c f).length := by rw [AY]; exact Cp hp hj
  have hl2 : p * c < (mat r c f).length := by omega
  rw [OO (O.rd (h := h) (ms := [m]) (List.Mem.head _)).rd hl2, A6, ← Nat.add_mul] at hx
  exact Bu i (p * c + j) O ho hs hx hy hm hl hd hg fun m' O' => K m' (by rw [C4 _ hj] at O'; exact O')
end
section
variable {P : Program} {o : Oper} {s : Ay} {h : Hp} {ms : List Hp} {t el : TypeId} {x y lo hi : Operand} {v : Value} {sz n : Nat} {cs : List Value} {z : Value} {bytes : Nat} {k k' : IntKind} {h1' : Hp} {ms1' : List Hp}
theorem Bo {i : Int} (j : Nat) (R : Rd h1' ms1' v sz n cs) (ho : o.op = .indexAddr t x y) (ht : P.underlying t = some (.slice el)) (hs : Elem P el sz z bytes) (hx : ev s x = some v) (hy : ev s y = some (.int k i)) (hi : i = (j : Int)) (hlt : j < n) : OX P o s h ms (.pointer (some ((Bl v).add (j * sz)))) := by
  obtain ⟨c, e, _⟩ := R.val (by omega)
  rw [e] at hx
  exact Dz j ho ht hs hx hy hi hlt
theorem CH (R : Rd h1' ms1' v sz n cs) (ho : o.op = .call { callee := .builtin .len, args := #[x], argTypes := #[t] }) (ht : P.underlying t = some (.slice el)) (hx : ev s x = some v) : OX P o s h ms (.int .i64 n) := by
  obtain ⟨a, c, rfl, _⟩ := R.ex
  exact Ml (ty := t) ho ht hx
theorem J6 {l r : Int} (i j : Nat) (R : Rd h1' ms1' v sz n cs) (ho : o.op = .slice t x (some lo) (some hi) none) (ht : P.underlying t = some (.slice el)) (hs : Elem P el sz z bytes) (hx : ev s x = some v) (hlo : ev s lo = some (.int k l)) (hhi : ev s hi = some (.int k' r)) (el' : l = (i : Int)) (er : r = (j : Int)) (h1 : i ≤ j) (h2 : j ≤ n) :
    OX P o s h ms (Ch sz v i j) := by
  obtain ⟨a, c, rfl, e2, e3, e4, e5⟩ := R.ex
  exact BI fun ρ w hρ _ => by
    have g1 : (0 : Int) ≤ l ∧ l ≤ (j : Int) := by omega
    have g2 : (0 : Int) ≤ r ∧ r ≤ (c : Int) := by omega
    have g3 : l.toNat = i := by omega
    have g4 : r.toNat = j := by omega
    simp [execOp, ho, hρ _ _ hx, hρ _ _ hlo, hρ _ _ hhi, Instr.sliceAt, Instr.slice, run_underlying ht, Instr.sliceBounds, Instr.sliceBound, asIntOf, g1, g2, g3, g4, hs.sizeOf, Ch]
theorem Lo {l : Int} (i : Nat) (R : Rd h1' ms1' v sz n cs) (ho : o.op = .slice t x (some lo) none none) (ht : P.underlying t = some (.slice el)) (hs : Elem P el sz z bytes) (hx : ev s x = some v) (hlo : ev s lo = some (.int k l)) (el' : l = (i : Int)) (h1 : i ≤ n) :
    OX P o s h ms (Ch sz v i n) := by
  obtain ⟨a, c, rfl, e2, e3, e4, e5⟩ := R.ex
  exact BI fun ρ w hρ _ => by
    have g1 : (0 : Int) ≤ l ∧ l ≤ (n : Int) := by omega
    have g3 : l.toNat = i := by omega
    simp [execOp, ho, hρ _ _ hx, hρ _ _ hlo, Instr.sliceAt, Instr.slice, run_underlying ht, Instr.sliceBounds, Instr.sliceBound, asIntOf, g1, g3, hs.sizeOf, Ch]
end
section
variable {e : Entry} {Q : Exit → Act → World → Prop} {ops : Array Oper} {rest : List Oper} {s : Ay} {h : Hp} {ms : List Hp} {c : Code} {a b : Hp}
theorem Fe (k : WL e ops Q rest s h (b :: a :: ms)) : WL e ops Q rest s h (a :: b :: ms) := TW (List.Perm.swap _ _ _) k
theorem Di (k : WS e c Q s h (b :: a :: ms)) : WS e c Q s h (a :: b :: ms) := Ea (List.Perm.swap _ _ _) k
theorem A9 {x : Exit} (k : NX e Q x s h (b :: a :: ms)) : NX e Q x s h (a :: b :: ms) := CF (List.Perm.swap _ _ _) k
theorem By {g : Nat} {el : TypeId} {cs : List Value} (i : Nat) (hm : ms[i]? = some (AX g el cs)) (k : ∀ h', h.le h' → Seg h' [] ⟨g, 0, none⟩ cs → WS e c Q s h' (ms.eraseIdx i)) : WS e c Q s h ms :=
  Ea (Cw hm) (AL k)
end
section
variable {e : Entry} {Q : Exit → Act → World → Prop} {s : Ay} {h : Hp} {ms : List Hp} {c : Code}
theorem Re (k : WS e c (Exit.noGoto Q) s h ms) : WS e (.scope c) Q s h ms := fun a w ha hw => wp_scope_straight (k a w ha hw)
theorem Kx (k : NX e Q .ret s h ms) : NX e (Exit.noGoto Q) .ret s h ms := fun a w ha hw => k a w ha hw
end
end Go.Eng
namespace Go.Eng
open Go.RowKit Go.Lin
variable {r c : Nat} {f : Nat → Nat → Int}
theorem Fh (l : List Int) : l.flatMap cI = l.map fun x => Value.int .i64 x := by
  induction l with
  | nil => rfl
  | cons a l ih => rw [List.flatMap_cons, ih]; rfl
theorem mat_at? {k : Nat} (hk : k < r * c) : (mat r c f)[k]? = some (f (k / c) (k % c)) := by
  unfold mat
  rw [List.getElem?_map, List.getElem?_range hk]
  rfl
theorem SH {p : Nat} {l : List Int} (hp : p < r) (hl : c ≤ l.length) : (mat r c f).take (p * c) ++ l.take c ++ (mat r c f).drop (p * c + c) = mat r c fun a b => if a = p then l.getD b 0 else f a b := by
  have h1 : (p + 1) * c ≤ r * c := Nat.mul_le_mul_right c hp
  rw [Nat.add_mul, Nat.one_mul] at h1
  have lA : ((mat r c f).take (p * c)).length = p * c := by rw [List.length_take, AY, Nat.min_eq_left (by omega)]
  have lB : (l.take c).length = c := by rw [List.length_take, Nat.min_eq_left hl]
  refine List.ext_getElem? fun k => ?_
  rw [List.append_assoc]
  by_cases hk : k < r * c
  · have hd : k / c * c + k % c = k := by rw [Nat.mul_comm]; exact Nat.div_add_mod k c
    have hm := (M9 hk).2
    rw [mat_at? hk]
    by_cases e1 : k < p * c
    · have : k / c ≠ p := fun e => by rw [e] at hd; omega
      rw [List.getElem?_append_left (by rw [lA]; exact e1), List.getElem?_take_of_lt e1, mat_at? hk, if_neg this]
    · rw [List.getElem?_append_right (by rw [lA]; omega), lA]
      by_cases e2 : k < p * c + c
      · have e3 : k / c = p := by
          rcases Nat.lt_trichotomy (k / c) p with h | h | h
          · have : (k / c + 1) * c ≤ p * c := Nat.mul_le_mul_right c h
            rw [Nat.add_mul, Nat.one_mul] at this; omega
          · exact h
          · have : (p + 1) * c ≤ k / c * c := Nat.mul_le_mul_right c h
            rw [Nat.add_mul, Nat.one_mul] at this; omega
        have e4 : k % c = k - p * c := by rw [e3] at hd; omega
        rw [List.getElem?_append_left (by rw [lB]; omega), List.getElem?_take_of_lt (by omega), if_pos e3, e4, List.getD_eq_getElem?_getD, List.getElem?_eq_getElem (by omega)]
        rfl
      · have : k / c ≠ p := fun e => by rw [e] at hd; omega
        rw [List.getElem?_append_right (by rw [lB]; omega), lB, List.getElem?_drop, show p * c + c + (k - p * c - c) = k by omega, mat_at? hk, if_neg this]
  · rw [List.getElem?_eq_none (by simp only [List.length_append, lA, lB, List.length_drop, AY]; omega), List.getElem?_eq_none (by rw [AY]; omega)]
section
variable {e : Entry} {Q : Exit → Act → World → Prop} {ops : Array Oper} {rest : List Oper} {o : Oper} {s : Ay} {h : Hp} {ms : List Hp}
theorem QO {t t2 el : TypeId} {m : Hp} {v u : Value} {d : Nat} {l : List Int} {x y : Operand} {z : Value} {bytes : Nat} (i p : Nat) (O : OwnL cI 1 el m v (mat r c f)) (hp : p < r) (hc : 0 < c) (R : RdL cI 1 h ms u l) (hl : c ≤ l.length) (ho : o.op = .call { callee := .builtin .copy, args := #[x, y], argTypes := #[t, t2] }) (ht : e.P.underlying t = some (.slice el)) (hs : Elem e.P el 1 z bytes)
    (hx : ev s x = some (Ch 1 v (p * c) ((p + 1) * c))) (hy : ev s y = some u) (hm : ms[i]? = some m) (hd : o.dst = some d) (hnd : Nat.blt d e.n = true) (hg : o.guard = none)
    (K : ∀ m', OwnL cI 1 el m' v (mat r c fun a b => if a = p then l.getD b 0 else f a b) → WL e ops Q rest ((d, .int .i64 c) :: s) h (ms.set i m')) : WL e ops Q (o :: rest) s h ms := by
  obtain ⟨⟨h1, h2⟩, hF⟩ := O
  have h3 : (p + 1) * c ≤ r * c := Nat.mul_le_mul_right c hp
  have h4 : (p + 1) * c = p * c + c := by rw [Nat.add_mul, Nat.one_mul]
  have hml : (mat r c f).length = r * c := AY _ _ _
  rcases h2 with ⟨rfl, h5, rfl⟩ | ⟨g, cap, spare, hv, hmm, h6, h7, h8⟩
  · rw [hml] at h5; omega
  · rw [hml] at h7 hv h1
    have hcap : ¬ cap = p * c := by omega
    subst hmm
    have hvs : Ch 1 v (p * c) ((p + 1) * c) = .slice (some ⟨g, p * c, none⟩) c (cap - p * c) := by
      rw [hv]
      unfold Ch
      simp only
      rw [if_neg hcap, show (p + 1) * c - p * c = c by omega]
      have : (⟨g, 0, none⟩ : Addr).add (p * c * 1) = ⟨g, p * c, none⟩ := by unfold Addr.add; split <;> simp_all
      simp only [Option.map_some, this]
    rw [hvs] at hx
    have hcs : ((mat r c f).flatMap cI).length = r * c := by rw [h1]; omega
    refine Q6 (n := c) i ho ht hs hx hy rfl R.rd (by omega) (by omega) hm (by rw [List.length_append]; omega) (fun a ha => by
      obtain ⟨b, _, hb⟩ := List.mem_flatMap.1 ha
      exact Cv b a hb) hd hnd hg (K _ ⟨⟨by rw [BL Br], .inr ⟨g, cap, spare, by rw [AY]; exact hv, ?_, ?_, by rw [AY]; exact h7, h8⟩⟩, hF⟩)
    · congr 1
      rw [← SH hp hl, Fh, Fh, Fh, List.map_append, List.map_append, List.map_take, List.map_take, List.map_drop]
      have hq : ((mat r c f).map fun x => Value.int .i64 x).length = r * c := by simp [AY]
      rw [List.take_append_of_le_length (by omega), List.drop_append_of_le_length (by omega), List.append_assoc, List.append_assoc, List.append_assoc]
    · rw [Fh, List.length_append, List.length_map, AY]
      rw [List.length_append, hcs] at h6
      exact h6
end
end Go.Eng
namespace Go.Eng
open Go.RowKit
variable {n l id t : Nat} {P : Program} {w : World} {a : Act} {next : Act → World → Prop} {y c x : Code} {args : Array Value} {post : Value → Hp → List Hp → Prop}
abbrev FR (l : Nat) : Fence := Fence.wide.inRound l
theorem R7 {f : FuncId} {R : Ending → World → Prop} (h : Calls P f args w R) : CallsIn (FR l) n P f args w R := by
  have := (callsIn_wide (n := n)).2 h
  exact this
theorem JE {row : String} {R : Value → World → Prop} (h : Rows P row args w R) : RowsIn Fence.wide n P row args w R :=
  fun c cs _ => let ⟨v, w', r, s⟩ := h c cs; ⟨v, w', r, stepsIn_wide.2 s⟩
theorem Tx {row : String} {R : Value → World → Prop} (h : Rows P row args w R) : RowsIn (FR l) n P row args w R := JE (n := n) h
theorem TK {o : Oper} {Q : Exit → Act → World → Prop} {r : Result Next} (h : o.upon P a next Q r) : o.uponIn (FR l) n P a next Q r := by
  have nod : (FR l).depth.isSome = true → 1 ≤ n := fun h => by cases h
  cases r with
  | ok x w' =>
    cases x <;> simp only [Oper.upon] at h <;> simp only [Oper.uponIn] <;>
      first
        | exact h
        | exact ⟨nod, (R7 h).mono fun e w he => by cases e <;> exact he⟩
        | exact ⟨nod, Tx h⟩
        | exact h.elim
  | halt x w' => cases x <;> simp only [Oper.upon] at h <;> simp only [Oper.uponIn] <;> first | exact h | exact h.elim
theorem Pw {o : Oper} {Q : Exit → Act → World → Prop} {r : Result Next} (h : o.upon P a next Q r) : o.uponIn Fence.wide n P a next Q r := by
  have nod : Fence.wide.depth.isSome = true → 1 ≤ n := fun h => by cases h
  cases r with
  | ok x w' =>
    cases x <;> simp only [Oper.upon] at h <;> simp only [Oper.uponIn] <;>
      first
        | exact h
        | exact ⟨nod, (callsIn_wide.2 h).mono fun e w he => by cases e <;> exact he⟩
        | exact ⟨nod, JE h⟩
        | exact h.elim
  | halt x w' => cases x <;> simp only [Oper.upon] at h <;> simp only [Oper.uponIn] <;> first | exact h | exact h.elim
theorem NM {o : Oper} {Q : Exit → Act → World → Prop} (hd : ∀ c, o.op ≠ .defer c) (h : o.wp P a w next Q) : o.wpIn (FR l) n P a w next Q :=
  ⟨fun _ _ => trivial, by rw [Oper.semAt_eq _ _ _ hd]; exact TK h⟩
theorem Pe {o : Oper} {Q : Exit → Act → World → Prop} (h : o.wp P a w next Q) : o.wpIn Fence.wide n P a w next Q :=
  ⟨fun _ _ => trivial, Pw h⟩
def SD (o : Op) : Bool := match o with
  | .defer _ => true
  | _ => false
theorem Qh {o : Op} (h : SD o = false) (c : Call) : o ≠ .defer c := fun e => by
  have h2 : SD (.defer c) = true := rfl
  rw [e, h2] at h
  cases h
def GP : List Oper → Bool
  | [] => true
  | o :: l => !SD o.op && GP l
theorem Gx : ∀ {l : List Oper}, GP l = true → ∀ o ∈ l, ∀ c, o.op ≠ .defer c
  | [], _, o, ho, c => by cases ho
  | o' :: l, h, o, ho, c => by
    simp only [GP, Bool.and_eq_true, Bool.not_eq_true'] at h
    rcases List.mem_cons.1 ho with rfl | ho
    · exact Qh h.1 c
    · exact Gx h.2 o ho c
theorem Kt {k : Nat} {ops : Array Oper} {Q : Exit → Act → World → Prop} (hq : ¬ LetsOut Q) : ∀ (l : List Oper), GP l = true → ∀ a w, wpList P ops Q l a w → wpListIn (FR k) n P ops Q l a w
  | [], _, a, w, h => h
  | o :: l, hn, a, w, h => by
    have hn2 : GP l = true := by simp only [GP, Bool.and_eq_true] at hn; exact hn.2
    have hd := Gx hn o (List.mem_cons_self)
    unfold wpList at h
    unfold wpListIn
    split at h
    · rename_i hw
      rw [if_pos hw]
      rcases h with h | h
      · exact Oper.wpIn_mono (fun a w => Kt hq l hn2 a w) (NM hd h)
      · exact absurd h.2 hq
    · rename_i hw
      rw [if_neg hw]
      exact ⟨fun _ _ => trivial, Kt hq l hn2 _ _ h⟩
theorem Vl {k : Nat} {l : List Oper} {Q : Exit → Act → World → Prop} (hq : ¬ LetsOut Q) (hn : GP l = true) : ∀ fuel listed a w, wpAny P .any l.toArray Q fuel listed a w → wpAnyIn (FR k) n P .any l.toArray Q fuel listed a w := by
  intro fuel
  induction fuel with
  | zero => intro listed a w h; exact h
  | succ fuel ih =>
    intro listed a w h
    refine ⟨h.1, fun i hi => ?_⟩
    have h2 := h.2 i hi
    unfold wpOp at h2
    unfold wpOpIn
    cases ho : l.toArray[i]? with
    | none => rw [ho] at h2; exact ih _ _ _ h2
    | some o =>
      rw [ho] at h2
      simp only at h2 ⊢
      split at h2
      · rename_i hw
        rw [if_pos hw]
        rcases h2 with h2 | h2
        · exact Oper.wpIn_mono (fun a w => ih _ a w) (NM (Gx hn o (List.mem_of_getElem? (by simpa using ho))) h2)
        · exact absurd h2.2 hq
      · rename_i hw
        rw [if_neg hw]
        exact ⟨fun _ _ => trivial, ih _ _ _ h2⟩
def RS (e : Entry) (c : Code) (Q : Exit → Act → World → Prop) (s : Ay) (h : Hp) (ms : List Hp) : Prop :=
  ∀ l a w, Has e.n e.ds a s → e.Ends w h ms → ¬ LetsOut Q → c.wpIn (FR l) 0 e.P Q a w
def cR (e : Entry) (y : Code) (Q : Exit → Act → World → Prop) (a : Act) (w : World) : Prop := ∀ l, ¬ LetsOut Q → y.wpIn (FR l) 0 e.P Q a w
section
variable {e : Entry} {Q : Exit → Act → World → Prop} {s s' : Ay} {h : Hp} {ms : List Hp} {ops : Array Oper}
theorem DW (k : RS e x (Exit.then (cR e y Q) Q) s h ms) : RS e (.seq x y) Q s h ms := fun l a w ha hw hq =>
  wpIn_seq (wpIn_mono (k l a w ha hw fun ⟨a, w, h⟩ => hq ⟨a, w, h⟩) fun x a w q => by
    cases x with
    | normal => exact q l hq
    | _ => exact q)
theorem CK (k : RS e y Q s h ms) : NX e (Exit.then (cR e y Q) Q) .normal s h ms := fun a w ha hw l hq => k l a w ha hw hq
theorem EV (k : RS e c (Exit.inBlock id Q) s h ms) : RS e (.block id c) Q s h ms :=
  fun l a w ha hw hq => wpIn_block (k l a w ha hw fun ⟨a, w, h⟩ => hq ⟨a, w, h⟩)
theorem N2 (k : NX e Q (.exit id) s h ms) : RS e (.exit id) Q s h ms := fun l a w ha hw _ => wpIn_exit (k a w ha hw)
theorem Ny (k : NX e Q .normal s h ms) : RS e .skip Q s h ms := fun l a w ha hw _ => wpIn_skip (k a w ha hw)
theorem TA {b : Bool} (hc : lk s t = some (.bool b)) (kt : b = true → RS e x Q s h ms) (kf : b = false → RS e y Q s h ms) : RS e (.cond (.tmp t) x y) Q s h ms :=
  fun l a w ha hw hq => wpIn_cond_split (ha.eval (.tmp t) _ hc) (fun hb => kt hb l a w ha hw hq) (fun hb => kf hb l a w ha hw hq)
theorem Uf {p : Prop} {_ : Decidable p} (hc : lk s t = some (.bool (decide p))) (kt : p → RS e x Q s h ms) (kf : ¬ p → RS e y Q s h ms) : RS e (.cond (.tmp t) x y) Q s h ms :=
  TA hc (fun hb => kt (of_decide_eq_true hb)) (fun hb => kf (of_decide_eq_false hb))
theorem BV {l : List Oper} (hn : GP l = true) (k : WL e l.toArray Q l s h ms) : RS e (.region id l.toArray false) Q s h ms :=
  fun _ a w ha hw hq => wpIn_region_lit (Kt hq l hn a w (k a w ha hw))
theorem KD {l : List Oper} {bs : List Bool} (m : List Bool) (hm : e.P.follows .mixedOrders = true) (hpu : HG (Gy m 0) l.toArray = true) (hbk : FZ l.toArray = true) (hn : l.length = n)
    (hbs : (List.range n).map (fun i => (Gy m 0).contains i) = bs) (hnd : GP l = true) (k : CD e.P l e.n s h (fun z => WB e l.toArray Q h n bs.toArray (z ++ s) h ms) (Gy m 0) []) : RS e (.region id l.toArray true) Q s h ms :=
  fun _ a w ha hw hq => wpIn_region_any hm (Vl hq hnd _ _ _ _ (Lf m hpu hbk hn hbs k a w ha hw))
theorem To {ms' : List Hp} (p : ms.Perm ms') (k : RS e c Q s h ms') : RS e c Q s h ms := fun l a w ha hw => k l a w ha (Ends.perm hw p)
theorem Uc (I : Nat → Ay → Hp → List Hp → Prop) (n : Nat) (s' : Ay) (hI : I n s' h ms) (hs : Sub s' s)
    (round : ∀ n s h ms, I n s h ms → RS e c (Exit.then (fun a w => ∃ n', n' < n ∧ Ui e (I n') a w) Q) s h ms) : RS e (.loop c) Q s h ms := by
  intro l a w ha hw hq b k cs hro hb hr
  have key : ∀ n a w, Ui e (I n) a w → ∃ x a' w', Q x a' w' ∧ ArrivesIn (Machine.fenced e.P (FR l)) e.P (lone (b.atR a (.code c :: .inLoop c :: k)) cs w) b k cs x a' w' := by
    intro n
    induction n using Nat.strongRecOn with
    | _ n ih =>
      intro a w ⟨s, h, ms, hI, ha, hw⟩
      obtain ⟨x, a₁, w₁, hq1, harr⟩ := round n s h ms hI l a w ha hw (fun ⟨a, w, h⟩ => hq ⟨a, w, h⟩) b (.inLoop c :: k) cs hro hb hr
      cases x with
      | normal =>
        obtain ⟨n', hlt, hinv⟩ := hq1
        obtain ⟨x₂, a₂, w₂, hq₂, harr₂⟩ := ih n' hlt a₁ w₁ hinv
        exact ⟨x₂, a₂, w₂, hq₂, .of_steps (StepsIn.trans harr (.one (fenced_calm hb hr rfl) stepR_inLoop)) harr₂⟩
      | exit id => exact ⟨_, a₁, w₁, hq1, .pass (x := .inLoop c) rfl (fun _ _ => .inl (by simp)) harr⟩
      | goto l => exact ⟨_, a₁, w₁, hq1, .pass (x := .inLoop c) rfl (fun _ _ => .inl (by simp)) harr⟩
      | ret => exact ⟨_, a₁, w₁, hq1, .pass (x := .inLoop c) rfl (fun _ _ => .inl (by simp)) harr⟩
      | panic ch => exact ⟨_, a₁, w₁, hq1, .pass (x := .inLoop c) rfl (fun _ _ => .inl (by simp)) harr⟩
      | outgrown => exact ⟨_, a₁, w₁, hq1, .pass (x := .inLoop c) rfl (fun _ _ => .inl (by simp)) harr⟩
  obtain ⟨x, a', w', hq, harr⟩ := key n a w ⟨s', h, ms, hI, ha.sub hs, hw⟩
  exact ⟨x, a', w', hq, .of_steps (.one (fenced_calm hb hr rfl) stepR_loop) harr⟩
end
abbrev RU (e : Entry) (I : Ay → Hp → List Hp → Prop) : Exit → Act → World → Prop := Exit.then (Ui e I) (fun _ _ _ => False)
theorem Ic {e : Entry} {I : Ay → Hp → List Hp → Prop} : ¬ LetsOut (RU e I) := fun ⟨_, _, h⟩ => h
def Wk (P : Program) (l : Nat) (args : Array Value) (h : Hp) (ms : List Hp) (post : Value → Hp → List Hp → Prop) : Prop :=
  ∀ w, St w h ms → ∃ fn tmps assign body, (Instr.yield l args).run P w = .ok (.round l fn tmps assign body) w ∧ RoundIn Fence.wide 0 P l fn tmps assign body w (RP w h ms post)
def IL (e : Entry) (ops : Array Oper) (Q : Exit → Act → World → Prop) (l : List Oper) (s : Ay) (h : Hp) (ms : List Hp) : Prop :=
  ∀ a w, Has e.n e.ds a s → e.Ends w h ms → wpListIn Fence.wide 0 e.P ops Q l a w
section
variable {e : Entry} {Q : Exit → Act → World → Prop} {s : Ay} {h : Hp} {ms : List Hp} {ops : Array Oper} {o : Oper} {rest : List Oper}
theorem B8 {l : List Oper} (k : IL e l.toArray Q l s h ms) : WS e (.region id l.toArray false) Q s h ms :=
  fun a w ha hw => wpIn_wide.1 (wpIn_region_lit (k a w ha hw))
theorem DD (k : NX e Q .normal s h ms) : IL e ops Q [] s h ms := fun a w ha hw => k a w ha hw
theorem Ct {d : Nat} {v : Value} (hx : OX e.P o s h ms v) (hd : o.dst = some d) (hn : Nat.blt d e.n = true) (hg : o.guard = none) (k : IL e ops Q rest ((d, v) :: s) h ms) : IL e ops Q (o :: rest) s h ms := fun a w ha hw => by
  unfold wpListIn
  rw [if_pos (by simp [Region.wanted, hg])]
  refine Pe ((hx a.eval w ha.eval hw.st).wp fun v' w' ⟨e1, e2⟩ => ?_)
  subst e1; rw [hd]
  exact k _ _ (ha.put (Nat.le_of_ble_eq_true hn) _) (hw.ext e2)
theorem IF {x : Operand} {lp : Nat} {l : List Operand} {ts : Array TypeId} {vs : List Value} {d : Nat} (ho : o.op = .call { callee := .value x, args := l.toArray, argTypes := ts }) (hx : ev s x = some (.func (.yield lp) #[] #[])) (ha : MF s l = some vs) (k : Wk e.P lp vs.toArray h ms post) (hd : o.dst = some d) (hn : Nat.blt d e.n = true) (hg : o.guard = none)
    (K : ∀ v h' ms', h.le h' → post v h' ms' → IL e ops Q rest ((d, v) :: s) h' ms') : IL e ops Q (o :: rest) s h ms := fun a w hA hw => by
  unfold wpListIn
  rw [if_pos (by simp [Region.wanted, hg])]
  obtain ⟨fn, tmps, assign, body, hy, hr⟩ := k w hw.st
  have hrun : (execOp a.eval o).run e.P w = .ok (.round lp fn tmps assign body) w := by
    simp [execOp, ho, resolve, hA.eval _ _ hx, Deferred.ofValue, invoke, (show Evs s a.eval from hA.eval).map l vs ha, hy]
  refine ⟨fun _ _ => trivial, ?_⟩
  rw [Oper.semAt_eq _ _ _ (fun c e => by rw [ho] at e; cases e), hrun]
  refine ⟨(fun h => by cases h), hr.mono fun x w' ⟨r, h', ms', e1, e2, e3⟩ => ?_⟩
  subst e1
  show wpListIn _ _ _ _ _ _ (a.put o.dst r) w'
  rw [hd]
  refine K r h' ms' e2.le e3 _ _ (hA.put (Nat.le_of_ble_eq_true hn) _) ?_
  have := Ends.call (fr := []) (by rw [List.append_nil]; exact hw) e2
  rwa [List.append_nil] at this
end
def Wh (P : Program) (gf : FuncId) (lb : List Value) (h : Hp) (N : Nat) (enc : Nat → List Value) : Prop :=
  ∀ (lp : Nat) (X : Nat → Hp → List Hp → Prop) (h1 : Hp) (ms : List Hp), h.le h1 → (∀ k h2 ms2, k < N → h1.le h2 → X k h2 ms2 → Wk P lp (enc k).toArray h2 ms2 (fun r h' ms' => r = .bool true ∧ X (k + 1) h' ms')) → X 0 h1 ms →
    FnT P gf ([Value.func (.yield lp) #[] #[]] ++ lb).toArray h1 ms (fun _ h' ms' => X N h' ms')
def MU : List Nat → List Value → Ay → Ay
  | p :: ps, v :: vs, s => MU ps vs ((p, v) :: s)
  | _, _, s => s
theorem Kd {ds : List Nat} {D : List Deferred} (hD : D = Ws ds) : ∀ (ps : List Nat) (vs : List Value) (s : Ay) (t : Array Value), (∀ p ∈ ps, p < n) → Has n ds { tmps := t, defers := D } s → Has n ds { tmps := (ps.zip vs).foldl (fun t (p, v) => t.setIfInBounds p v) t, defers := D } (MU ps vs s)
  | [], vs, s, t, _, H => by cases vs <;> exact H
  | p :: ps, [], s, t, _, H => H
  | p :: ps, v :: vs, s, t, hp, H => by
    show Has n ds { tmps := (ps.zip vs).foldl (fun t (p, v) => t.setIfInBounds p v) (t.setIfInBounds p v), defers := D } (MU ps vs ((p, v) :: s))
    exact Kd hD ps vs _ _ (fun q hq => hp q (List.mem_cons_of_mem _ hq)) (H.put (hp p List.mem_cons_self) v)
def Mk (D : Nat) : Hp := Hp.one D (.deferred (some []))
theorem Ends.putL {w0 : World} {h0 h : Hp} {ms0 ms : List Hp} {o : Obj} (o' : Obj) (H : Ends w0 h0 ms0 w h (Hp.one l o :: ms)) : Ends w0 h0 ms0 (w.putObj l o') h (Hp.one l o' :: ms) := by
  have hl : w.heap[l]? = some o := H.st.own _ (List.mem_cons_self) l o (Hp.one_self l o)
  have hlt := (Array.getElem?_eq_some_iff.1 hl).1
  exact H.change rfl ⟨rfl, Nat.le_refl _⟩ rfl (by simp) (World.putObj_heap_same hlt) fun k _ hk => World.putObj_heap_other hk
theorem Fk {e : Entry} {Q : Exit → Act → World → Prop} {s : Ay} {h : Hp} {ms : List Hp} {gf : Nat} {lb : List Value} {ps : List Nat} {assign body : Code} (J : Nat → Hp → List Hp → Prop) (A : Nat → Ay → Hp → List Hp → Prop) {N : Nat} {enc : Nat → List Value}
    (hg : lk s t = some (.func (.func gf) #[] lb.toArray)) (hc : ∀ az w, (callFunc gf az).run e.P w = .ok (.enter gf az) w) (hit : Wh e.P gf lb h N enc) (hps : ∀ k, (enc k).length = ps.length) (hpn : ps.all (fun p => Nat.blt p e.n) = true)
    (h0 : J 0 h ms)
    (hA : ∀ w0 k h1 ms1, k < N → h.le h1 → J k h1 ms1 → RS ⟨e.P, w0, h1, ms1, e.n, []⟩ assign (RU ⟨e.P, w0, h1, ms1, e.n, []⟩ (A k)) (MU ps (enc k) s) h1 ms1)
    (hB : ∀ w0 k s1 h1 ms1, k < N → h.le h1 → A k s1 h1 ms1 → RS ⟨e.P, w0, h1, ms1, e.n, []⟩ body (RU ⟨e.P, w0, h1, ms1, e.n, []⟩ (fun _ => J (k + 1))) s1 h1 ms1)
    (hK : ∀ D h1 ms1, h.le h1 → J N h1 ms1 → NX ⟨e.P, e.w0, e.h0, e.ms0, e.n, D :: e.ds⟩ Q .normal s h1 (ms1 ++ [Mk D])) :
    WS e (.rangeFunc (.tmp t) ps.toArray assign body) Q s h ms := by
  intro a w ha hw
  refine (wpIn_wide (n := 0)).1 (wpIn_rangeFunc fun fn _ => ?_)
  have hge : a.eval (.tmp t) = .func (.func gf) #[] lb.toArray := ha.eval (.tmp t) _ hg
  obtain ⟨rec, hrec⟩ : ∃ rec : LoopState → Loop, rec = fun st => { state := st, pending := none, fn, tmps := a.tmps, params := ps.toArray, assign, body, defers := w.heap.size } := ⟨_, rfl⟩
  obtain ⟨l, hl⟩ : ∃ l, l = w.heap.size + 1 := ⟨_, rfl⟩
  obtain ⟨W1, hW1⟩ : ∃ W1, (w.alloc (.deferred (some []))).alloc (.loop (rec .ready)) = W1 := ⟨_, rfl⟩
  have hE1 : e.Ends W1 h (ms ++ [Hp.one l (.loop (rec .ready)), Mk w.heap.size]) := by
    have h2 := (hw.alloc (.deferred (some []))).alloc (.loop (rec .ready))
    rw [World.size_alloc, ← hl, hW1] at h2
    exact h2.perm (by
      refine List.Perm.trans ?_ List.perm_append_comm
      exact List.Perm.refl _)
  have hN : w.heap.size = w.heap.size := rfl
  refine ⟨l, [{ target := .collected w.heap.size, args := #[] }], W1, { target := .fn (.func gf) lb.toArray, args := #[.func (.yield l) #[] #[]] }, W1, gf, ([Value.func (.yield l) #[] #[]] ++ lb).toArray, W1, ?_, ?_, fun _ _ => trivial, ?_, (fun h => by cases h), ?_⟩
  · rw [← hW1, hrec, hl]; exact run_enterLoop_outer _ _ _ _ _
  · simp only [resolve, hge]
    simp [go_sem]
  · simp [invoke, go_sem, hc]
  · refine (callsIn_wide (n := 0)).2 ((hit l (fun k h1 ms1 => h.le h1 ∧ ∃ ms2, ms1 = ms2 ++ [Hp.one l (.loop (rec .ready)), Mk w.heap.size] ∧ J k h1 ms2) h _ (Hp.le_refl _) ?_ ⟨Hp.le_refl _, ms, rfl, h0⟩ W1 hE1.st).mono ?_)
    · -- a round
      rintro k h2 ms2 hkN hl2 ⟨_, ms2, rfl, hJ⟩ w2 hS2
      have hlo : w2.heap[l]? = some (.loop (rec .ready)) := hS2.own _ (by simp) l _ (Hp.one_self _ _)
      have hy := run_yield (P := e.P) (args := (enc k).toArray) hlo (by rw [hrec]; simpa using hps k)
      refine ⟨_, _, _, _, hy, ?_⟩
      have r1 : (rec .ready).params = ps.toArray := by rw [hrec]
      have r2 : (rec .ready).tmps = a.tmps := by rw [hrec]
      have r3 : (rec .ready).assign = assign := by rw [hrec]
      have r4 : (rec .ready).body = body := by rw [hrec]
      rw [r1, r2, r3, r4]
      refine roundIn_of_wpIn trivial ?_
      have hSp : St w2 h2 ms2 := hS2.pre
      have hHas : Has e.n [] { tmps := (ps.toArray.zip (enc k).toArray).foldl (fun t (p, v) => t.setIfInBounds p v) a.tmps, defers := [] } (MU ps (enc k) s) := by
        have e1 : (ps.toArray.zip (enc k).toArray).foldl (fun t (p, v) => t.setIfInBounds p v) a.tmps = (ps.zip (enc k)).foldl (fun t (p, v) => t.setIfInBounds p v) a.tmps := by simp
        rw [e1]
        exact Kd rfl ps (enc k) s a.tmps (fun p hp => Nat.le_of_ble_eq_true (List.all_eq_true.1 hpn p hp)) ⟨rfl, ha.size, ha.slots⟩
      refine wpIn_mono (hA w2 k h2 ms2 hkN hl2 hJ l _ w2 hHas (Ends.refl hSp) Ic) ?_
      intro x a1 w3 hx
      cases x with
      | normal =>
        obtain ⟨s3, h3, ms3, hA3, hHas3, hE3⟩ := hx
        have hEf : Ends w2 h2 (ms2 ++ [Hp.one l (.loop (rec .ready)), Mk w.heap.size]) w3 h3 (ms3 ++ [Hp.one l (.loop (rec .ready)), Mk w.heap.size]) := Ends.call (Ends.refl hS2) hE3
        have hEp := hEf.perm (ms' := Hp.one l (.loop (rec .ready)) :: Mk w.heap.size :: ms3) List.perm_append_comm
        have hl3 : w3.heap[l]? = some (.loop (rec .ready)) := hEp.st.own _ (List.mem_cons_self) l _ (Hp.one_self _ _)
        have hE4 := Ends.putL (.loop (rec .busy)) hEp
        refine ⟨_, run_beginRound hl3 (by rw [hrec]), ?_⟩
        have e2 : ({ rec .ready with state := .busy } : Loop) = rec .busy := by rw [hrec]
        rw [e2]
        have hE4' := hE4.perm (ms' := ms3 ++ [Hp.one l (.loop (rec .busy)), Mk w.heap.size]) (List.perm_append_comm (l₁ := [_, _]))
        refine wpIn_mono (hB _ k s3 h3 ms3 hkN (Hp.le_trans hl2 hE3.le) hA3 l a1 _ hHas3 (Ends.refl hE4'.st.pre) Ic) ?_
        intro y a2 w5 hy5
        cases y with
        | normal =>
          obtain ⟨s5, h5, ms5, hJ5, _, hE5⟩ := hy5
          have hE6 := Ends.call hE4' hE5
          have hE6p := hE6.perm (ms' := Hp.one l (.loop (rec .busy)) :: Mk w.heap.size :: ms5) List.perm_append_comm
          have hl6 : w5.heap[l]? = some (.loop (rec .busy)) := hE6p.st.own _ (List.mem_cons_self) l _ (Hp.one_self _ _)
          refine ⟨_, _, run_endRound none hl6, ?_⟩
          have e3 : ({ rec .busy with state := if (none : Option Code).isNone then .ready else .done, pending := none } : Loop) = rec .ready := by rw [hrec]; rfl
          rw [e3]
          exact ⟨_, h5, _, rfl, (Ends.putL (.loop (rec .ready)) hE6p).perm (List.perm_append_comm (l₁ := [_, _])), rfl, Hp.le_trans hl2 (Hp.le_trans hE3.le hE5.le), ms5, rfl, hJ5⟩
        | _ => exact hy5.elim
      | _ => exact hx
    · rintro x w3 ⟨r, h3, ms3, rfl, hE3, hl3, ms4, rfl, hJ⟩
      have hE4 := Ends.call (fr := []) (by rw [List.append_nil]; exact hE1) hE3
      rw [List.append_nil] at hE4
      have hE5 := hE4.perm (ms' := Hp.one l (.loop (rec .ready)) :: Mk w.heap.size :: ms4) List.perm_append_comm
      have hl5 : w3.heap[l]? = some (.loop (rec .ready)) := hE5.st.own _ (List.mem_cons_self) l _ (Hp.one_self _ _)
      refine ⟨_, _, run_endLoop hl5 (by rw [hrec]; simp), ?_⟩
      have e4 : (rec .ready).pending = none := by rw [hrec]
      rw [e4]
      exact hK w.heap.size h3 ms4 hl3 hJ { a with defers := [{ target := .collected w.heap.size, args := #[] }] ++ a.defers } _ ⟨by show [_] ++ a.defers = _; rw [ha.defers]; rfl, ha.size, ha.slots⟩ ((Ends.putL _ hE5).drop.perm (List.perm_append_comm (l₁ := [_])))
theorem Gd {f : FuncId} {fn : Func} {l : List Value} {h : Hp} {ms : List Hp}
    (hf : P.funcs[f]? = some fn) (hn : fn.ntmps = n) (hb : fn.body = some c) (hl : Nat.ble l.length n = true)
    (k : ∀ w0, St w0 h ms → WS ⟨P, w0, h, ms, n, []⟩ c (bodyPostM Fence.wide 0 P fn (RP w0 h ms post)) (A4 0 l) h ms) : FnT P f l.toArray h ms post := by
  intro w hw
  refine (callsIn_wide (n := 0)).1 (callsIn_of_wp_marks hf hb trivial (wpIn_wide.2 (k w hw _ w ?_ (Ends.refl hw))))
  have hl' := Nat.le_of_ble_eq_true hl
  refine ⟨rfl, by simp [hn]; omega, fun i v e => ?_⟩
  obtain ⟨_, h2⟩ := N1 l 0 i v e
  have hi : i < l.length := by
    rcases Nat.lt_or_ge i l.length with h' | h'
    · exact h'
    · rw [List.getElem?_eq_none (by omega)] at h2; cases h2
  simp only [Nat.sub_zero] at h2
  rw [Array.getElem?_append_left (by simpa using hi)]
  simpa using h2
theorem In {w0 : World} {h0 : Hp} {ms0 : List Hp} {D : Nat} {fn : Func} {s : Ay} {h : Hp} {ms : List Hp} {x : Exit} (i : Nat) (hx : x = .normal ∨ x = .ret) (hm : ms[i]? = some (Mk D)) (k : NX ⟨P, w0, h0, ms0, n, []⟩ (bodyPost P fn (RP w0 h0 ms0 post)) x s h (ms.eraseIdx i)) :
    NX ⟨P, w0, h0, ms0, n, [D]⟩ (bodyPostM Fence.wide 0 P fn (RP w0 h0 ms0 post)) x s h ms := by
  intro a w ha hw
  have hp := hw.perm (Cw hm)
  have hD : w.heap[D]? = some (.deferred (some [])) := hp.st.own _ (List.mem_cons_self) D _ (Hp.one_self _ _)
  have hE := (Ends.putL (.deferred none) hp).drop
  have hb := k { a with defers := [] } _ ⟨rfl, ha.size, ha.slots⟩ hE
  have hd : a.defers = [{ target := .collected D, args := #[] }] := ha.defers
  have goal : LeavesInM Fence.wide 0 P fn a.tmps (RP w0 h0 ms0 post) a.defers .returning w := by
    rw [hd]
    refine ⟨by simp, .inl ⟨D, _, rfl, run_takeDeferred hD, ?_⟩⟩
    rcases hx with rfl | rfl <;> · obtain ⟨_, v, hr, hR⟩ := hb; exact ⟨v, hr, hR⟩
  rcases hx with rfl | rfl <;> exact goal
end Go.Eng
namespace Go.Eng
open Go.RowKit
variable {f : Nat → Hp} {N l : Nat} {m : Hp} {R : Nat → Hp → Prop}
def CU (f : Nat → Hp) : Nat → Hp
  | 0 => Hp.emp
  | n + 1 => (CU f n).join (f n)
def FC (f : Nat → Hp) (l : Nat) (m : Hp) : Nat → Hp := fun k => if k = l then m else f k
theorem B5 (f : Nat → Hp) (l : Nat) (m : Hp) : FC f l m l = m := if_pos rfl
theorem BT (f : Nat → Hp) {k : Nat} (m : Hp) (h : k ≠ l) : FC f l m k = f k := if_neg h
theorem joinN_none {g : Nat} : ∀ {n : Nat}, CU f n g = none ↔ ∀ i, i < n → f i g = none
  | 0 => ⟨fun _ i h => by omega, fun _ => rfl⟩
  | n + 1 => by
    show (match CU f n g with | some o => some o | none => f n g) = none ↔ _
    cases h : CU f n g with
    | some o =>
      constructor
      · intro e; cases e
      · intro e
        have := (joinN_none (n := n)).2 fun i hi => e i (by omega)
        rw [h] at this; cases this
    | none =>
      constructor
      · intro e i hi
        rcases (by omega : i < n ∨ i = n) with h2 | rfl
        · exact joinN_none.1 h i h2
        · exact e
      · intro e; exact e n (by omega)
def Dj (N : Nat) (f : Nat → Hp) : Prop := ∀ i j, i < N → j < N → i ≠ j → (f i).disj (f j)
theorem DG {g : Nat} {o : Obj} : ∀ {n : Nat}, Dj n f → ∀ {l : Nat}, l < n → f l g = some o → CU f n g = some o
  | n + 1, hd, l, hl, e => by
    show (match CU f n g with | some o => some o | none => f n g) = some o
    rcases (by omega : l < n ∨ l = n) with h | rfl
    · rw [DG (fun i j hi hj => hd i j (by omega) (by omega)) h e]
    · have : CU f l g = none := joinN_none.2 fun i hi => by
        rcases hd i l (by omega) (by omega) (by omega) g with h | h
        · exact h
        · rw [h] at e; cases e
      rw [this]; exact e
theorem Dj.upd (h : Dj N f) (l : Nat) : Dj N (FC f l Hp.emp) := fun i j hi hj hne g => by
  by_cases h1 : i = l
  · subst h1; left; rw [B5]; rfl
  · by_cases h2 : j = l
    · subst h2; right; rw [B5]; rfl
    · rw [BT f _ h1, BT f _ h2]; exact h i j hi hj hne g
theorem I6 (hd : Dj N f) (hl : l < N) : CU f N = (f l).join (CU (FC f l Hp.emp) N) ∧ (f l).disj (CU (FC f l Hp.emp) N) := by
  have key : ∀ g, f l g ≠ none → CU (FC f l Hp.emp) N g = none := fun g hg => joinN_none.2 fun i hi => by
    by_cases h : i = l
    · subst h; rw [B5]; rfl
    · rw [BT f _ h]
      rcases hd i l hi hl h g with h2 | h2
      · exact h2
      · exact absurd h2 hg
  constructor
  · funext g
    show _ = match f l g with | some o => some o | none => CU (FC f l Hp.emp) N g
    cases h : f l g with
    | some o => exact DG hd hl h
    | none =>
      show CU f N g = CU (FC f l Hp.emp) N g
      cases h2 : CU (FC f l Hp.emp) N g with
      | none =>
        refine joinN_none.2 fun i hi => ?_
        by_cases h3 : i = l
        · subst h3; exact h
        · have := joinN_none.1 h2 i hi
          rwa [BT f _ h3] at this
      | some o =>
        have : ∃ i, i < N ∧ FC f l Hp.emp i g ≠ none := Classical.byContradiction fun hc => by
          have := (joinN_none (f := FC f l Hp.emp) (g := g) (n := N)).2 fun i hi => Classical.byContradiction fun hn => hc ⟨i, hi, hn⟩
          rw [h2] at this; cases this
        obtain ⟨i, hi, hne⟩ := this
        obtain ⟨o', ho'⟩ := Hp.ne_none hne
        have := DG (hd.upd l) hi ho'
        rw [h2] at this; cases this
        have hil : i ≠ l := fun he => by subst he; rw [B5] at ho'; cases ho'
        rw [BT f _ hil] at ho'
        exact DG hd hi ho'
  · intro g
    by_cases h : f l g = none
    · exact .inl h
    · exact .inr (key g h)
def Bag (N : Nat) (R : Nat → Hp → Prop) (m : Hp) : Prop := ∃ f : Nat → Hp, Dj N f ∧ m = CU f N ∧ ∀ l, l < N → R l (f l)
theorem Bag.zero (R : Nat → Hp → Prop) : Bag 0 R Hp.emp := ⟨fun _ => Hp.emp, fun i j h => by omega, rfl, fun l h => by omega⟩
theorem Bag.mono {R' : Nat → Hp → Prop} (B : Bag N R m) (h : ∀ l, l < N → ∀ x, R l x → R' l x) : Bag N R' m :=
  let ⟨f, h1, h2, h3⟩ := B
  ⟨f, h1, h2, fun l hl => h l hl _ (h3 l hl)⟩
theorem disj_joinN {n : Nat} : m.disj (CU f n) ↔ ∀ i, i < n → m.disj (f i) := by
  constructor
  · intro h i hi g
    rcases h g with h1 | h1
    · exact .inl h1
    · exact .inr (joinN_none.1 h1 i hi)
  · intro h g
    by_cases hg : m g = none
    · exact .inl hg
    · refine .inr (joinN_none.2 fun i hi => ?_)
      rcases h i hi g with h1 | h1
      · exact absurd h1 hg
      · exact h1
theorem Fz {f' : Nat → Hp} : ∀ {n : Nat}, (∀ i, i < n → f i = f' i) → CU f n = CU f' n
  | 0, _ => rfl
  | n + 1, h => by
    show (CU f n).join (f n) = (CU f' n).join (f' n)
    rw [Fz fun i hi => h i (by omega), h n (by omega)]
theorem Bag.snoc {x : Hp} (B : Bag N R m) (hx : R N x) (hd : m.disj x) : Bag (N + 1) R (m.join x) := by
  obtain ⟨f, h1, rfl, h3⟩ := B
  have hc : CU (FC f N x) N = CU f N := Fz fun i hi => BT f x (by omega)
  refine ⟨FC f N x, fun i j hi hj hne => ?_, ?_, fun l hl => ?_⟩
  · have hd' := disj_joinN.1 (Hp.disj_symm hd)
    rcases (by omega : i < N ∨ i = N) with h | rfl
    · rw [BT f x (by omega : i ≠ N)]
      rcases (by omega : j < N ∨ j = N) with h2 | rfl
      · rw [BT f x (by omega : j ≠ N)]; exact h1 i j h h2 hne
      · rw [B5]; exact Hp.disj_symm (hd' i h)
    · rw [B5, BT f x (by omega : j ≠ i)]
      exact hd' j (by omega)
  · show _ = (CU (FC f N x) N).join (FC f N x N)
    rw [hc, B5]
  · rcases (by omega : l < N ∨ l = N) with h | rfl
    · rw [BT f x (by omega)]; exact h3 l h
    · rw [B5]; exact hx
theorem Bag.open (B : Bag N R m) (hl : l < N) : ∃ m1 m2, m = m1.join m2 ∧ m1.disj m2 ∧ R l m1 ∧ (∀ k, k < N → k ≠ l → ∃ x, x.le m2 ∧ R k x) ∧
    ∀ (R' : Nat → Hp → Prop) m1', m1'.disj m2 → R' l m1' → (∀ k, k < N → k ≠ l → ∀ x, R k x → R' k x) → Bag N R' (m1'.join m2) := by
  obtain ⟨f, h1, rfl, h3⟩ := B
  obtain ⟨e1, e2⟩ := I6 h1 hl
  refine ⟨f l, _, e1, e2, h3 l hl, fun k hk hne => ⟨f k, fun g o ho => ?_, h3 k hk⟩, fun R' m1' hd hR hk => ⟨FC f l m1', ?_, ?_, fun k hkN => ?_⟩⟩
  · exact DG (h1.upd l) hk (by rw [BT f _ hne]; exact ho)
  · have hd' := disj_joinN.1 hd
    intro i j hi hj hne
    by_cases hil : i = l
    · subst hil
      rw [B5, BT f _ (Ne.symm hne)]
      have := hd' j hj
      rwa [BT f _ (Ne.symm hne)] at this
    · rw [BT f _ hil]
      by_cases hjl : j = l
      · subst hjl
        rw [B5]
        have := hd' i hi
        rw [BT f _ hil] at this
        exact Hp.disj_symm this
      · rw [BT f _ hjl]; exact h1 i j hi hj hne
  · have hD : Dj N (FC f l m1') := by
      have hd' := disj_joinN.1 hd
      intro i j hi hj hne
      by_cases hil : i = l
      · subst hil
        rw [B5, BT f _ (Ne.symm hne)]
        have := hd' j hj
        rwa [BT f _ (Ne.symm hne)] at this
      · rw [BT f _ hil]
        by_cases hjl : j = l
        · subst hjl
          rw [B5]
          have := hd' i hi
          rw [BT f _ hil] at this
          exact Hp.disj_symm this
        · rw [BT f _ hjl]; exact h1 i j hi hj hne
    have := (I6 hD hl).1
    rw [B5] at this
    rw [this]
    congr 1
    refine Fz fun i _ => ?_
    by_cases hil : i = l
    · subst hil; rw [B5, B5]
    · rw [BT _ _ hil, BT _ _ hil, BT _ _ hil]
  · by_cases hkl : k = l
    · subst hkl; rw [B5]; exact hR
    · rw [BT f _ hkl]; exact hk k hkN hkl _ (h3 k hkN)
theorem Bag.all (B : Bag N R m) : ∀ k, k < N → ∃ x, x.le m ∧ R k x := fun k hk => by
  obtain ⟨f, h1, rfl, h3⟩ := B
  exact ⟨f k, fun g o ho => DG h1 hk ho, h3 k hk⟩
def Jz : Hp → List Hp → Hp
  | h, [] => h
  | h, m :: ms => Jz (h.join m) ms
theorem St.freezeL {w : World} : ∀ {fr : List Hp} {h : Hp} {pre : List Hp}, St w h (pre ++ fr) → St w (Jz h fr) pre
  | [], h, pre, s => by
    show St w h pre
    simpa using s
  | m :: fr, h, pre, s => by
    have h1 : St w h (m :: (pre ++ fr)) := (Ends.perm (Ends.refl s) List.perm_middle).st
    show St w (Jz (h.join m) fr) pre
    exact St.freezeL (Ends.freeze (Ends.refl h1)).st
theorem GI : ∀ {fr : List Hp} {h : Hp}, h.le (Jz h fr)
  | [], h => Hp.le_refl _
  | m :: fr, h => Hp.le_trans (Hp.le_join h m) GI
theorem IQ : ∀ {fr : List Hp} {h : Hp}, (∀ m ∈ fr, m.disj h) → fr.Pairwise Hp.disj → ∀ m ∈ fr, m.le (Jz h fr)
  | m' :: fr, h, hd, hp, m, hm => by
    have hp' := List.pairwise_cons.1 hp
    rcases List.mem_cons.1 hm with rfl | hm
    · exact Hp.le_trans (Hp.join_le_right (hd _ List.mem_cons_self)) GI
    · refine IQ (h := h.join m') (fun m hm => ?_) hp'.2 m hm
      refine Hp.disj_symm (Hp.disj_join (Hp.disj_symm (hd m (List.mem_cons_of_mem _ hm))) (hp'.1 m hm))
theorem K2 {P : Program} {f : FuncId} {args : Array Value} {h : Hp} {pre fr : List Hp} {post : Value → List Hp → Prop} (k : ∀ h', h.le h' → (∀ m ∈ fr, m.le h') → FnT P f args h' pre (fun r _ ms' => post r ms')) : FnT P f args h (pre ++ fr) (fun r h2 ms2 => h = h2 ∧ ∃ ms', ms2 = ms' ++ fr ∧ post r ms') := fun w hw => by
  have hap := List.pairwise_append.1 hw.apart
  refine ((k (Jz h fr) GI (IQ (fun m hm => hw.off m (List.mem_append_right _ hm)) hap.2.1)) w hw.freezeL).mono fun x w' ⟨r, h', ms', e1, e2, e3⟩ => ⟨r, h, ms' ++ fr, e1, ?_, rfl, ms', rfl, e3⟩
  -- what was frozen is owned again
  have hin : ∀ m ∈ fr, m.le h' := fun m hm => Hp.le_trans (IQ (fun m hm => hw.off m (List.mem_append_right _ hm)) hap.2.1 m hm) e2.le
  have hle : h.le h' := Hp.le_trans GI e2.le
  have hoff : ∀ m ∈ ms', ∀ m' , m'.le h' → m.disj m' := fun m hm m' hl g => by
    rcases e2.st.off m hm g with h1 | h1
    · exact .inl h1
    · refine .inr ?_
      cases h2 : m' g with
      | none => rfl
      | some o => rw [hl g o h2] at h1; cases h1
  refine ⟨⟨fun g o ho => e2.st.imm g o (hle g o ho), fun m hm => ?_, fun m hm => ?_, ?_⟩, e2.os, e2.tape, e2.output, e2.size, fun k hk hn => ?_, Hp.le_refl _, fun _ _ _ => rfl, fun m hm k hk hne => ?_⟩
  · rcases List.mem_append.1 hm with hm | hm
    · exact e2.st.own m hm
    · exact fun g o ho => e2.st.imm g o (hin m hm g o ho)
  · rcases List.mem_append.1 hm with hm | hm
    · exact hoff m hm h hle
    · exact hw.off m (List.mem_append_right _ hm)
  · exact List.pairwise_append.2 ⟨e2.st.apart, hap.2.1, fun m hm m' hm' => hoff m hm m' (hin m' hm')⟩
  · exact e2.block k hk fun m hm => hn m (List.mem_append_left _ hm)
  · rcases List.mem_append.1 hm with hm | hm
    · obtain ⟨m0, h1, h2⟩ := e2.mnew m hm k hk hne
      exact ⟨m0, List.mem_append_left _ h1, h2⟩
    · exact ⟨m, List.mem_append_right _ hm, hne⟩
theorem Hp.le_joinl {a b : Hp} : a.le (a.join b) := Hp.le_join a b
theorem Hp.le_joinr {a b : Hp} (h : a.disj b) : b.le (a.join b) := Hp.join_le_right (Hp.disj_symm h)
theorem Hp.emp_join (a : Hp) : Hp.emp.join a = a := rfl
theorem Ba {α : Type} {F : α → List Value} {e : Entry} {Q : Exit → Act → World → Prop} {ops : Array Oper} {rest : List Oper} {o : Oper} {s : Ay} {h : Hp} {ms : List Hp} {t el : TypeId} {sz d : Nat} {z : Value} {bytes : Nat} {x y : Operand} {v u : Value} {l r : List α} (i : Nat) (O : OwnL F sz el m v l) (R : RdL F sz h ms u r) (ho : o.op = .call { callee := .builtin .append, args := #[x, y], argTypes := #[t, t] }) (ht : e.P.underlying t = some (.slice el)) (hs : Elem e.P el sz z bytes) (hzs : z.cells.size = sz) (hsz : 0 < sz)
    (hx : ev s x = some v) (hy : ev s y = some u) (hm : ms[i]? = some m) (h1 : ∀ a ∈ r, ∀ c ∈ F a, c.oneCell' = true) (hb : (l.length + r.length) * bytes ≤ 140737488355328) (hb63 : l.length + r.length ≤ 9223372036854775807) (hd : o.dst = some d) (hn : Nat.blt d e.n = true) (hg : o.guard = none)
    (K : ∀ v' m', OwnL F sz el m' v' (l ++ r) → WL e ops Q rest ((d, v') :: s) h (ms.set i m')) : WL e ops Q (o :: rest) s h ms :=
  Jy i ho ht hs hzs hsz hx hy hm O.own R.rd (fun c hc => by obtain ⟨a, hm', ha⟩ := List.mem_flatMap.1 hc; exact h1 a hm' c ha) hb hb63 hd hn hg fun v' m' O' => K v' m' ⟨by rw [List.length_append, List.flatMap_append]; exact O', O.len⟩
end Go.Eng
namespace Go.Eng
open Go.RowKit
variable {ms a b : List Hp}
def Goes (ms ms' : List Hp) : Prop := ∀ w0 h0 ms0 w h, Ends w0 h0 ms0 w h ms → Ends w0 h0 ms0 w h ms'
theorem Goes.trans {c : List Hp} (h : Goes a b) (k : Goes b c) : Goes a c := fun _ _ _ _ _ x => k _ _ _ _ _ (h _ _ _ _ _ x)
theorem Goes.perm (h : a.Perm b) : Goes a b := fun _ _ _ _ _ x => x.perm h
theorem Goes.join (a b : Hp) (ms : List Hp) : Goes (a :: b :: ms) (a.join b :: ms) := fun _ _ _ _ _ x => x.join
theorem Goes.part {a b : Hp} (hd : a.disj b) (ms : List Hp) : Goes (a.join b :: ms) (a :: b :: ms) := fun _ _ _ _ _ x => x.part hd
theorem LU {P : Program} {f : FuncId} {args : Array Value} {h : Hp} {post post' : Value → Hp → List Hp → Prop} (k : FnT P f args h ms post) (hc : ∀ r h' ms', post r h' ms' → ms'.Pairwise Hp.disj → ∃ ms'', Goes ms' ms'' ∧ post' r h' ms'') : FnT P f args h ms post' := fun w hw =>
  (k w hw).mono fun _ _ ⟨r, h', ms', e1, e2, e3⟩ => let ⟨ms'', g, p⟩ := hc r h' ms' e3 e2.st.apart; ⟨r, h', ms'', e1, g _ _ _ _ _ e2, p⟩
def Ut (ms : List Hp) (k : Nat) : Prop := ∃ m ∈ ms, m k ≠ none
theorem Lh {P : Program} {f : FuncId} {args : Array Value} {h : Hp} {ms1 : List Hp} {post : Value → Hp → List Hp → Prop} (g : Goes ms ms1) (hd : ∀ k, Ut ms1 k → Ut ms k) (k : FnT P f args h ms1 post) : FnT P f args h ms post := fun w hw =>
  (k w (g _ _ _ _ _ (Ends.refl hw)).st).mono fun _ _ ⟨r, h', ms', e1, e2, e3⟩ => by
    have hn : ∀ k, (∀ m ∈ ms, m k = none) → ∀ m ∈ ms1, m k = none := fun k hm m hm1 => Classical.byContradiction fun hne => by
      obtain ⟨m0, h0, h1⟩ := hd k ⟨m, hm1, hne⟩
      exact h1 (hm m0 h0)
    exact ⟨r, h', ms', e1, ⟨e2.st, e2.os, e2.tape, e2.output, e2.size, fun k hk hm => e2.block k hk (hn k hm), e2.le, fun k hk hm => e2.hnew k hk (hn k hm), fun m hm k hk hne => hd k (e2.mnew m hm k hk hne)⟩, e3⟩
theorem Ly (p : a.Perm b) : ∀ k, Ut b k → Ut a k := fun k ⟨m, hm, hne⟩ => ⟨m, p.mem_iff.2 hm, hne⟩
theorem I4 {a b : Hp} : ∀ k, Ut (a :: b :: ms) k → Ut (a.join b :: ms) k := fun k ⟨m, hm, hne⟩ => by
  rcases List.mem_cons.1 hm with rfl | hm
  · obtain ⟨o, ho⟩ := Hp.ne_none hne
    exact ⟨_, List.mem_cons_self, by rw [Hp.le_join m b k o ho]; simp⟩
  · rcases List.mem_cons.1 hm with rfl | hm
    · refine ⟨_, List.mem_cons_self, fun h => hne ?_⟩
      unfold Hp.join at h
      split at h
      · cases h
      · exact h
    · exact ⟨m, List.mem_cons_of_mem _ hm, hne⟩
theorem Goes.parts {a b : Hp} {ms' : List Hp} (hd : a.disj b) (p : (a :: b :: ms).Perm ms') : Goes (a.join b :: ms) ms' ∧ ∀ k, Ut ms' k → Ut (a.join b :: ms) k :=
  ⟨(Goes.part hd ms).trans (Goes.perm p), fun k h => I4 k (Ly p k h)⟩
end Go.Eng
namespace Go.Eng
open Go.RowKit
variable {c : Code}
def Hp.minus (h m : Hp) : Hp := fun g => match m g with | some _ => none | none => h g
theorem Hp.minus_le (h m : Hp) : (h.minus m).le h := fun g o e => by
  unfold Hp.minus at e
  split at e
  · cases e
  · exact e
theorem Hp.le_minus {a h m : Hp} (hl : a.le h) (hd : a.disj m) : a.le (h.minus m) := fun g o e => by
  unfold Hp.minus
  rcases hd g with h1 | h1
  · rw [h1] at e; cases e
  · rw [h1]; exact hl g o e
theorem Hp.minus_disj (h m : Hp) : m.disj (h.minus m) := fun g => by
  unfold Hp.minus
  cases hm : m g with
  | none => exact .inl rfl
  | some o => exact .inr rfl
def KY (e : Entry) (m : Hp) : Prop := e.h0.disj m ∧ ∀ k, k < e.w0.heap.size → m k ≠ none → ∃ m0 ∈ e.ms0, m0 k ≠ none
theorem UK {e : Entry} {w : World} {h : Hp} {ms : List Hp} {m : Hp} (H : e.Ends w h (m :: ms)) : m.disj h ∧ KY e m :=
  ⟨H.st.off m List.mem_cons_self, And.intro (fun g => by
    rcases H.st.off m List.mem_cons_self g with h1 | h1
    · exact .inr h1
    · left
      cases h2 : e.h0 g with
      | none => rfl
      | some o => have := H.le g o h2; rw [h1] at this; cases this) fun k hk hne => H.mnew m List.mem_cons_self k hk hne⟩
theorem back {e : Entry} {w : World} {h : Hp} {ms : List Hp} {m : Hp} (L : KY e m) (hm : m.le h) (H : e.Ends w h ms) : e.Ends w (h.minus m) (m :: ms) := by
  refine ⟨⟨fun g o ho => H.st.imm g o (Hp.minus_le h m g o ho), fun x hx => ?_, fun x hx => ?_, ?_⟩, H.os, H.tape, H.output, H.size, H.block, Hp.le_minus H.le L.1, fun k hk hn => ?_, fun x hx k hk hne => ?_⟩
  · rcases List.mem_cons.1 hx with rfl | hx
    · exact fun g o ho => H.st.imm g o (hm g o ho)
    · exact H.st.own x hx
  · rcases List.mem_cons.1 hx with rfl | hx
    · exact Hp.minus_disj h x
    · intro g
      rcases H.st.off x hx g with h1 | h1
      · exact .inl h1
      · right
        cases h2 : h.minus m g with
        | none => rfl
        | some o => rw [Hp.minus_le h m g o h2] at h1; cases h1
  · refine List.pairwise_cons.2 ⟨fun x hx g => ?_, H.st.apart⟩
    rcases H.st.off x hx g with h1 | h1
    · exact .inr h1
    · left
      cases h2 : m g with
      | none => rfl
      | some o => rw [hm g o h2] at h1; cases h1
  · have h1 := H.hnew k hk hn
    unfold Hp.minus
    cases h2 : m k with
    | none => exact h1
    | some o =>
      obtain ⟨m0, hm0, hne⟩ := L.2 k hk (by rw [h2]; simp)
      exact absurd (hn m0 hm0) hne
  · rcases List.mem_cons.1 hx with rfl | hx
    · exact L.2 k hk hne
    · exact H.mnew x hx k hk hne
section
variable {e : Entry} {Q : Exit → Act → World → Prop} {s : Ay} {h : Hp} {ms : List Hp} {m : Hp}
theorem Cu (i : Nat) {m : Hp} (hm : ms[i]? = some m) (k : WS e c Q s h (m :: ms.eraseIdx i)) : WS e c Q s h ms := Ea (Cw hm) k
theorem Db {x : Exit} (i : Nat) {m : Hp} (hm : ms[i]? = some m) (k : NX e Q x s h (m :: ms.eraseIdx i)) : NX e Q x s h ms := CF (Cw hm) k
theorem Qu (i : Nat) {m : Hp} (hm : ms[i]? = some m) (k : RS e c Q s h (m :: ms.eraseIdx i)) : RS e c Q s h ms := To (Cw hm) k
theorem CV (k : ∀ h1, h.le h1 → m.le h1 → h.disj m → KY e m → WS e c Q s h1 ms) : WS e c Q s h (m :: ms) := fun a w ha hw =>
  let l := UK hw
  k _ (Hp.le_join h m) (Hp.join_le_right l.1) (Hp.disj_symm l.1) l.2 a w ha (Ends.freeze hw)
theorem EB {ops : Array Oper} {r : List Oper} (k : ∀ h1, h.le h1 → m.le h1 → h.disj m → KY e m → WL e ops Q r s h1 ms) : WL e ops Q r s h (m :: ms) := fun a w ha hw =>
  let l := UK hw
  k _ (Hp.le_join h m) (Hp.join_le_right l.1) (Hp.disj_symm l.1) l.2 a w ha (Ends.freeze hw)
theorem J5 (k : ∀ h1, h.le h1 → m.le h1 → h.disj m → KY e m → RS e c Q s h1 ms) : RS e c Q s h (m :: ms) := fun r a w ha hw =>
  let l := UK hw
  k _ (Hp.le_join h m) (Hp.join_le_right l.1) (Hp.disj_symm l.1) l.2 r a w ha (Ends.freeze hw)
theorem F6 (L : KY e m) (hm : m.le h) (k : ∀ h2, h2.le h → (∀ a : Hp, a.le h → a.disj m → a.le h2) → WS e c Q s h2 (m :: ms)) : WS e c Q s h ms := fun a w ha hw =>
  k _ (Hp.minus_le h m) (fun _ h1 h2 => Hp.le_minus h1 h2) a w ha (back L hm hw)
theorem Ig {ops : Array Oper} {r : List Oper} (L : KY e m) (hm : m.le h) (k : ∀ h2, h2.le h → (∀ a : Hp, a.le h → a.disj m → a.le h2) → WL e ops Q r s h2 (m :: ms)) : WL e ops Q r s h ms := fun a w ha hw =>
  k _ (Hp.minus_le h m) (fun _ h1 h2 => Hp.le_minus h1 h2) a w ha (back L hm hw)
theorem E1 {x : Exit} (L : KY e m) (hm : m.le h) (k : ∀ h2, h2.le h → (∀ a : Hp, a.le h → a.disj m → a.le h2) → NX e Q x s h2 (m :: ms)) : NX e Q x s h ms := fun a w ha hw =>
  k _ (Hp.minus_le h m) (fun _ h1 h2 => Hp.le_minus h1 h2) a w ha (back L hm hw)
end
end Go.Eng
namespace Go.Eng
open Go.RowKit
section
variable {κ ν : Type} [DecidableEq κ] {K : κ → Value} {V : ν → Value} {Ok : κ → Prop} {kt et t : TypeId} {g : Nat} {m : Hp} {T : List (κ × ν)} {bs : List Nat}
variable {e : Entry} {Q : Exit → Act → World → Prop} {ops : Array Oper} {rest : List Oper} {o : Oper} {s : Ay} {h : Hp} {ms : List Hp}
theorem GN {x y u : Operand} {z : Value} (i : Nat) (a : κ) (y' : ν) (L : LS e.P kt K Ok) (O : DI K V g Ok m T bs) (hm : ms[i]? = some m) (ho : o.op = .mapUpdate t x y u) (ht : e.P.underlying t = some (.map kt et)) (hx : ev s x = some (.map (some g))) (hy : ev s y = some (K a)) (hu : ev s u = some (V y')) (ha : Ok a)
    (hd : o.dst = none) (hg : o.guard = none) (k : ∀ m' bs', DI K V g Ok m' (Dt T a y') bs' → WL e ops Q rest s h (ms.set i m')) : WL e ops Q (o :: rest) s h ms :=
  Jp (post := fun _ h' ms' => ∃ m' bs', DI K V g Ok m' (Dt T a y') bs' ∧ h' = h ∧ ms' = ms.set i m') (fun ρ w hρ hw => by
    obtain ⟨es, clock, rfl, he, hb⟩ := O.ex
    have hgw : w.heap[g]? = some (.map es clock) := hw.st.own _ (List.mem_of_getElem? hm) g _ (Hp.one_self _ _)
    obtain ⟨l, hk⟩ := L.key a ha
    have hc := L.law.check w false hk
    have hs := L.law.stays w hk
    rcases He L O.keys O.ok O.len he w a ha with ⟨h1, h2⟩ | ⟨j, v, b, h1, h2, h3, h4⟩
    · have hT : Dt T a y' = T ++ [(a, y')] := by unfold Dt; rw [if_neg h2]
      have hrun : (execOp ρ o).run e.P w = .ok .skip { w with heap := w.heap.setIfInBounds g (.map (es.push ⟨K a, V y', clock⟩) (clock + 1)) } := by
        simp only [execOp, ho, hρ _ _ hx, hρ _ _ hy, hρ _ _ hu, Instr.mapUpdate, Sem.run_bind, run_underlying ht, Result.andThen_ok, getObj, Sem.run_pure]
        simp [Sem.run, hgw, hc, h1, Result.andThen, setObj]
      unfold OpRes; rw [hrun]
      refine ⟨h, _, Ends.turn hw hm, _, bs ++ [clock], ?_, rfl, rfl⟩
      rw [hT]
      refine ⟨⟨_, _, rfl, ?_, fun b hb' => ?_⟩, by simp [O.len], N5 O.up hb, ?_, fun p hp => ?_⟩
      · rw [Array.toList_push, he, LA T bs O.len, List.map_append]; rfl
      · rcases List.mem_append.1 hb' with hb' | hb'
        · have := hb b hb'; omega
        · simp at hb'; omega
      · have := F0 O.keys a y'; rw [hT] at this; exact this
      · rcases List.mem_append.1 hp with hp | hp
        · exact O.ok p hp
        · simp at hp; subst hp; exact ha
    · have hj4 := (Array.getElem?_eq_some_iff.1 h4)
      have hrun : (execOp ρ o).run e.P w = .ok .skip { w with heap := w.heap.setIfInBounds g (.map (es.modify j fun e => { e with key := K a, val := V y' }) clock) } := by
        simp only [execOp, ho, hρ _ _ hx, hρ _ _ hy, hρ _ _ hu, Instr.mapUpdate, Sem.run_bind, run_underlying ht, Result.andThen_ok, getObj, Sem.run_pure]
        simp [Sem.run, hgw, hc, h1, Result.andThen, setObj, h4, hs]
      unfold OpRes; rw [hrun]
      refine ⟨h, _, Ends.turn hw hm, _, bs, ?_, rfl, rfl⟩
      refine ⟨⟨_, _, rfl, ?_, hb⟩, ?_, O.up, F0 O.keys a y', fun p hp => ?_⟩
      · rw [Fc O.keys h2, NA T bs j _ b h3, List.map_set, ← he]
        refine List.ext_getElem? fun k => ?_
        rw [Array.getElem?_toList, Array.getElem?_modify, List.getElem?_set]
        by_cases hjk : j = k
        · subst hjk
          rw [if_pos rfl, if_pos rfl, h4]
          have : j < es.toList.length := by simpa using (Array.getElem?_eq_some_iff.1 h4).1
          rw [if_pos this]; rfl
        · rw [if_neg hjk, if_neg hjk, Array.getElem?_toList]
      · rw [Fc O.keys h2, List.length_set]; exact O.len
      · rw [Fc O.keys h2] at hp
        rcases List.mem_or_eq_of_mem_set hp with hp | hp
        · exact O.ok p hp
        · subst hp; exact ha) hd hg fun v h' ms' ⟨m', bs', e1, e2, e3⟩ => by subst e2 e3; exact k m' bs' e1
end
end Go.Eng
namespace Go.Eng
open Go.RowKit
variable {s : Ay} {h : Hp} {o : Oper} {P : Program} {ms : List Hp} {listed : Array Bool}
def WN (ops : Array Oper) (listed : Array Bool) (j d : Nat) (oj : Oper) : Prop :=
  ∀ i oi, i ≠ j → listed[i]? = some false → ops[i]? = some oi → oi.dst ≠ some d ∧ (∀ t, oi.dst = some t → t ∉ oj.looksAt ops) ∧ (d ∈ oi.looksAt ops → ∃ e ∈ oi.after, Region.binds .any e = true ∧ e.on = j) ∧ ∀ cs b, oi.op ≠ .select cs b
def QD : Op → Bool
  | .select .. => false
  | _ => true
theorem IM {o : Op} (h : QD o = true) : ∀ cs b, o ≠ .select cs b := fun cs b e => by rw [e] at h; cases h
def VO (ops : Array Oper) (L : List Nat) (j d : Nat) (oi : Oper) : Bool :=
  (match oi.dst with | none => true | some t => !(t == d) && !(L.contains t)) && (!((oi.looksAt ops).contains d) || oi.after.any (fun e => Region.binds .any e && e.on == j)) && QD oi.op
def Wn (ops : Array Oper) (listed : Array Bool) (j d : Nat) : Bool :=
  match ops[j]? with
  | none => false
  | some oj => (oj.dst == some d) && QD oj.op && (Region.ready .any ops listed).contains j && (List.range ops.size).all fun i => i == j || listed.getD i true || match ops[i]? with
    | none => true
    | some oi => VO ops (oj.looksAt ops) j d oi
theorem K8 {ops : Array Oper} {j d : Nat} (h : Wn ops listed j d = true) : ∃ oj, ops[j]? = some oj ∧ oj.dst = some d ∧ (∀ cs b, oj.op ≠ .select cs b) ∧ j ∈ Region.ready .any ops listed ∧ WN ops listed j d oj := by
  unfold Wn at h
  split at h
  · cases h
  · rename_i oj hoj
    simp only [Bool.and_eq_true, List.all_eq_true, List.contains_iff_mem, beq_iff_eq] at h
    obtain ⟨⟨⟨h2, h3⟩, h4⟩, h5⟩ := h
    refine ⟨oj, hoj, h2, IM h3, h4, fun i oi hi hl ho => ?_⟩
    have := h5 i (List.mem_range.2 (Array.getElem?_eq_some_iff.1 ho).1)
    simp only [ho, Bool.or_eq_true, beq_iff_eq] at this
    rcases this with (h6 | h6) | h6
    · exact absurd h6 hi
    · rw [Array.getD_eq_getD_getElem?, hl] at h6; cases h6
    · unfold VO at h6
      simp only [Bool.and_eq_true] at h6
      obtain ⟨⟨h7, h8⟩, h9⟩ := h6
      refine ⟨fun e => ?_, fun t ht hm => ?_, fun hm => ?_, IM h9⟩
      · rw [e] at h7; simp at h7
      · rw [ht] at h7; simp at h7; exact h7.2 hm
      · simp only [Bool.or_eq_true] at h8
        rcases h8 with h8 | h8
        · simp at h8; exact absurd hm h8
        · simp only [Array.any_eq_true', List.any_eq_true, Bool.and_eq_true, beq_iff_eq] at h8
          obtain ⟨e, he, h10, h11⟩ := h8
          exact ⟨e, he, h10, h11⟩
theorem RK {ops : Array Oper} {s' : Ay} {v : Value} (hsel : ∀ cs b, o.op ≠ .select cs b) (hs : ∀ t ∈ o.looksAt ops, ∀ u, lk s t = some u → lk s' t = some u) (k : OX P o s h [] v) : OX P o s' h [] v := fun ρ w hρ hw => by
  classical
  unfold OpRes
  rw [execOp_congr (ρ := ρ) (ρ' := fun x => if x ∈ o.op.operands then ρ x else (ev s x).getD undef) o hsel (fun x hx => (if_pos hx).symm)]
  refine k _ w (fun x u hu => ?_) hw
  show (if x ∈ o.op.operands then ρ x else (ev s x).getD undef) = u
  split
  · rename_i hx
    cases x with
    | tmp t => exact hρ _ _ (hs t (List.mem_append_left _ (List.mem_filterMap.2 ⟨.tmp t, by simpa using hx, rfl⟩)) u hu)
    | const v => exact hρ _ _ hu
    | global g => exact hρ _ _ hu
    | func f => exact hρ _ _ hu
  · rw [hu]; rfl
theorem Oper.wp_sim2 {z : Ay} {a : Act} {w : World} {K K' : Act → World → Prop} {Qb Qc : Exit → Act → World → Prop} (hq : ∀ x a w, Qb x a w → x = .normal) (hlo : ¬ LetsOut Qb) (hx : execOp (zA z a).eval o = execOp a.eval o) (hd : ∀ t, o.dst = some t → lk z t = none) (hK : ∀ b w v, b.tmps = (a.put o.dst v).tmps → K' (zA z b) w → K b w)
    (h : o.wp P (zA z a) w K' Qb) : o.wp P a w K Qc := by
  unfold Oper.wp at *
  rw [hx] at h
  generalize (execOp a.eval o).run P w = r at *
  have hv : ∀ v w, K' ((zA z a).put o.dst v) w → K (a.put o.dst v) w := fun v w hh => hK _ _ v rfl (by rw [E2 hd]; exact hh)
  cases r with
  | ok n w' =>
    cases n <;> simp only [Oper.upon] at h ⊢ <;>
      first
        | exact hv _ _ h
        | exact Calls.mono h (fun e w'' he => by
            cases e
            · exact hv _ _ he
            · exact absurd (hq _ _ _ he) (by simp)
            · exact absurd he hlo)
        | exact Rows.mono h (fun _ _ he => hv _ _ he)
        | exact hK _ _ undef (by cases o.dst <;> rfl) (by rw [E2 hd]; exact h)
  | halt x w' => cases x <;> simp only [Oper.upon] at h ⊢ <;> first | exact h | exact absurd (hq _ _ _ h) (by simp)
theorem OX.at {h0 : Hp} {v : Value} (k : OX P o s h0 [] v) (hl : h0.le h) : OX P o s h ms v := fun ρ w hρ hw =>
  k ρ w hρ ⟨fun g o e => hw.imm g o (hl g o e), fun m hm => by simp at hm, fun m hm => by simp at hm, List.Pairwise.nil⟩
def GK (ops : Array Oper) (oj : Oper) (s : Ay) : Prop := oj.guard = none ∨ ∃ k b ok dk, oj.guard = some (k, b) ∧ ops[k]? = some ok ∧ ok.dst = some dk ∧ lk s dk = some (.bool b)
theorem GK.mono {ops : Array Oper} {oj : Oper} {s' : Ay} (h : GK ops oj s) (hs : ∀ t ∈ oj.looksAt ops, ∀ u, lk s t = some u → lk s' t = some u) : GK ops oj s' := by
  rcases h with h | ⟨k, b, ok, dk, h1, h2, h3, h4⟩
  · exact .inl h
  · refine .inr ⟨k, b, ok, dk, h1, h2, h3, hs dk ?_ _ h4⟩
    unfold Oper.looksAt
    refine List.mem_append_right _ ?_
    simp [h1, h2, h3]
section
variable {e : Entry} {ops : Array Oper} {Q : Exit → Act → World → Prop} {h0 : Hp} {j d : Nat} {v : Value} {oj : Oper}
theorem Ur {rest : List Oper} {Q : Exit → Act → World → Prop} (hG : GK ops oj s) (hx : OX e.P oj s h ms v) (hd : oj.dst = some d) (hn : Nat.blt d e.n = true) (k : WL e ops Q rest ((d, v) :: s) h ms) : WL e ops Q (oj :: rest) s h ms := by
  rcases hG with h | ⟨q, b, ok, dk, h1, h2, h3, h4⟩
  · exact VM hx hd hn h k
  · exact Um hx hd hn h1 h2 h3 h4 k
theorem Up (hoj : ops[j]? = some oj) (hdj : oj.dst = some d) (hd : d < e.n) (hsel : ∀ cs b, oj.op ≠ .select cs b) :
    ∀ n listed s s1 h ms, h0.le h → j ∈ Region.ready .any ops listed → WN ops listed j d oj → (∀ t u, lk s1 t = some u → lk ((d, v) :: s) t = some u) → GK ops oj s → OX e.P oj s h0 [] v → WB e ops Q h0 n (listed.setIfInBounds j true) s1 h ms → WB e ops Q h0 (n + 1) listed s h ms := by
  intro n
  induction n with
  | zero =>
    intro listed s s1 h ms hle hj hF hs hG hx H
    refine ⟨fun hr => (by rw [hr] at hj; cases hj), fun i hi => ?_⟩
    by_cases hij : i = j
    · subst hij
      exact ⟨oj, hoj, Ur hG (hx.at hle) hdj (Nat.ble_eq_true_of_le hd) (Ak fun a w ha hw => ⟨rfl, s1, h, ms, ⟨ha.defers, ha.size, fun t u hu => ha.slots t u (hs t u hu)⟩, hw, hle, H⟩)⟩
    · obtain ⟨h1', o, ho, hall⟩ := mem_ready.1 hi
      have h1 := Be h1'
      have : i ∈ Region.ready .any ops (listed.setIfInBounds j true) := mem_ready.2 ⟨by rw [getD_set_ne _ (Ne.symm hij)]; exact h1', o, ho, fun e he hb => by
        have := hall e he hb
        by_cases hej : j = e.on
        · rw [← hej]; have hlt := (Array.getElem?_eq_some_iff.1 (Be (mem_ready.1 hj).1)).1; simp [hlt]
        · rw [getD_set_ne _ hej]; exact this⟩
      rw [H.1] at this; cases this
  | succ n ih =>
    intro listed s s1 h ms hle hj hF hs hG hx H
    refine ⟨fun hr => (by rw [hr] at hj; cases hj), fun i hi => ?_⟩
    by_cases hij : i = j
    · subst hij
      exact ⟨oj, hoj, Ur hG (hx.at hle) hdj (Nat.ble_eq_true_of_le hd) (Ak fun a w ha hw => ⟨rfl, s1, h, ms, ⟨ha.defers, ha.size, fun t u hu => ha.slots t u (hs t u hu)⟩, hw, hle, H⟩)⟩
    · obtain ⟨h1', o, ho, hall⟩ := mem_ready.1 hi
      have h1 := Be h1'
      have hjl := Be (mem_ready.1 hj).1
      have hjlt := (Array.getElem?_eq_some_iff.1 hjl).1
      have hr' : i ∈ Region.ready .any ops (listed.setIfInBounds j true) := mem_ready.2 ⟨by rw [getD_set_ne _ (Ne.symm hij)]; exact h1', o, ho, fun e he hb => by
        have := hall e he hb
        by_cases hej : j = e.on
        · rw [← hej]; simp [hjlt]
        · rw [getD_set_ne _ hej]; exact this⟩
      obtain ⟨f1, f2, f3, f4⟩ := hF i o hij h1 ho
      have f3' : d ∉ o.looksAt ops := fun hm => by
        obtain ⟨e, he, hb, hon⟩ := f3 hm
        have := hall e he hb
        rw [hon, Array.getD_eq_getD_getElem?, hjl] at this; cases this
      obtain ⟨o', ho', HW⟩ := H.2 i hr'
      rw [ho] at ho'; cases ho'
      refine ⟨o, ho, fun a w ha hw => ?_⟩
      have hza : ∀ (b : Act) t, t ≠ d → (zA [(d, v)] b).tmps[t]? = b.tmps[t]? := fun b t ht => by
        rw [DY, Bq _ _ (Ne.symm ht)]; cases b.tmps[t]? <;> rfl
      have hzd : ∀ (b : Act), d < b.tmps.size → (zA [(d, v)] b).tmps[d]? = some v := fun b hb => by
        rw [DY, Bt]; simp [hb]
      have haz : Has e.n e.ds (zA [(d, v)] a) s1 := ⟨ha.defers, by simp [zA, ha.size], fun t u hu => by
        have := hs t u hu
        by_cases htd : d = t
        · subst htd; rw [Bt] at this; cases this; exact hzd a (by rw [ha.size]; exact hd)
        · rw [Bq _ _ htd] at this; rw [hza a t (Ne.symm htd)]; exact ha.slots t u this⟩
      have H' := HW (zA [(d, v)] a) w haz hw
      unfold wpList at H' ⊢
      have hsame : ∀ t ∈ o.looksAt ops, (zA [(d, v)] a).tmps[t]? = a.tmps[t]? := fun t ht => hza a t (fun e' => f3' (e' ▸ ht))
      have hx' : execOp (zA [(d, v)] a).eval o = execOp a.eval o := execOp_congr o f4 fun x hx => by
        cases x with
        | tmp t =>
          have := hsame t (List.mem_append_left _ (List.mem_filterMap.2 ⟨.tmp t, by simpa using hx, rfl⟩))
          simp only [Act.eval]
          rw [Array.getD_eq_getD_getElem?, this, ← Array.getD_eq_getD_getElem?]
        | const v => rfl
        | global g => rfl
        | func f => rfl
      have hwant : Region.wanted o (yielded ops (zA [(d, v)] a).tmps) = Region.wanted o (yielded ops a.tmps) := by
        unfold Region.wanted
        cases hg : o.guard with
        | none => rfl
        | some p =>
          obtain ⟨k, b⟩ := p
          have : yielded ops (zA [(d, v)] a).tmps k = yielded ops a.tmps k := by
            unfold yielded
            cases hd : (ops[k]?).bind (·.dst) with
            | none => rfl
            | some t =>
              have ht : t ∈ o.looksAt ops := by
                unfold Oper.looksAt
                refine List.mem_append_right _ ?_
                simp only [hg]
                rw [hd]; simp
              simp [hd, hsame t ht]
          simp only [this]
      rw [hwant] at H'
      have hdz : ∀ t, o.dst = some t → lk [(d, v)] t = none := fun t ht => by
        rw [Bq _ _ (fun e' => f1 (by rw [ht, e']))]; rfl
      have hnext : ∀ b w v', b.tmps = (a.put o.dst v').tmps → (QB e ops Q h0 n ((listed.setIfInBounds j true).setIfInBounds i true)) .normal (zA [(d, v)] b) w → (QB e ops Q h0 (n + 1) (listed.setIfInBounds i true)) .normal b w := fun b w v' hbt hh => by
        obtain ⟨-, s', h', ms', g1, g2, g3, g4⟩ := hh
        have hbget : ∀ t, o.dst ≠ some t → b.tmps[t]? = a.tmps[t]? := fun t ht => by
          rw [hbt]
          cases hd : o.dst with
          | none => rfl
          | some d' =>
            have : d' ≠ t := fun e' => ht (by rw [hd, e'])
            simp only [Act.put, Array.getElem?_setIfInBounds_ne this]
        have hbs : b.tmps.size = a.tmps.size := by rw [hbt]; cases o.dst <;> simp [Act.put]
        have hbn : b.tmps.size = e.n := by rw [hbs, ha.size]
        let L := oj.looksAt ops
        have hlf : ∀ (p : Nat → Bool) (s : Ay) t, lk (s.filter (fun x => p x.1)) t = if p t = true then lk s t else none := by
          intro p s t
          induction s with
          | nil => simp [lk]
          | cons x s ih =>
            obtain ⟨y, u⟩ := x
            by_cases hy : p y = true
            · rw [List.filter_cons_of_pos (by exact hy)]
              by_cases hyt : y = t
              · subst hyt; rw [Bt, Bt, if_pos hy]
              · rw [Bq _ _ hyt, Bq _ _ hyt, ih]
            · rw [List.filter_cons_of_neg (by exact hy), ih]
              by_cases hyt : y = t
              · subst hyt; rw [if_neg hy, if_neg hy]
              · rw [Bq _ _ hyt]
        let sL := s.filter (fun x => L.contains x.1)
        let sR := s'.filter (fun x => !(x.1 == d))
        have hL : ∀ t u, lk sL t = some u → t ∈ L ∧ lk s t = some u := fun t u hu => by
          rw [hlf (fun t => L.contains t)] at hu
          split at hu
          · rename_i hc; exact ⟨List.contains_iff_mem.1 hc, hu⟩
          · cases hu
        have hLb : ∀ t u, lk sL t = some u → b.tmps[t]? = some u := fun t u hu => by
          obtain ⟨k1, k2⟩ := hL t u hu
          rw [hbget t (fun e' => f2 t e' k1)]
          exact ha.slots t u k2
        have hR : ∀ t, t ≠ d → lk sR t = lk s' t := fun t ht => by
          rw [hlf (fun t => !(t == d))]; simp [ht]
        have hRd : lk sR d = none := by rw [hlf (fun t => !(t == d))]; simp
        have hb' : ∀ t u, t ≠ d → lk s' t = some u → b.tmps[t]? = some u := fun t u ht hu => by
          rw [← hza b t ht]; exact g1.slots t u hu
        refine ⟨rfl, sL ++ sR, h', ms', ⟨g1.defers, hbn, fun t u hu => ?_⟩, g2, g3, ?_⟩
        · rw [B9] at hu
          cases hl : lk sL t with
          | some u' => rw [hl] at hu; cases hu; exact hLb t _ hl
          | none =>
            rw [hl] at hu
            have htd : t ≠ d := fun e' => by subst e'; simp only [Option.none_or] at hu; rw [hRd] at hu; cases hu
            simp only [Option.none_or] at hu
            rw [hR t htd] at hu; exact hb' t u htd hu
        · refine ih (listed.setIfInBounds i true) (sL ++ sR) s' h' ms' g3 ?_ ?_ ?_ ?_ ?_ (by rw [Array.setIfInBounds_comm _ _ hij]; exact g4)
          · obtain ⟨_, oj', hoj', hall'⟩ := mem_ready.1 hj
            refine mem_ready.2 ⟨by rw [getD_set_ne _ hij]; exact (mem_ready.1 hj).1, oj', hoj', fun ed he hb => ?_⟩
            have := hall' ed he hb
            by_cases hei : i = ed.on
            · rw [← hei]; have := (Array.getElem?_eq_some_iff.1 h1).1; simp [this]
            · rw [getD_set_ne _ hei]; exact this
          · intro k ok hk hl hok
            refine hF k ok hk ?_ hok
            by_cases hki : i = k
            · subst hki; have := (Array.getElem?_eq_some_iff.1 h1).1; simp [this] at hl
            · rw [Array.getElem?_setIfInBounds_ne hki] at hl; exact hl
          · intro t u hu
            by_cases htd : d = t
            · subst htd
              have k1 := g1.slots _ u hu
              rw [hzd b (by rw [hbn]; exact hd)] at k1
              rw [Bt]; exact k1
            · rw [Bq _ _ htd, B9]
              cases hl : lk sL t with
              | some u' =>
                have k1 := hLb t u' hl
                rw [hb' t u (Ne.symm htd) hu] at k1
                simpa using k1.symm
              | none => rw [hR t (Ne.symm htd)]; simpa using hu
          · have hlk : ∀ t ∈ oj.looksAt ops, ∀ u, lk s t = some u → lk (sL ++ sR) t = some u := fun t ht u hu => by
              rw [B9]
              have : lk sL t = some u := by rw [hlf (fun t => L.contains t), if_pos (List.contains_iff_mem.2 ht)]; exact hu
              rw [this]; rfl
            exact hG.mono hlk
          · refine RK (ops := ops) hsel (fun t ht u hu => ?_) hx
            rw [B9]
            have : lk sL t = some u := by rw [hlf (fun t => L.contains t), if_pos (List.contains_iff_mem.2 ht)]; exact hu
            rw [this]; rfl
      split
      · rename_i hw'
        rw [if_pos hw'] at H'
        rcases H' with H' | ⟨_, H'⟩
        · exact .inl (Oper.wp_sim2 (fun x a w h => h.1) KB hx' hdz (fun b w v hb hh => hnext b w v hb hh) H')
        · exact absurd H' KB
      · rename_i hw'
        rw [if_neg hw'] at H'
        exact hnext _ _ undef rfl (by rw [E2 hdz]; exact H')
theorem An {n : Nat} (j d : Nat) (hF : Wn ops listed j d = true) (hoj : ops[j]? = some o) (hle : h0.le h) (hn : Nat.blt d e.n = true) (hx : OX e.P o s h0 [] v) (k : WB e ops Q h0 n (listed.setIfInBounds j true) ((d, v) :: s) h ms) (hg : o.guard = none := by rfl) : WB e ops Q h0 (n + 1) listed s h ms := by
  obtain ⟨oj, g1, g3, g4, g5, g6⟩ := K8 hF
  rw [hoj] at g1; cases g1
  exact Up hoj g3 (Nat.le_of_ble_eq_true hn) g4 n listed s _ h ms hle g5 g6 (fun t u hu => hu) (.inl hg) hx k
theorem BH {n : Nat} (j d : Nat) {ok : Oper} {q dk : Nat} {b : Bool} (hF : Wn ops listed j d = true) (hoj : ops[j]? = some o) (hg : o.guard = some (q, b)) (hq : ops[q]? = some ok) (hdk : ok.dst = some dk) (hv : lk s dk = some (.bool b)) (hle : h0.le h) (hn : Nat.blt d e.n = true) (hx : OX e.P o s h0 [] v) (k : WB e ops Q h0 n (listed.setIfInBounds j true) ((d, v) :: s) h ms) : WB e ops Q h0 (n + 1) listed s h ms := by
  obtain ⟨oj, g1, g3, g4, g5, g6⟩ := K8 hF
  rw [hoj] at g1; cases g1
  exact Up hoj g3 (Nat.le_of_ble_eq_true hn) g4 n listed s _ h ms hle g5 g6 (fun t u hu => hu) (.inr ⟨q, b, ok, dk, hg, hq, hdk, hv⟩) hx k
end
theorem Hp.disj_le {a b a' : Hp} (h : a.disj b) (hl : a'.le a) : a'.disj b := fun g => by
  cases h1 : a' g with
  | none => exact .inl rfl
  | some o =>
    rcases h g with h2 | h2
    · rw [hl g o h1] at h2; cases h2
    · exact .inr h2
theorem Cz {f : FuncId} {args : Array Value} {m : Hp} {post : Value → Hp → List Hp → Prop} (hm : m.le h) (k : FnT P f args (h.minus m) [] post) :
    FnT P f args h [] (fun r h' ms' => h.le h' ∧ ∃ h1, h1.le h' ∧ h1.disj m ∧ (h.minus m).le h1 ∧ post r h1 ms') := fun w hw => by
  have hmw : ∀ g o, m g = some o → g < w.heap.size := fun g o e => (Array.getElem?_eq_some_iff.1 (hw.imm g o (hm g o e))).1
  refine (k w ⟨fun g o e => hw.imm g o (Hp.minus_le h m g o e), fun m hm => by simp at hm, fun m hm => by simp at hm, List.Pairwise.nil⟩).mono fun x w' ⟨r, h1, ms', e1, e2, e3⟩ => ?_
  have hmin : ∀ g, (m g = none ∧ h.minus m g = h g) ∨ ∃ o, m g = some o ∧ h g = some o ∧ h.minus m g = none := fun g => by
    cases hg : m g with
    | none => exact .inl ⟨rfl, by unfold Hp.minus; rw [hg]⟩
    | some o => exact .inr ⟨o, rfl, hm g o hg, by unfold Hp.minus; rw [hg]⟩
  have h1m : ∀ g, (m g = none) ∨ ∃ o, m g = some o ∧ h g = some o ∧ h1 g = none := fun g => by
    rcases hmin g with ⟨h2, _⟩ | ⟨o, h2, h3, h4⟩
    · exact .inl h2
    · exact .inr ⟨o, h2, h3, by rw [e2.hnew g (hmw g o h2) (by simp)]; exact h4⟩
  have hd : h1.disj m := fun g => by
    rcases h1m g with h2 | ⟨o, _, _, h2⟩
    · exact .inr h2
    · exact .inl h2
  have hjm : ∀ g o, m g = some o → (h1.join m) g = some o := fun g o e => Hp.le_joinr hd g o e
  have hle : h.le (h1.join m) := fun g o e => by
    rcases hmin g with ⟨h2, h3⟩ | ⟨o', h2, h3, _⟩
    · exact Hp.le_joinl g o (e2.le g o (h3.trans e))
    · rw [e] at h3; cases h3; exact hjm g o h2
  have hlt : ∀ m' ∈ ms', m'.disj m := fun m' hm' g => by
    cases h2 : m g with
    | none => exact .inr rfl
    | some o =>
      left
      cases h3 : m' g with
      | none => rfl
      | some o' =>
        obtain ⟨m0, h4, _⟩ := e2.mnew m' hm' g (hmw g o h2) (by rw [h3]; simp)
        simp at h4
  refine ⟨r, h1.join m, ms', e1, ⟨⟨fun g o e => ?_, e2.st.own, fun m' hm' => ?_, e2.st.apart⟩, e2.os, e2.tape, e2.output, e2.size, e2.block, hle, fun g hg hn => ?_, e2.mnew⟩, hle, h1, Hp.le_joinl, hd, e2.le, e3⟩
  · cases h2 : m g with
    | none =>
      have h3 : (h1.join m) g = h1 g := by unfold Hp.join; cases h1 g <;> simp [h2]
      rw [h3] at e
      exact e2.st.imm g o e
    | some o' =>
      rw [hjm g o' h2] at e; cases e
      rw [e2.block g (hmw g o h2) (by simp)]
      exact hw.imm g o (hm g o h2)
  · exact Hp.disj_symm (Hp.disj_join (Hp.disj_symm (e2.st.off m' hm')) (Hp.disj_symm (hlt m' hm')))
  · rcases hmin g with ⟨h2, h3⟩ | ⟨o, h2, h3, h4⟩
    · have h5 : (h1.join m) g = h1 g := by unfold Hp.join; cases h1 g <;> simp [h2]
      rw [h5, e2.hnew g hg (by simp), h3]
    · rw [hjm g o h2, h3]
end Go.Eng
namespace Go.Eng
open Go.RowKit
theorem QS (g k : Nat) : (⟨g, 0, none⟩ : Addr).add k = ⟨g, k, none⟩ := by
  unfold Addr.add; split <;> simp_all
theorem KG {α : Type} {F : α → List Value} {sz : Nat} (hF : ∀ x, (F x).length = sz) {l : List α} {j : Nat} (hj : j < l.length) (a : α) : (l.flatMap F).take (j * sz) ++ F a ++ (l.flatMap F).drop (j * sz + sz) = (l.set j a).flatMap F := by
  have e : j * sz + sz = (j + 1) * sz := by rw [Nat.add_mul, Nat.one_mul]
  rw [e, Fl hF, D7 hF, List.set_eq_take_append_cons_drop, if_pos hj, List.flatMap_append, List.flatMap_cons, List.append_assoc]
section
variable {e : Entry} {Q : Exit → Act → World → Prop} {ops : Array Oper} {rest : List Oper} {o : Oper} {s : Ay} {h : Hp} {ms : List Hp} {α : Type} {F : α → List Value} {l : List α} {v : Value} {m : Hp} {el : TypeId} {sz : Nat}
theorem M2 {t : TypeId} {x y : Operand} {u z : Value} {bytes : Nat} (i j : Nat) (a : α) (O : OwnL F sz el m v l) (ho : o.op = .store t x y) (hs : Elem e.P t sz z bytes) (hx : ev s x = some (.pointer (some ((Bl v).add (j * sz))))) (hy : ev s y = some u) (hv : u.cells = (F a).toArray) (h1 : ∀ c ∈ F a, c.oneCell' = true)
    (hm : ms[i]? = some m) (hj : j < l.length) (hd : o.dst = none) (hg : o.guard = none)
    (K : ∀ m', OwnL F sz el m' v (l.set j a) → WL e ops Q rest s h (ms.set i m')) : WL e ops Q (o :: rest) s h ms := by
  obtain ⟨⟨h2, h3⟩, hF⟩ := O
  rcases h3 with ⟨rfl, h4, rfl⟩ | ⟨g, cap, spare, rfl, rfl, e1, e2, e3⟩
  · rw [h4] at hj; simp at hj
  · have hle : (j + 1) * sz ≤ l.length * sz := Nat.mul_le_mul_right sz hj
    have hjs : j * sz + sz = (j + 1) * sz := by rw [Nat.add_mul, Nat.one_mul]
    have hFa := hF a
    refine Jp (post := fun _ h' ms' => h' = h ∧ ms' = ms.set i (AX g el ((l.set j a).flatMap F ++ spare))) (fun ρ w hρ hw => ?_) hd hg fun _ _ _ ⟨e4, e5⟩ => ?_
    · have hgw : w.heap[g]? = some (.cells (l.flatMap F ++ spare).toArray el (0, 0)) := hw.st.own _ (List.mem_of_getElem? hm) g _ (Hp.one_self _ _)
      have hst := run_storeCells_at (P := e.P) g (j * sz) el (F a) 0 _ w hgw (by simp only [List.size_toArray, List.length_append]; omega) h1
      have hadd : (Bl (.slice (some ⟨g, 0, none⟩) l.length cap)).add (j * sz) = ⟨g, j * sz, none⟩ := by
        show (⟨g, 0, none⟩ : Addr).add (j * sz) = _
        exact QS g (j * sz)
      have hrow : (l.flatMap F ++ spare).take (j * sz) ++ F a ++ (l.flatMap F ++ spare).drop (j * sz + sz) = (l.set j a).flatMap F ++ spare := by
        rw [List.take_append_of_le_length (by omega), List.drop_append_of_le_length (by omega), ← List.append_assoc, KG hF hj]
      have : (execOp ρ o).run e.P w = .ok .skip (w.setRow g ((l.set j a).flatMap F ++ spare).toArray) := by
        simp [execOp, ho, hρ _ _ hx, hρ _ _ hy, Instr.storeAt, Instr.sureAddr, storeVar, hs.sizeOf, hv, hFa, hadd]
        simp at hst
        rw [hFa] at hst
        rw [hst, ← List.append_assoc, hrow]; rfl
      unfold OpRes; rw [this]
      exact ⟨h, _, Ends.put hw hm rfl ⟨rfl, Nat.le_refl _⟩ rfl (by simp) (setRow_heap w g _ _ _ _ hgw) (fun k hk hne => setRow_other w g k _ hne), rfl, rfl⟩
    · subst e4 e5
      refine K _ ⟨⟨?_, .inr ⟨g, cap, spare, by rw [List.length_set], rfl, ?_, by rw [List.length_set]; omega, e3⟩⟩, hF⟩
      · rw [BL hF, List.length_set]
      · rw [List.length_append, BL hF, List.length_set, ← BL hF l, ← List.length_append]; exact e1
end
end Go.Eng
namespace Go.Eng
open Go.RowKit
def VY {ι : Type} (P : Program) (gf : FuncId) (lb : List Value) (h : Hp) (R : ι → List Value → ι → Prop) (i0 : ι) (fin : ι → Prop) : Prop :=
  ∀ (lp : Nat) (X : ι → Hp → List Hp → Prop) (h1 : Hp) (ms : List Hp), h.le h1 → (∀ i vs i' h2 ms2, R i vs i' → h1.le h2 → X i h2 ms2 → Wk P lp vs.toArray h2 ms2 (fun r h' ms' => r = .bool true ∧ X i' h' ms')) → X i0 h1 ms →
    FnT P gf ([Value.func (.yield lp) #[] #[]] ++ lb).toArray h1 ms (fun _ h' ms' => ∃ i, fin i ∧ X i h' ms')
theorem Ns {e : Entry} {ops : Array Oper} {Q : Exit → Act → World → Prop} {rest : List Oper} {s : Ay} {h : Hp} {ms : List Hp} {m : Hp} (k : IL e ops Q rest s h ms) : IL e ops Q rest s h (m :: ms) := fun a w ha hw => k a w ha (Ends.drop hw)
theorem Ph {e : Entry} {Q : Exit → Act → World → Prop} {s : Ay} {h : Hp} {ms pre fr : List Hp} {ops : Array Oper} {o : Oper} {rest : List Oper} {x : Operand} {lp : Nat} {l : List Operand} {ts : Array TypeId} {vs : List Value} {d : Nat} {post : Value → Hp → List Hp → Prop} (hp : ms.Perm (pre ++ fr)) (ho : o.op = .call { callee := .value x, args := l.toArray, argTypes := ts }) (hx : ev s x = some (.func (.yield lp) #[] #[])) (ha : MF s l = some vs) (k : Wk e.P lp vs.toArray h pre post) (hd : o.dst = some d) (hn : Nat.blt d e.n = true) (hg : o.guard = none)
    (K : ∀ v h' ms', h.le h' → post v h' ms' → IL e ops Q rest ((d, v) :: s) h' (ms' ++ fr)) : IL e ops Q (o :: rest) s h ms := fun a w hA hw0 => by
  have hw := Ends.perm hw0 hp
  unfold wpListIn
  rw [if_pos (by simp [Region.wanted, hg])]
  obtain ⟨fn, tmps, assign, body, hy, hr⟩ := k w hw.st.pre
  have hrun : (execOp a.eval o).run e.P w = .ok (.round lp fn tmps assign body) w := by
    simp [execOp, ho, resolve, hA.eval _ _ hx, Deferred.ofValue, invoke, (show Evs s a.eval from hA.eval).map l vs ha, hy]
  refine ⟨fun _ _ => trivial, ?_⟩
  rw [Oper.semAt_eq _ _ _ (fun c e => by rw [ho] at e; cases e), hrun]
  refine ⟨(fun h => by cases h), hr.mono fun x w' ⟨r, h', ms', e1, e2, e3⟩ => ?_⟩
  subst e1
  show wpListIn _ _ _ _ _ _ (a.put o.dst r) w'
  rw [hd]
  exact K r h' ms' e2.le e3 _ _ (hA.put (Nat.le_of_ble_eq_true hn) _) (Ends.call hw e2)
theorem Jc {ι : Type} {e : Entry} {Q : Exit → Act → World → Prop} {s : Ay} {h : Hp} {ms : List Hp} {t gf : Nat} {lb : List Value} {ps : List Nat} {assign body : Code} (J : ι → Hp → List Hp → Prop) (A : ι → List Value → ι → Ay → Hp → List Hp → Prop) {R : ι → List Value → ι → Prop} {i0 : ι} {fin : ι → Prop}
    (hg : lk s t = some (.func (.func gf) #[] lb.toArray)) (hc : ∀ az w, (callFunc gf az).run e.P w = .ok (.enter gf az) w) (hit : VY e.P gf lb h R i0 fin) (hps : ∀ k vs k', R k vs k' → vs.length = ps.length) (hpn : ps.all (fun p => Nat.blt p e.n) = true)
    (h0 : J i0 h ms)
    (hA : ∀ w0 k vs k' h1 ms1, R k vs k' → h.le h1 → J k h1 ms1 → RS ⟨e.P, w0, h1, ms1, e.n, []⟩ assign (RU ⟨e.P, w0, h1, ms1, e.n, []⟩ (A k vs k')) (MU ps vs s) h1 ms1)
    (hB : ∀ w0 k vs k' s1 h1 ms1, R k vs k' → h.le h1 → A k vs k' s1 h1 ms1 → RS ⟨e.P, w0, h1, ms1, e.n, []⟩ body (RU ⟨e.P, w0, h1, ms1, e.n, []⟩ (fun _ => J k')) s1 h1 ms1)
    (hK : ∀ D k h1 ms1, fin k → h.le h1 → J k h1 ms1 → NX ⟨e.P, e.w0, e.h0, e.ms0, e.n, D :: e.ds⟩ Q .normal s h1 (ms1 ++ [Mk D])) :
    WS e (.rangeFunc (.tmp t) ps.toArray assign body) Q s h ms := by
  intro a w ha hw
  refine (wpIn_wide (n := 0)).1 (wpIn_rangeFunc fun fn _ => ?_)
  have hge : a.eval (.tmp t) = .func (.func gf) #[] lb.toArray := ha.eval (.tmp t) _ hg
  obtain ⟨rec, hrec⟩ : ∃ rec : LoopState → Loop, rec = fun st => { state := st, pending := none, fn, tmps := a.tmps, params := ps.toArray, assign, body, defers := w.heap.size } := ⟨_, rfl⟩
  obtain ⟨l, hl⟩ : ∃ l, l = w.heap.size + 1 := ⟨_, rfl⟩
  obtain ⟨W1, hW1⟩ : ∃ W1, (w.alloc (.deferred (some []))).alloc (.loop (rec .ready)) = W1 := ⟨_, rfl⟩
  have hE1 : e.Ends W1 h (ms ++ [Hp.one l (.loop (rec .ready)), Mk w.heap.size]) := by
    have h2 := (hw.alloc (.deferred (some []))).alloc (.loop (rec .ready))
    rw [World.size_alloc, ← hl, hW1] at h2
    exact h2.perm (by
      refine List.Perm.trans ?_ List.perm_append_comm
      exact List.Perm.refl _)
  have hN : w.heap.size = w.heap.size := rfl
  refine ⟨l, [{ target := .collected w.heap.size, args := #[] }], W1, { target := .fn (.func gf) lb.toArray, args := #[.func (.yield l) #[] #[]] }, W1, gf, ([Value.func (.yield l) #[] #[]] ++ lb).toArray, W1, ?_, ?_, fun _ _ => trivial, ?_, (fun h => by cases h), ?_⟩
  · rw [← hW1, hrec, hl]; exact run_enterLoop_outer _ _ _ _ _
  · simp only [resolve, hge]
    simp [go_sem]
  · simp [invoke, go_sem, hc]
  · refine (callsIn_wide (n := 0)).2 ((hit l (fun k h1 ms1 => h.le h1 ∧ ∃ ms2, ms1 = ms2 ++ [Hp.one l (.loop (rec .ready)), Mk w.heap.size] ∧ J k h1 ms2) h _ (Hp.le_refl _) ?_ ⟨Hp.le_refl _, ms, rfl, h0⟩ W1 hE1.st).mono ?_)
    · -- a round
      rintro k vs k' h2 ms2 hkN hl2 ⟨_, ms2, rfl, hJ⟩ w2 hS2
      have hlo : w2.heap[l]? = some (.loop (rec .ready)) := hS2.own _ (by simp) l _ (Hp.one_self _ _)
      have hy := run_yield (P := e.P) (args := vs.toArray) hlo (by rw [hrec]; simpa using hps k vs k' hkN)
      refine ⟨_, _, _, _, hy, ?_⟩
      have r1 : (rec .ready).params = ps.toArray := by rw [hrec]
      have r2 : (rec .ready).tmps = a.tmps := by rw [hrec]
      have r3 : (rec .ready).assign = assign := by rw [hrec]
      have r4 : (rec .ready).body = body := by rw [hrec]
      rw [r1, r2, r3, r4]
      refine roundIn_of_wpIn trivial ?_
      have hSp : St w2 h2 ms2 := hS2.pre
      have hHas : Has e.n [] { tmps := (ps.toArray.zip vs.toArray).foldl (fun t (p, v) => t.setIfInBounds p v) a.tmps, defers := [] } (MU ps vs s) := by
        have e1 : (ps.toArray.zip vs.toArray).foldl (fun t (p, v) => t.setIfInBounds p v) a.tmps = (ps.zip vs).foldl (fun t (p, v) => t.setIfInBounds p v) a.tmps := by simp
        rw [e1]
        exact Kd rfl ps vs s a.tmps (fun p hp => Nat.le_of_ble_eq_true (List.all_eq_true.1 hpn p hp)) ⟨rfl, ha.size, ha.slots⟩
      refine wpIn_mono (hA w2 k vs k' h2 ms2 hkN hl2 hJ l _ w2 hHas (Ends.refl hSp) Ic) ?_
      intro x a1 w3 hx
      cases x with
      | normal =>
        obtain ⟨s3, h3, ms3, hA3, hHas3, hE3⟩ := hx
        have hEf : Ends w2 h2 (ms2 ++ [Hp.one l (.loop (rec .ready)), Mk w.heap.size]) w3 h3 (ms3 ++ [Hp.one l (.loop (rec .ready)), Mk w.heap.size]) := Ends.call (Ends.refl hS2) hE3
        have hEp := hEf.perm (ms' := Hp.one l (.loop (rec .ready)) :: Mk w.heap.size :: ms3) List.perm_append_comm
        have hl3 : w3.heap[l]? = some (.loop (rec .ready)) := hEp.st.own _ (List.mem_cons_self) l _ (Hp.one_self _ _)
        have hE4 := Ends.putL (.loop (rec .busy)) hEp
        refine ⟨_, run_beginRound hl3 (by rw [hrec]), ?_⟩
        have e2 : ({ rec .ready with state := .busy } : Loop) = rec .busy := by rw [hrec]
        rw [e2]
        have hE4' := hE4.perm (ms' := ms3 ++ [Hp.one l (.loop (rec .busy)), Mk w.heap.size]) (List.perm_append_comm (l₁ := [_, _]))
        refine wpIn_mono (hB _ k vs k' s3 h3 ms3 hkN (Hp.le_trans hl2 hE3.le) hA3 l a1 _ hHas3 (Ends.refl hE4'.st.pre) Ic) ?_
        intro y a2 w5 hy5
        cases y with
        | normal =>
          obtain ⟨s5, h5, ms5, hJ5, _, hE5⟩ := hy5
          have hE6 := Ends.call hE4' hE5
          have hE6p := hE6.perm (ms' := Hp.one l (.loop (rec .busy)) :: Mk w.heap.size :: ms5) List.perm_append_comm
          have hl6 : w5.heap[l]? = some (.loop (rec .busy)) := hE6p.st.own _ (List.mem_cons_self) l _ (Hp.one_self _ _)
          refine ⟨_, _, run_endRound none hl6, ?_⟩
          have e3 : ({ rec .busy with state := if (none : Option Code).isNone then .ready else .done, pending := none } : Loop) = rec .ready := by rw [hrec]; rfl
          rw [e3]
          exact ⟨_, h5, _, rfl, (Ends.putL (.loop (rec .ready)) hE6p).perm (List.perm_append_comm (l₁ := [_, _])), rfl, Hp.le_trans hl2 (Hp.le_trans hE3.le hE5.le), ms5, rfl, hJ5⟩
        | _ => exact hy5.elim
      | _ => exact hx
    · rintro x w3 ⟨r, h3, ms3, rfl, hE3, kf, hfin, hl3, ms4, rfl, hJ⟩
      have hE4 := Ends.call (fr := []) (by rw [List.append_nil]; exact hE1) hE3
      rw [List.append_nil] at hE4
      have hE5 := hE4.perm (ms' := Hp.one l (.loop (rec .ready)) :: Mk w.heap.size :: ms4) List.perm_append_comm
      have hl5 : w3.heap[l]? = some (.loop (rec .ready)) := hE5.st.own _ (List.mem_cons_self) l _ (Hp.one_self _ _)
      refine ⟨_, _, run_endLoop hl5 (by rw [hrec]; simp), ?_⟩
      have e4 : (rec .ready).pending = none := by rw [hrec]
      rw [e4]
      exact hK w.heap.size kf h3 ms4 hfin hl3 hJ { a with defers := [{ target := .collected w.heap.size, args := #[] }] ++ a.defers } _ ⟨by show [_] ++ a.defers = _; rw [ha.defers]; rfl, ha.size, ha.slots⟩ ((Ends.putL _ hE5).drop.perm (List.perm_append_comm (l₁ := [_])))
section
variable {κ ν : Type} [DecidableEq κ] {K : κ → Value} {V : ν → Value} {Ok : κ → Prop} {P : Program} {t : TypeId} {gi g : Nat} {m mi : Hp} {T : List (κ × ν)} {bs vis : List Nat}
variable {o : Oper} {s : Ay} {h : Hp} {ms : List Hp} {e : Entry} {Q : Exit → Act → World → Prop} {ops : Array Oper} {rest : List Oper}
theorem Pu {x : Operand} {d : Nat} {kt et : TypeId} (O : DI K V g Ok m T bs) (hm : m.le h) (ho : o.op = .range t x) (ht : e.P.underlying t = some (.map kt et)) (hx : ev s x = some (.map (some g))) (hd : o.dst = some d) (hn : Nat.blt d e.n = true) (hg : o.guard = none)
    (k : ∀ gi mi, IW gi g m mi bs [] → WL e ops Q rest ((d, .pointer (some ⟨gi, 0, none⟩)) :: s) h (mi :: ms)) : WL e ops Q (o :: rest) s h ms :=
  G6 (post := fun v h' ms' => ∃ gi mi, IW gi g m mi bs [] ∧ v = .pointer (some ⟨gi, 0, none⟩) ∧ h' = h ∧ ms' = mi :: ms) (fun ρ w hρ hw => by
    obtain ⟨es, clock, rfl, he, hb⟩ := O.ex
    have hgw : w.heap[g]? = some (.map es clock) := hw.st.imm g _ (hm g _ (Hp.one_self _ _))
    have hrun : (execOp ρ o).run e.P w = .ok (.value (.pointer (some ⟨w.heap.size, 0, none⟩))) (w.alloc (.mapIter (some g) clock #[] clock)) := by
      simp only [execOp, ho, hρ _ _ hx, Instr.range, Sem.run_bind, run_underlying ht, Result.andThen_ok, getObj, Sem.run_pure]
      simp [Sem.run, hgw, Result.andThen, newObj]
    unfold OpRes; rw [hrun]
    exact ⟨h, _, Ends.alloc hw _, _, _, ⟨⟨es, clock, clock, #[], clock, rfl, rfl, hb, Nat.le_refl _, Nat.le_refl _, rfl, fun h => absurd rfl h⟩, by simp, List.Pairwise.nil⟩, rfl, rfl, rfl⟩) hd hn hg fun v h' ms' ⟨gi, mi, e1, e2, e3, e4⟩ => by subst e2 e3 e4; exact k gi mi e1
theorem RG {x : Operand} {d : Nat} (i : Nat) (O : DI K V g Ok m T bs) (I : IW gi g m mi bs vis) (hm : m.le h) (hi : ms[i]? = some mi) (ho : o.op = .next x false) (hx : ev s x = some (.pointer (some ⟨gi, 0, none⟩))) (hd : o.dst = some d) (hn : Nat.blt d e.n = true) (hg : o.guard = none)
    (k0 : (∀ j, j < T.length → j ∈ vis) → WL e ops Q rest ((d, .tuple #[.bool false]) :: s) h ms)
    (k1 : ∀ (j : Nat) (hj : j < T.length) (mi' : Hp), j ∉ vis → IW gi g m mi' bs (vis ++ [j]) → WL e ops Q rest ((d, .tuple #[.bool true, K T[j].1, V T[j].2]) :: s) h (ms.set i mi')) : WL e ops Q (o :: rest) s h ms :=
  G6 (post := fun v h' ms' => (v = .tuple #[.bool false] ∧ h' = h ∧ ms' = ms ∧ ∀ j, j < T.length → j ∈ vis) ∨ ∃ (j : Nat) (hj : j < T.length) (mi' : Hp), j ∉ vis ∧ IW gi g m mi' bs (vis ++ [j]) ∧ v = .tuple #[.bool true, K T[j].1, V T[j].2] ∧ h' = h ∧ ms' = ms.set i mi') (fun ρ w hρ hw => by
    obtain ⟨es, clock, rfl, he, hb⟩ := O.ex
    obtain ⟨es', clock', since, seen, last, e1, rfl, i1, i2, i3, i4, i5⟩ := I.ex
    have e1 := Nq e1
    cases e1
    have hgw : w.heap[g]? = some (.map es clock) := hw.st.imm g _ (hm g _ (Hp.one_self _ _))
    have hiw : w.heap[gi]? = some (.mapIter (some g) since seen last) := hw.st.own _ (List.mem_of_getElem? hi) gi _ (Hp.one_self _ _)
    have hent : ∀ x ∈ es.toList, ∃ (j : Nat) (hj : j < T.length) (hjb : j < bs.length), x = ent K V (T[j], bs[j]) := fun x hx => by
      rw [he] at hx
      obtain ⟨p, hp, rfl⟩ := List.mem_map.1 hx
      obtain ⟨j, hj⟩ := List.getElem?_of_mem hp
      obtain ⟨z1, z2⟩ := List.getElem?_zip_eq_some.1 hj
      obtain ⟨j1, j2⟩ := List.getElem?_eq_some_iff.1 z1
      obtain ⟨k1, k2⟩ := List.getElem?_eq_some_iff.1 z2
      exact ⟨j, j1, k1, by rw [j2, k2]⟩
    have hin : ∀ (j : Nat) (hj : j < T.length) (hjb : j < bs.length), ent K V (T[j], bs[j]) ∈ es.toList := fun j hj hjb => by
      rw [he]
      exact List.mem_map.2 ⟨(T[j], bs[j]), List.mem_of_getElem? (i := j) (List.getElem?_zip_eq_some.2 ⟨List.getElem?_eq_getElem hj, List.getElem?_eq_getElem hjb⟩), rfl⟩
    have hseen : ∀ b, seen.contains b = true ↔ ∃ j ∈ vis, bs[j]?.getD 0 = b := fun b => by
      rw [Array.contains_iff_mem, ← Array.mem_toList_iff, i4, List.mem_map]
    rcases run_next_at (P := e.P) w o.type gi g since last seen es clock hiw hgw (fun x hx => by
      obtain ⟨j, hj, hjb, rfl⟩ := hent x hx
      exact i1 _ (List.getElem_mem hjb)) i2 with ⟨h1, h2⟩ | ⟨x, h1, w1, h2, h3⟩
    · have hrun : (execOp ρ o).run e.P w = .ok (.value (.tuple #[.bool false])) w := by
        simp only [execOp, ho, hρ _ _ hx, Sem.run_bind, h2, Result.andThen_ok, Sem.run_pure]
      unfold OpRes; rw [hrun]
      refine ⟨h, ms, hw, .inl ⟨rfl, rfl, rfl, fun j hj => ?_⟩⟩
      have hjb : j < bs.length := by rw [O.len]; exact hj
      have hmem := hin j hj hjb
      have hc : seen.contains bs[j] = true := by
        cases hcc : seen.contains bs[j] with
        | true => rfl
        | false =>
          have : ent K V (T[j], bs[j]) ∈ leftOf es seen := by
            unfold leftOf
            rw [Array.mem_filter]
            exact ⟨Array.mem_toList_iff.1 hmem, by show (!seen.contains bs[j]) = true; rw [hcc]; rfl⟩
          rw [Array.size_eq_zero_iff.1 h1] at this
          simp at this
      obtain ⟨j', hj', e2⟩ := (hseen _).1 hc
      have hj'b := I.lt j' hj'
      rw [List.getElem?_eq_getElem hj'b] at e2
      have : j' = j := UV O.up (List.getElem?_eq_getElem hj'b) (by rw [List.getElem?_eq_getElem hjb]; exact congrArg some e2.symm)
      subst this; exact hj'
    · unfold leftOf at h1
      have h1 := Array.mem_filter.1 (Array.mem_toList_iff.1 h1)
      obtain ⟨j, hj, hjb, rfl⟩ := hent x (Array.mem_toList_iff.2 h1.1)
      have hjv : j ∉ vis := fun hv => by
        have : seen.contains bs[j] = true := (hseen _).2 ⟨j, hv, by rw [List.getElem?_eq_getElem hjb]; rfl⟩
        have h4 := h1.2
        simp only [ent] at h4
        rw [this] at h4; cases h4
      have hrun : (execOp ρ o).run e.P w = .ok (.value (.tuple #[.bool true, K T[j].1, V T[j].2])) (ChangeMaps.setBlock w1 gi (.mapIter (some g) since (seen.push bs[j]) clock)) := by
        simp only [execOp, ho, hρ _ _ hx, Sem.run_bind, h3, Result.andThen_ok, Sem.run_pure, ent]
      unfold OpRes; rw [hrun]
      have hw1 : e.Ends w1 h ms := by
        rcases h2 with rfl | rfl
        · exact hw
        · exact Ends.drew hw
      refine ⟨h, _, Ends.turn hw1 hi, .inr ⟨j, hj, _, hjv, ⟨⟨es, clock, since, seen.push bs[j], clock, rfl, rfl, i1, i3, i3, ?_, fun _ => rfl⟩, fun i hi => ?_, ?_⟩, rfl, rfl, rfl⟩⟩
      · rw [Array.toList_push, i4, List.map_append]
        simp [List.getElem?_eq_getElem hjb]
      · rcases List.mem_append.1 hi with hi | hi
        · exact I.lt i hi
        · simp at hi; subst hi; exact hjb
      · exact List.nodup_append.2 ⟨I.nodup, by simp, fun a ha b hb e => by simp at hb; subst hb; subst e; exact hjv ha⟩) hd hn hg fun v h' ms' hp => by
    rcases hp with ⟨e1, e2, e3, e4⟩ | ⟨j, hj, mi', e1, e2, e3, e4, e5⟩
    · subst e1 e2 e3; exact k0 e4
    · subst e3 e4 e5; exact k1 j hj mi' e1 e2
theorem OZ {x : Operand} {j : Nat} (O : DI K V g Ok m T bs) (I : IW gi g m mi bs (vis ++ [j])) (hm : m.le h) (hi : mi ∈ ms) (hj : j < T.length) (ho : o.op = .entry x) (hx : ev s x = some (.pointer (some ⟨gi, 0, none⟩))) : OX P o s h ms (.tuple #[K T[j].1, V T[j].2]) :=
  BI fun ρ w hρ hw => by
    obtain ⟨es, clock, rfl, he, hb⟩ := O.ex
    obtain ⟨es', clock', since, seen, last, e1, rfl, i1, i2, i3, i4, i5⟩ := I.ex
    have e1 := Nq e1
    cases e1
    have hl : last = clock := i5 (by simp)
    subst hl
    have hgw : w.heap[g]? = some (.map es last) := hw.imm g _ (hm g _ (Hp.one_self _ _))
    have hjb : j < bs.length := by rw [O.len]; exact hj
    have hs : seen = (vis.map fun j => bs[j]?.getD 0).toArray.push bs[j] := by
      apply Array.toList_inj.1
      rw [i4, Array.toList_push, List.map_append]
      simp [List.getElem?_eq_getElem hjb]
    have hiw : w.heap[gi]? = some (.mapIter (some g) since ((vis.map fun j => bs[j]?.getD 0).toArray.push (ent K V (T[j], bs[j])).born) last) := by
      have := hw.own _ hi gi _ (Hp.one_self _ _)
      rw [hs] at this; exact this
    have hmem : ent K V (T[j], bs[j]) ∈ es.toList := by
      rw [he]
      exact List.mem_map.2 ⟨(T[j], bs[j]), List.mem_of_getElem? (i := j) (List.getElem?_zip_eq_some.2 ⟨List.getElem?_eq_getElem hj, List.getElem?_eq_getElem hjb⟩), rfl⟩
    have hn : (es.toList.map (·.born)).Nodup := by
      rw [he, List.map_map]
      have : (MapEntry.born ∘ ent K V) = (Prod.snd : (κ × ν) × Nat → Nat) := rfl
      rw [this, List.map_snd_zip (by rw [O.len]; exact Nat.le_refl _)]
      exact O.up.imp fun h => Nat.ne_of_lt h
    have := run_entry_at (P := P) w gi g since _ es last _ hiw hgw hmem hn
    simp only [execOp, ho, hρ _ _ hx, Sem.run_bind, this, Result.andThen_ok, Sem.run_pure, ent]
theorem M4 {kt et : TypeId} {x y : Operand} {z : ν} (a : κ) (L : LS P kt K Ok) (O : DI K V g Ok m T bs) (hm : m.le h) (ho : o.op = .lookup t x y false) (ht : P.underlying t = some (.map kt et)) (hz : ∀ w, (zeroValue et).run P w = .ok (V z) w) (hx : ev s x = some (.map (some g))) (hy : ev s y = some (K a)) (ha : Ok a) :
    OX P o s h ms (V ((Dg T a).getD z)) :=
  BI fun ρ w hρ hw => by
    obtain ⟨es, clock, rfl, he, hb⟩ := O.ex
    have hgw : w.heap[g]? = some (.map es clock) := hw.imm g _ (hm g _ (Hp.one_self _ _))
    obtain ⟨l, hk⟩ := L.key a ha
    have hc := L.law.check w es.isEmpty hk
    rcases He L O.keys O.ok O.len he w a ha with ⟨h1, h2⟩ | ⟨j, u, b, h1, h2, _, _⟩
    · rw [Ec h2]
      simp only [execOp, ho, hρ _ _ hx, hρ _ _ hy, Instr.lookup, Sem.run_bind, run_underlying ht, Result.andThen_ok, getObj, Sem.run_pure, h1, hz]
      simp [Sem.run, hgw, hc, h1, hz, Result.andThen]
    · rw [G7 O.keys h2]
      simp only [execOp, ho, hρ _ _ hx, hρ _ _ hy, Instr.lookup, Sem.run_bind, run_underlying ht, Result.andThen_ok, getObj, Sem.run_pure, h1, hz]
      simp [Sem.run, hgw, hc, h1, hz, Result.andThen]
end
end Go.Eng
namespace Go.Eng
open Go.RowKit Go.Sort
variable {w : World}
theorem Ext.grown {w' : World} (e : Ext w w') : ∃ q os', w' = grow (w.drewN q) os' := by
  refine ⟨w'.drawn - w.drawn, w'.heap.extract w.heap.size w'.heap.size, ?_⟩
  have hh : w'.heap = w.heap ++ w'.heap.extract w.heap.size w'.heap.size := by
    apply Array.ext_getElem?
    intro i
    rcases Nat.lt_or_ge i w.heap.size with h | h
    · rw [Array.getElem?_append_left h, e.block i h]
    · rw [Array.getElem?_append_right h]
      rcases Nat.lt_or_ge i w'.heap.size with h2 | h2
      · simp [Array.getElem?_extract]
        rw [if_pos (by omega)]
        congr 1; omega
      · rw [Array.getElem?_eq_none h2]
        symm
        apply Array.getElem?_eq_none
        simp; omega
  have hd : w'.drawn = w.drawn + (w'.drawn - w.drawn) := by have := e.tape.drawn; omega
  have h1 := e.os
  have h2 := e.tape.tape
  have h3 := e.output
  obtain ⟨heap, tape, drawn, os, output⟩ := w'
  obtain ⟨heap', tape', drawn', os', output'⟩ := w
  simp only at *
  subst h1 h2 h3
  simp only [grow, World.drewN, World.mk.injEq, true_and, and_true]
  exact ⟨hh, hd⟩
section
variable {α : Type} [Inhabited α] {enc : α → List Value} {k : Nat}
theorem Ht (hk : ∀ x, (enc x).length = k) (hk0 : 0 < k) (d : Array α) {t : Nat} (ht : t < d.size * k) : (d.toList.flatMap enc)[t]? = some (flatK enc k d)[t]! := by
  have hj : t / k < d.size := Nat.div_lt_of_lt_mul (by rw [Nat.mul_comm]; exact ht)
  have hm := Nat.mod_lt t hk0
  rw [get_flatK enc k d t ht]
  have h1 := Ey hk d.toList (t / k) (by simpa using hj) (t % k) ((enc d[t / k]!)[t % k]!) (by
    have e : d.toList[t / k]'(by simpa using hj) = d[t / k]! := by simp [hj]
    rw [e]
    have : t % k < (enc d[t / k]!).length := by rw [hk]; exact hm
    simp [this])
  rwa [Nat.mul_comm, Nat.div_add_mod] at h1
theorem PT (hk : ∀ x, (enc x).length = k) (hk0 : 0 < k) (d d' : Array α) (hs : d'.size = d.size) (spare : List Value) : putCells id 0 (flatK enc k d') (d.toList.flatMap enc ++ spare).toArray = (d'.toList.flatMap enc ++ spare).toArray := by
  have l1 : (d.toList.flatMap enc).length = d.size * k := by rw [BL hk]; simp
  have l2 : (d'.toList.flatMap enc).length = d.size * k := by rw [BL hk]; simp [hs]
  apply Array.ext_getElem?
  intro t
  unfold putCells
  rw [Array.getElem?_mapIdx, List.getElem?_toArray, List.getElem?_toArray]
  rcases Nat.lt_or_ge t (d.size * k) with h | h
  · rw [List.getElem?_append_left (by omega), List.getElem?_append_left (by omega), Ht hk hk0 d h, Ht hk hk0 d' (by rw [hs]; exact h)]
    simp only [Option.map_some]
    rw [if_pos ⟨Nat.zero_le _, by rw [size_flatK, hs]; omega⟩]
    rfl
  · rw [List.getElem?_append_right (by omega), List.getElem?_append_right (by omega), l1, l2]
    cases spare[t - d.size * k]? with
    | none => rfl
    | some u =>
      simp only [Option.map_some]
      rw [if_neg]
      rw [size_flatK, hs]; omega
theorem PE {g : Nat} {el : TypeId} (hk : ∀ x, (enc x).length = k) (hk0 : 0 < k) (d : Array α) (spare : List Value) (hg : w.heap[g]? = some (.cells (d.toList.flatMap enc ++ spare).toArray el (0, 0))) : HoldsK enc k w g 0 d := by
  intro j hj
  rw [size_flatK] at hj
  have l1 : (d.toList.flatMap enc).length = d.size * k := by rw [BL hk]; simp
  have h1 := Ht hk hk0 d hj
  constructor
  · have : (d.toList.flatMap enc ++ spare)[j]? = some (flatK enc k d)[j]! := by rw [List.getElem?_append_left (by omega)]; exact h1
    simp [World.cell?, hg, this]
  · simp [World.frozen?, hg]
end
theorem Ou {α : Type} [Inhabited α] {enc : α → List Value} {k : Nat} {h : Hp} {g n : Nat} {el : TypeId} (hk : ∀ x, (enc x).length = k) (hk0 : 0 < k) (d d' : Array α) (hs : d'.size = d.size) (spare : List Value) (os : Array Obj) (hS : St w h [AX g el (d.toList.flatMap enc ++ spare)]) :
    Ends w h [AX g el (d.toList.flatMap enc ++ spare)] (Go.Proofs.sortWorldK enc k w g 0 n d' os) h [AX g el (d'.toList.flatMap enc ++ spare)] := by
  have hg : w.heap[g]? = some (.cells (d.toList.flatMap enc ++ spare).toArray el (0, 0)) := hS.own _ (List.mem_singleton.2 rfl) g _ (Hp.one_self _ _)
  have hlt := (Array.getElem?_eq_some_iff.1 hg).1
  have hv := (Array.getElem?_eq_some_iff.1 hg).2
  have hsz : (putRowK enc k (Go.Sort.ahead w n) g 0 d').heap.size = w.heap.size := by simp [putRowK, putRow, mapBlock, ahead]
  have hg' : (putRowK enc k (Go.Sort.ahead w n) g 0 d').heap[g]? = some (.cells (d'.toList.flatMap enc ++ spare).toArray el (0, 0)) := by
    show (w.heap.modify g (onCells (putCells id 0 (flatK enc k d'))))[g]? = _
    rw [Array.getElem?_eq_getElem (by simpa using hlt), Array.getElem_modify]
    simp [hv, onCells, PT hk hk0 d d' hs spare]
  have ho' : ∀ j, j < w.heap.size → j ≠ g → (putRowK enc k (Go.Sort.ahead w n) g 0 d').heap[j]? = w.heap[j]? := fun j _ hne => by
    show (w.heap.modify g (onCells (putCells id 0 (flatK enc k d'))))[j]? = _
    simp [Array.getElem?_modify, Ne.symm hne]
  refine Ends.change (Ends.refl hS) rfl ⟨rfl, ?_⟩ rfl ?_ ?_ ?_
  · show w.drawn ≤ w.drawn + n
    omega
  · show w.heap.size ≤ ((putRowK enc k (Go.Sort.ahead w n) g 0 d').heap ++ os).size
    rw [Array.size_append, hsz]; omega
  · show ((putRowK enc k (Go.Sort.ahead w n) g 0 d').heap ++ os)[g]? = _
    rw [Array.getElem?_append_left (by rw [hsz]; exact hlt), hg']
  · intro j hj hne
    show ((putRowK enc k (Go.Sort.ahead w n) g 0 d').heap ++ os)[j]? = _
    rw [Array.getElem?_append_left (by rw [hsz]; exact hj), ho' j hj hne]
end Go.Eng
namespace Go.Eng
open Go.RowKit
section
variable {e : Entry} {Q : Exit → Act → World → Prop} {ops : Array Oper} {rest : List Oper} {o : Oper} {s : Ay} {h : Hp} {ms : List Hp}
theorem L7 {t el : TypeId} {x y : Operand} {v z : Value} {sz bytes g : Nat} {l : List Value} (i k : Nat) (vl : List Value) (ho : o.op = .store t x y) (hs : Elem e.P t sz z bytes) (hx : ev s x = some (.pointer (some ((⟨g, 0, none⟩ : Addr).add k)))) (hy : ev s y = some v) (hv : v.cells = vl.toArray) (hl : vl.length = sz) (h1 : ∀ u ∈ vl, u.oneCell' = true)
    (hm : ms[i]? = some (AX g el l)) (hk : k + sz ≤ l.length) (hd : o.dst = none) (hg : o.guard = none)
    (K : WL e ops Q rest s h (ms.set i (AX g el (l.take k ++ vl ++ l.drop (k + sz))))) : WL e ops Q (o :: rest) s h ms := by
  refine Jp (post := fun _ h' ms' => h' = h ∧ ms' = ms.set i (AX g el (l.take k ++ vl ++ l.drop (k + sz)))) (fun ρ w hρ hw => ?_) hd hg fun _ _ _ ⟨e4, e5⟩ => by subst e4 e5; exact K
  subst hl
  have hgw : w.heap[g]? = some (.cells l.toArray el (0, 0)) := hw.st.own _ (List.mem_of_getElem? hm) g _ (Hp.one_self _ _)
  have hst := run_storeCells_at (P := e.P) g k el vl 0 _ w hgw (by simp only [List.size_toArray]; omega) h1
  have : (execOp ρ o).run e.P w = .ok .skip (w.setRow g (l.take k ++ vl ++ l.drop (k + vl.length)).toArray) := by
    simp [execOp, ho, hρ _ _ hx, hρ _ _ hy, Instr.storeAt, Instr.sureAddr, storeVar, hs.sizeOf, hv, QS]
    simp at hst
    rw [hst]; rfl
  unfold OpRes; rw [this]
  exact ⟨h, _, Ends.put hw hm rfl ⟨rfl, Nat.le_refl _⟩ rfl (by simp) (setRow_heap w g _ _ _ _ hgw) (fun k hk hne => setRow_other w g k _ hne), rfl, rfl⟩
theorem A7 {r : List Oper} {m : Hp} (k : ∀ h', h.le h' → m.le h' → WL e ops Q r s h' ms) : WL e ops Q r s h (m :: ms) :=
  fun a w ha hw => k _ (Hp.le_join _ _) (Hp.join_le_right (hw.st.off m List.mem_cons_self)) a w ha (Ends.freeze hw)
theorem MK {x : Exit} {m : Hp} (k : ∀ h', h.le h' → m.le h' → NX e Q x s h' ms) : NX e Q x s h (m :: ms) :=
  fun a w ha hw => k _ (Hp.le_join _ _) (Hp.join_le_right (hw.st.off m List.mem_cons_self)) a w ha (Ends.freeze hw)
end
end Go.Eng
namespace Go.Eng
open Go.RowKit
section
variable {P : Program} {o : Oper} {s : Ay} {h : Hp} {ms : List Hp} {t u : TypeId} {x y : Operand} {a n : Nat}
theorem RH (ho : o.op = .binOp .shr t x y u) {k : IntKind} (hx : ev s x = some (.int .u16 a)) (hy : ev s y = some (.int k n)) (hn : n ≤ 16) : OX P o s h ms (.int .u16 ((a / 2 ^ n : Nat) : Int)) :=
  BI fun ρ w hρ _ => by
    have h1 : ¬ ((n : Int) < 0) := by omega
    have h2 : min n 16 = n := Nat.min_eq_left hn
    have h3 : (a : Int).fdiv (2 ^ n) = ((a / 2 ^ n : Nat) : Int) := by
      rw [Int.fdiv_eq_ediv_of_nonneg _ (Int.le_of_lt (Int.pow_pos (by decide)))]; simp
    simp [execOp, ho, hρ _ _ hx, hρ _ _ hy, Op.shift, h1, IntKind.bits, h2, h3, go_sem]
theorem P9 (ho : o.op = .binOp .and t x y u) (hx : ev s x = some (.int .u16 a)) (hy : ev s y = some (.int .u16 1)) (ha : a < 65536) : OX P o s h ms (.int .u16 ((a % 2 : Nat) : Int)) :=
  BI fun ρ w hρ _ => by
    have h3 : IntKind.u16.wrap (((BitVec.ofNat 16 a) &&& (BitVec.ofNat 16 1)).toNat : Int) = ((a % 2 : Nat) : Int) := by
      rw [BitVec.toNat_and, BitVec.toNat_ofNat, BitVec.toNat_ofNat, Nat.mod_eq_of_lt (by omega), Nat.mod_eq_of_lt (by omega), Nat.and_one_is_mod]
      unfold IntKind.wrap
      simp [IntKind.bits, IntKind.signed]
      omega
    simp [execOp, ho, hρ _ _ hx, hρ _ _ hy, Op.intBits, IntKind.bits, go_sem]
    exact h3
end
theorem JW (a : Int) : -9223372036854775808 ≤ IntKind.i64.wrap a ∧ IntKind.i64.wrap a ≤ 9223372036854775807 := by
  unfold IntKind.wrap
  simp [IntKind.bits, IntKind.signed]
  omega
end Go.Eng
namespace Go.Eng
open Go.RowKit
theorem Qs {s' s : Ay} (h : Eng.Sub s' s := by repeat (first | exact trivial | refine ⟨rfl, ?_⟩)) : Eng.Sub s' s := h
def dg (n : Nat) (o : Oper) : Option Nat := match o.dst, o.guard with
  | some d, none => match Nat.blt d n with
    | true => some d
    | false => none
  | _, _ => none
theorem Io {n d : Nat} {o : Oper} (h : dg n o = some d) : o.dst = some d ∧ Nat.blt d n = true ∧ o.guard = none := by
  unfold dg at h
  split at h
  · rename_i d' h1 h2
    split at h
    · rename_i h3; cases h; exact ⟨h1, h3, h2⟩
    · cases h
  · cases h
def mv (s : Ay) (o : Oper) : Option Value := match o.op with
  | .move x => ev s x
  | .assign x => ev s x
  | .nilCheck x => match ev s x with
    | some (.pointer (some p)) => some (.pointer (some p))
    | _ => none
  | .extract x i => match ev s x with
    | some (.tuple vs) => vs[i]?
    | _ => none
  | .pick c x y => match ev s c with
    | some (.bool true) => ev s x
    | some (.bool false) => ev s y
    | _ => none
  | .unOp .not _ x => match ev s x with
    | some (.bool a) => some (.bool (!a))
    | _ => none
  | .binOp b _ x y _ => match b, ev s x, ev s y with
    | .lss, some (.int k a), some (.int k' b) => if k = k' then some (.bool (decide (a < b))) else none
    | .leq, some (.int k a), some (.int k' b) => if k = k' then some (.bool (decide (a ≤ b))) else none
    | .gtr, some (.int k a), some (.int k' b) => if k = k' then some (.bool (decide (b < a))) else none
    | .geq, some (.int k a), some (.int k' b) => if k = k' then some (.bool (decide (b ≤ a))) else none
    | .eql, some (.int k a), some (.int k' b) => if k = k' then some (.bool (decide (a = b))) else none
    | .neq, some (.int k a), some (.int k' b) => if k = k' then some (.bool (decide (a ≠ b))) else none
    | _, _, _ => none
  | _ => none
theorem Sm {P : Program} {s : Ay} {h : Hp} {ms : List Hp} {o : Oper} {v : Value} (hv : mv s o = some v) : OX P o s h ms v := by
  unfold mv at hv
  split at hv
  · rename_i h1; exact As h1 hv
  · rename_i h1; exact EX h1 hv
  · rename_i h1; split at hv
    · rename_i h2; cases hv; exact H0 h1 h2
    · cases hv
  · rename_i h1; split at hv
    · rename_i h2; exact AC h1 h2 hv
    · cases hv
  · rename_i h1; split at hv
    · rename_i h2; exact Jv h1 h2 hv
    · rename_i h2; exact JJ h1 h2 hv
    · cases hv
  · rename_i h1; split at hv
    · rename_i h2; cases hv; exact CP h1 h2
    · cases hv
  · rename_i h1
    split at hv <;> first | (split at hv <;> first | (rename_i h2 h3 h4; subst h4; cases hv; first | exact Dy h1 h2 h3 | exact JX h1 h2 h3 | exact Dd h1 h2 h3 | exact DU h1 h2 h3 | exact EJ h1 h2 h3 | exact B4 h1 h2 h3) | cases hv) | cases hv
  · cases hv
def gd (ops : Array Oper) (n : Nat) (s : Ay) (o : Oper) (w : Bool) : Option Nat := match o.dst, o.guard with
  | some d, some (j, b) => match Nat.blt d n, ops[j]? with
    | true, some oj => match oj.dst with
      | some dj => match lk s dj with
        | some (.bool b') => match (b' == b) == w with
          | true => some d
          | false => none
        | _ => none
      | none => none
    | _, _ => none
  | _, _ => none
theorem NR {ops : Array Oper} {n d : Nat} {s : Ay} {o : Oper} {w : Bool} (h : gd ops n s o w = some d) : ∃ j b oj dj b', o.dst = some d ∧ Nat.blt d n = true ∧ o.guard = some (j, b) ∧ ops[j]? = some oj ∧ oj.dst = some dj ∧ lk s dj = some (.bool b') ∧ (b' == b) = w := by
  unfold gd at h
  split at h
  · rename_i d' j b h1 h2
    split at h
    · rename_i oj h3 h4
      split at h
      · rename_i dj h5
        split at h
        · rename_i b' h6
          split at h
          · rename_i h7; cases h; exact ⟨j, b, oj, dj, b', h1, h3, h2, h4, h5, h6, by simpa using h7⟩
          · cases h
        · cases h
      · cases h
    · cases h
  · cases h
section
variable {e : Entry} {Q : Exit → Act → World → Prop} {s : Ay} {h h0 : Hp} {ms : List Hp} {ops : Array Oper} {listed : Array Bool} {fuel : Nat} {o : Oper} {rest : List Oper} {v : Value} {d : Nat}
theorem Qx (hx : OX e.P o s h ms v) (hd : dg e.n o = some d) (k : WL e ops Q rest ((d, v) :: s) h ms) : WL e ops Q (o :: rest) s h ms :=
  let ⟨h1, h2, h3⟩ := Io hd
  VM hx h1 h2 h3 k
def WI (n : Nat) (s : Ay) (o : Oper) : Option (Nat × Value) := match dg n o, mv s o with
  | some d, some v => some (d, v)
  | _, _ => none
theorem Qm (hm : WI e.n s o = some (d, v)) (k : WL e ops Q rest ((d, v) :: s) h ms) : WL e ops Q (o :: rest) s h ms := by
  obtain ⟨hd, hv⟩ : dg e.n o = some d ∧ mv s o = some v := by
    unfold WI at hm
    split at hm
    · rename_i h1 h2; cases hm; exact ⟨h1, h2⟩
    · cases hm
  exact Qx (Sm hv) hd k
theorem Qk (hd : gd ops e.n s o false = some d) (k : WL e ops Q rest ((d, undef) :: s) h ms) : WL e ops Q (o :: rest) s h ms :=
  let ⟨_, _, _, _, _, h1, h2, h3, h4, h5, h6, h7⟩ := NR hd
  SY h1 h2 h3 h4 h5 h6 h7 k
theorem Qg (hx : OX e.P o s h ms v) (hd : gd ops e.n s o true = some d) (k : WL e ops Q rest ((d, v) :: s) h ms) : WL e ops Q (o :: rest) s h ms :=
  let ⟨_, _, _, _, _, h1, h2, h3, h4, h5, h6, h7⟩ := NR hd
  Um hx h1 h2 h3 h4 h5 (by rw [h6]; congr 2; simpa using h7) k
theorem Qw (k : WB e ops Q h fuel listed s h ms) : WL e ops (QB e ops Q h fuel listed) [] s h ms := Ak (Uh (Hp.le_refl _) k)
theorem Qa (k : WB e ops Q h0 fuel listed s h ms) (hl : h0.le h := by assumption) : WL e ops (QB e ops Q h0 fuel listed) [] s h ms := Ak (Uh hl k)
theorem Qo (i : Nat) (ho : ops[i]? = some o) (k : WL e ops (QB e ops Q h0 fuel (listed.setIfInBounds i true)) [o] s h ms) (hr : Region.ready .any ops listed = [i] := by kernel_rfl) : WB e ops Q h0 (fuel + 1) listed s h ms := A2 [i] hr rfl (Az ho k A3)
theorem Qe (k : NX e Q .normal s h ms) (hr : Region.ready .any ops listed = [] := by kernel_rfl) : WB e ops Q h0 fuel listed s h ms := Vm hr k
theorem Aq {y : Code} (k : WS e y Q s h ms) : WL e ops (Exit.then (fun a w => y.wp e.P Q a w) Q) [] s h ms := Ak (Ab k)
theorem Ax {id : Nat} {l : List Oper} {y : Code} (k : WL e l.toArray (Exit.then (fun a w => y.wp e.P Q a w) Q) l s h ms) : WS e (.seq (.region id l.toArray false) y) Q s h ms := Ac (Ad k)
theorem B3 {id : Nat} {l : List Oper} {y : Code} (k : WL e l.toArray (Exit.then (fun a w => y.wp e.P Q a w) Q) l s h ms) : WL e ops (Exit.then (fun a w => (Code.seq (.region id l.toArray false) y).wp e.P Q a w) Q) [] s h ms := Ak (Ab (Ac (Ad k)))
theorem IA {id : Nat} {l : List Oper} (k : WL e l.toArray Q l s h ms) : WL e ops (Exit.then (fun a w => (Code.region id l.toArray false).wp e.P Q a w) Q) [] s h ms := Ak (Ab (Ad k))
theorem BZ {t : TypeId} {sz : Nat} {z : Value} {bytes : Nat} (zl : List Value) (ho : o.op = .alloc t) (hs : Elem e.P t sz z bytes) (hz : z.cells = zl.toArray) (hd : dg e.n o = some d) (k : ∀ g, WL e ops Q rest ((d, .pointer (some ⟨g, 0, none⟩)) :: s) h (AX g t zl :: ms)) : WL e ops Q (o :: rest) s h ms :=
  let ⟨h1, h2, h3⟩ := Io hd
  Rq zl ho hs hz h1 h2 h3 k
end
def VI (l : List Oper) (n : Nat) (zs : Ay) (i : Nat) : Option (Oper × Nat) := match l[i]? with
  | some o => match dg n o with
    | some d => match lk zs d with
      | none => some (o, d)
      | some _ => none
    | none => none
  | none => none
theorem Qp {P : Program} {l : List Oper} {n : Nat} {s z : Ay} {h0 : Hp} {K : Ay → Prop} {r : List Nat} {i d : Nat} {o : Oper} {v : Value} (ho : VI l n (z ++ s) i = some (o, d)) (hx : OX P o (z ++ s) h0 [] v) (k : CD P l n s h0 K r ((d, v) :: z)) : CD P l n s h0 K (i :: r) z := by
  unfold VI at ho
  split at ho
  · rename_i o' h1
    split at ho
    · rename_i d' h2
      split at ho
      · rename_i h3
        cases ho
        obtain ⟨h4, h5, _⟩ := Io h2
        exact Wa h1 h4 h5 h3 hx k
      · cases ho
    · cases ho
  · cases ho
def WJ (l : List Oper) (n : Nat) (zs : Ay) (i : Nat) : Option (Nat × Value) := match VI l n zs i with
  | some (o, d) => match mv zs o with
    | some v => some (d, v)
    | none => none
  | none => none
def UI (s : Ay) (o : Oper) : Option (TypeId × Addr) := match o.op with
  | .load t x => match ev s x with
    | some (.pointer (some p)) => some (t, p)
    | _ => none
  | _ => none
theorem Lm {s : Ay} {o : Oper} {t : TypeId} {p : Addr} (h : UI s o = some (t, p)) : ∃ x, o.op = .load t x ∧ ev s x = some (.pointer (some p)) := by
  unfold UI at h
  split at h
  · rename_i t' x h1; split at h
    · rename_i h2; cases h; exact ⟨x, h1, h2⟩
    · cases h
  · cases h
def VC (s : Ay) (o : Oper) : Option (TypeId × Nat × Addr) := match o.op with
  | .fieldAddr t x i => match ev s x with
    | some (.pointer (some p)) => some (t, i, p)
    | _ => none
  | _ => none
theorem Q5 {s : Ay} {o : Oper} {t : TypeId} {i : Nat} {p : Addr} (h : VC s o = some (t, i, p)) : ∃ x, o.op = .fieldAddr t x i ∧ ev s x = some (.pointer (some p)) := by
  unfold VC at h
  split at h
  · rename_i t' x i' h1; split at h
    · rename_i h2; cases h; exact ⟨x, h1, h2⟩
    · cases h
  · cases h
def wd (o : Oper) : Option Nat := match o.dst, o.guard with
  | some d, none => some d
  | _, _ => none
theorem JZ {o : Oper} {d : Nat} (h : wd o = some d) : o.dst = some d ∧ o.guard = none := by
  unfold wd at h
  split at h
  · rename_i h1 h2; cases h; exact ⟨h1, h2⟩
  · cases h
section
variable {P : Program} {l : List Oper} {n : Nat} {s z : Ay} {h h0 : Hp} {ms : List Hp} {K : Ay → Prop} {r : List Nat} {i d : Nat} {o : Oper} {v : Value} {t : TypeId} {p : Addr} {D : TypeDesc}
theorem Qq (hm : WJ l n (z ++ s) i = some (d, v)) (k : CD P l n s h0 K r ((d, v) :: z)) : CD P l n s h0 K (i :: r) z := by
  unfold WJ at hm
  split at hm
  · rename_i h1; split at hm
    · rename_i h2; cases hm; exact Qp h1 (Sm h2) k
    · cases hm
  · cases hm
def Wg {α : Type} (a : Option (Oper × Nat)) (f : Oper → Option α) : Option (α × Nat) := match a with
  | some (o, d) => match f o with
    | some x => some (x, d)
    | none => none
  | none => none
theorem Lx {α : Type} {a : Option (Oper × Nat)} {f : Oper → Option α} {x : α} {d : Nat} (h : Wg a f = some (x, d)) : ∃ o, a = some (o, d) ∧ f o = some x := by
  unfold Wg at h
  split at h
  · rename_i o' d'; split at h
    · rename_i h2; cases h; exact ⟨_, rfl, h2⟩
    · cases h
  · cases h
theorem oL (hm : UI s o = some (t, p)) (ht : P.underlying t = some D) (hc : Cell h ms p v) (ha : Jj D = false := by rfl) : OX P o s h ms v :=
  let ⟨_, h1, h2⟩ := Lm hm
  AM h1 ht ha h2 hc
theorem oG {z : Value} {sz bytes : Nat} {vs : List Value} (hm : UI s o = some (t, p)) (ht : P.underlying t = some D) (hs : Elem P t sz z bytes) (hc : Seg h ms p vs) (ha : Jj D = true := by rfl) (hl : vs.length = sz := by rfl) : OX P o s h ms (.agg vs.toArray) :=
  let ⟨_, h1, h2⟩ := Lm hm
  Du h1 ht ha hs hl h2 hc
theorem oF {j off : Nat} (F : Fld P t j off) (hm : VC s o = some (t, j, p)) : OX P o s h ms (.pointer (some (p.add off))) :=
  let ⟨_, h1, h2⟩ := Q5 hm
  Pt F h1 h2
theorem QL (hm : Wg (VI l n (z ++ s) i) (UI (z ++ s)) = some ((t, p), d)) (ht : P.underlying t = some D) (hc : Cell h0 [] p v) (k : CD P l n s h0 K r ((d, v) :: z)) (ha : Jj D = false := by rfl) : CD P l n s h0 K (i :: r) z :=
  let ⟨_, h1, h2⟩ := Lx hm
  Qp h1 (oL h2 ht hc ha) k
theorem QF {j off : Nat} (F : Fld P t j off) (hm : Wg (VI l n (z ++ s) i) (VC (z ++ s)) = some ((t, j, p), d)) (k : CD P l n s h0 K r ((d, .pointer (some (p.add off))) :: z)) : CD P l n s h0 K (i :: r) z :=
  let ⟨_, h1, h2⟩ := Lx hm
  Qp h1 (oF F h2) k
end
def bn (s : Ay) (o : Oper) : Option (BinOp × Int × Int) := match o.op with
  | .binOp b _ x y _ => match ev s x, ev s y with
    | some (.int .i64 a), some (.int .i64 c) => some (b, a, c)
    | _, _ => none
  | _ => none
theorem Ke {s : Ay} {o : Oper} {b : BinOp} {a c : Int} (h : bn s o = some (b, a, c)) : ∃ t x y u, o.op = .binOp b t x y u ∧ ev s x = some (.int .i64 a) ∧ ev s y = some (.int .i64 c) := by
  unfold bn at h
  split at h
  · rename_i b' t x y u h1; split at h
    · rename_i h2 h3; cases h; exact ⟨t, x, y, u, h1, h2, h3⟩
    · cases h
  · cases h
section
variable {P : Program} {s : Ay} {h : Hp} {ms : List Hp} {o : Oper} {a b : Int}
theorem oA (hm : bn s o = some (.add, a, b)) (hr : -9223372036854775808 ≤ a + b ∧ a + b ≤ 9223372036854775807 := by omega) : OX P o s h ms (.int .i64 (a + b)) :=
  let ⟨_, _, _, _, h1, h2, h3⟩ := Ke hm
  U2 h1 h2 h3 hr
theorem oS (hm : bn s o = some (.sub, a, b)) (hr : -9223372036854775808 ≤ a - b ∧ a - b ≤ 9223372036854775807 := by omega) : OX P o s h ms (.int .i64 (a - b)) :=
  let ⟨_, _, _, _, h1, h2, h3⟩ := Ke hm
  UY h1 h2 h3 hr
theorem oM (hm : bn s o = some (.mul, a, b)) (hr : -9223372036854775808 ≤ a * b ∧ a * b ≤ 9223372036854775807 := by omega) : OX P o s h ms (.int .i64 (a * b)) :=
  let ⟨_, _, _, _, h1, h2, h3⟩ := Ke hm
  Vb h1 h2 h3 hr
end
def WD (s : Ay) (o : Oper) : Option (TypeId × Addr × Value) := match o.op, o.dst, o.guard with
  | .store t x y, none, none => match ev s x, ev s y with
    | some (.pointer (some p)), some v => some (t, p, v)
    | _, _ => none
  | _, _, _ => none
theorem Sk {s : Ay} {o : Oper} {t : TypeId} {p : Addr} {v : Value} (h : WD s o = some (t, p, v)) : ∃ x y, o.op = .store t x y ∧ ev s x = some (.pointer (some p)) ∧ ev s y = some v ∧ o.dst = none ∧ o.guard = none := by
  unfold WD at h
  split at h
  · rename_i t' x y h1 h2 h3; split at h
    · rename_i h4 h5; cases h; exact ⟨x, y, h1, h4, h5, h2, h3⟩
    · cases h
  · cases h
def WG (s : Ay) (o : Oper) : Option (FuncId × List Value) := match o.op with
  | .call c => match c.callee, MF s c.args.toList with
    | .value (.func f), some vs => some (f, vs)
    | _, _ => none
  | _ => none
theorem SL {s : Ay} {o : Oper} {f : FuncId} {vs : List Value} (h : WG s o = some (f, vs)) : ∃ l ts, o.op = .call { callee := .value (.func f), args := List.toArray l, argTypes := ts } ∧ MF s l = some vs := by
  unfold WG at h
  split at h
  · rename_i c h1; split at h
    · rename_i f' vs' h2 h3; cases h
      obtain ⟨ce, az, ts⟩ := c
      simp only at h2 h3
      subst h2
      exact ⟨az.toList, ts, by rw [h1, Array.toArray_toList], h3⟩
    · cases h
  · cases h
section
variable {e : Entry} {Q : Exit → Act → World → Prop} {s : Ay} {h : Hp} {ms : List Hp} {ops : Array Oper} {o : Oper} {rest l : List Oper} {v : Value} {d : Nat} {t : TypeId} {p : Addr} {D : TypeDesc}
theorem Ql (hm : (UI s o, dg e.n o) = (some (t, p), some d)) (ht : e.P.underlying t = some D) (hc : Cell h ms p v) (k : WL e ops Q rest ((d, v) :: s) h ms) (ha : Jj D = false := by rfl) : WL e ops Q (o :: rest) s h ms :=
  let ⟨h1, h2⟩ := Prod.mk.inj hm
  Qx (oL h1 ht hc ha) h2 k
theorem Qf {j off : Nat} (F : Fld e.P t j off) (hm : (VC s o, dg e.n o) = (some (t, j, p), some d)) (k : WL e ops Q rest ((d, .pointer (some (p.add off))) :: s) h ms) : WL e ops Q (o :: rest) s h ms :=
  let ⟨h1, h2⟩ := Prod.mk.inj hm
  Qx (oF F h1) h2 k
theorem Sa {el : TypeId} {z : Value} {sz bytes g : Nat} {l : List Value} (i : Nat) (vl : List Value) (hs : Elem e.P t sz z bytes) (hm : (WD s o, v.cells, ms[i]?, vl.length, l.length) = (some (t, ⟨g, 0, none⟩, v), vl.toArray, some (AX g el l), sz, sz)) (h1 : ∀ u ∈ vl, u.oneCell' = true) (K : WL e ops Q rest s h (ms.set i (AX g el vl))) : WL e ops Q (o :: rest) s h ms := by
  simp only [Prod.mk.injEq] at hm
  obtain ⟨q1, q2, q3, q4, q5⟩ := hm
  obtain ⟨x, y, r1, r2, r3, r4, r5⟩ := Sk q1
  exact K9 i vl r1 hs r2 r3 q2 h1 q3 q4 q5 r4 r5 K
theorem Qc {f : FuncId} {vs : List Value} {post : Value → Hp → List Hp → Prop} (hc : ∀ az w, (callFunc f az).run e.P w = .ok (.enter f az) w) (hm : (WG s o, dg e.n o) = (some (f, vs), some d)) (k : FnT e.P f vs.toArray h [] post) (K : ∀ v h' pre', h.le h' → post v h' pre' → WL e ops Q rest ((d, v) :: s) h' (pre' ++ ms)) : WL e ops Q (o :: rest) s h ms := by
  obtain ⟨h1, h2⟩ := Prod.mk.inj hm
  obtain ⟨l, ts, h3, h4⟩ := SL h1
  obtain ⟨h5, h6, h7⟩ := Io h2
  exact E4 h3 hc h4 k h5 h6 h7 K
variable {tl : List Oper} {q : List (Nat × VP)} {al : List (Nat × Nb)}
theorem Wm (hm : (wd o, mv s o) = (some d, some v)) (k : WR e ops Q tl h ms l ((d, v) :: s) q al) : WR e ops Q tl h ms (o :: l) s q al :=
  let ⟨h1, h2⟩ := Prod.mk.inj hm
  let ⟨h3, h4⟩ := JZ h1
  AV (Sm h2) h3 h4 k
theorem Wf {j off : Nat} (F : Fld e.P t j off) (hm : (wd o, VC s o) = (some d, some (t, j, p))) (k : WR e ops Q tl h ms l ((d, .pointer (some (p.add off))) :: s) q al) : WR e ops Q tl h ms (o :: l) s q al :=
  let ⟨h1, h2⟩ := Prod.mk.inj hm
  let ⟨h3, h4⟩ := JZ h1
  AV (oF F h2) h3 h4 k
theorem Wl (hm : (wd o, UI s o) = (some d, some (t, p))) (ht : e.P.underlying t = some D) (hc : Cell h ms p v) (k : WR e ops Q tl h ms l ((d, v) :: s) q al) (ha : Jj D = false := by rfl) : WR e ops Q tl h ms (o :: l) s q al :=
  let ⟨h1, h2⟩ := Prod.mk.inj hm
  let ⟨h3, h4⟩ := JZ h1
  AV (oL h2 ht hc ha) h3 h4 k
end
end Go.Eng
namespace Go.Proofs.YtdnelknieikbaaaGreat
open Go.Eng
theorem Cd : Tryz.prog.follows .mixedOrders = true := by kernel_rfl
theorem A8 : Elem Tryz.prog 3 1 (.int .i64 0) 8 := Elem.of (by kernel_rfl)
theorem el4 : Elem Tryz.prog 4 1 (.bool false) 1 := Elem.of (by kernel_rfl)
theorem WY : Elem Tryz.prog 5 1 (.int .u8 0) 1 := Elem.of (by kernel_rfl)
theorem BN : Elem Tryz.prog 24 1 (.slice none 0 0) 24 := Elem.of (by kernel_rfl)
theorem ST : Elem Tryz.prog 26 5 (.agg #[.int .u8 0, .slice none 0 0, .int .u16 0, .slice none 0 0, .bool false]) 72 := Elem.of (by kernel_rfl)
theorem Tm : Elem Tryz.prog 28 1 (.slice none 0 0) 24 := Elem.of (by kernel_rfl)
theorem Bz : Elem Tryz.prog 30 3 (.agg #[.int .i64 0, .slice none 0 0, .slice none 0 0]) 56 := Elem.of (by kernel_rfl)
theorem DV : Elem Tryz.prog 37 3 (.agg #[.int .i64 0, .int .i64 0, .int .i64 0]) 24 := Elem.of (by kernel_rfl)
theorem AI : Elem Tryz.prog 42 4 (.agg #[.int .i64 0, .int .i64 0, .int .i64 0, .slice none 0 0]) 48 := Elem.of (by kernel_rfl)
theorem Cr : Elem Tryz.prog 45 5 (.agg #[.bool false, .int .i64 0, .int .i64 0, .int .i64 0, .slice none 0 0]) 56 := Elem.of (by kernel_rfl)
theorem VG : Elem Tryz.prog 51 1 (.map none) 8 := Elem.of (by kernel_rfl)
theorem Fx : Elem Tryz.prog 53 2 (.agg #[.int .i64 0, .int .i64 0]) 16 := Elem.of (by kernel_rfl)
theorem Co : Elem Tryz.prog 62 1 (.slice none 0 0) 24 := Elem.of (by kernel_rfl)
theorem BP : Elem Tryz.prog 64 3 (.agg #[.int .i64 0, .int .i64 0, .slice none 0 0]) 40 := Elem.of (by kernel_rfl)
theorem Ww : Elem Tryz.prog 81 1 (.slice none 0 0) 24 := Elem.of (by kernel_rfl)
theorem RD : Elem Tryz.prog 93 2 (.agg #[.int .i64 0, .slice none 0 0]) 32 := Elem.of (by kernel_rfl)
theorem Dv : Elem Tryz.prog 95 2 (.agg #[.int .i64 0, .pointer none]) 16 := Elem.of (by kernel_rfl)
theorem G2 : Elem Tryz.prog 106 1 (.slice none 0 0) 24 := Elem.of (by kernel_rfl)
theorem Cf : Elem Tryz.prog 108 1 (.pointer none) 8 := Elem.of (by kernel_rfl)
theorem VT : Elem Tryz.prog 110 3 (.agg #[.int .i64 0, .int .i64 0, .slice none 0 0]) 40 := Elem.of (by kernel_rfl)
theorem V8 : Elem Tryz.prog 132 4 (.agg #[.int .i64 0, .int .i64 0, .slice none 0 0, .slice none 0 0]) 64 := Elem.of (by kernel_rfl)
theorem Ul : Elem Tryz.prog 147 1 (.map none) 8 := Elem.of (by kernel_rfl)
theorem V1 : Elem Tryz.prog 184 1002 (.agg (([.int .i64 0, .int .i64 0, .int .i64 0, .slice none 0 0] : List Value) ++ List.replicate 998 (Value.int .i64 0)).toArray) 8032 := Elem.of (by kernel_rfl)
theorem Uk : Elem Tryz.prog 190 3 (.agg #[.slice none 0 0, .int .i64 0, .int .i64 0]) 40 := Elem.of (by kernel_rfl)
theorem Sr : Fr Tryz.prog 30 #[(0, 1), (1, 1), (2, 1)] := ⟨_, Tryz.underlying30, fun w => by kernel_rfl⟩
theorem US : Fr Tryz.prog 37 #[(0, 1), (1, 1), (2, 1)] := ⟨_, Tryz.underlying37, fun w => by kernel_rfl⟩
theorem Gh : Fr Tryz.prog 42 #[(0, 1), (1, 1), (2, 1), (3, 1)] := ⟨_, Tryz.underlying42, fun w => by kernel_rfl⟩
theorem Pa : Fr Tryz.prog 45 #[(0, 1), (1, 4)] := ⟨_, Tryz.underlying45, fun w => by kernel_rfl⟩
theorem WC : Fr Tryz.prog 64 #[(0, 1), (1, 1), (2, 1)] := ⟨_, Tryz.underlying64, fun w => by kernel_rfl⟩
theorem PK : Fr Tryz.prog 93 #[(0, 1), (1, 1)] := ⟨_, Tryz.underlying93, fun w => by kernel_rfl⟩
theorem Oi : Fr Tryz.prog 95 #[(0, 1), (1, 1)] := ⟨_, Tryz.underlying95, fun w => by kernel_rfl⟩
theorem VW : Fr Tryz.prog 110 #[(0, 3)] := ⟨_, Tryz.underlying110, fun w => by kernel_rfl⟩
theorem V2 : Fr Tryz.prog 132 #[(0, 1), (1, 1), (2, 1), (3, 1)] := ⟨_, Tryz.underlying132, fun w => by kernel_rfl⟩
theorem V5 : Fr Tryz.prog 184 #[(0, 4), (4, 998)] := ⟨_, Tryz.underlying184, fun w => by kernel_rfl⟩
theorem Uv : Fr Tryz.prog 190 #[(0, 1), (1, 1), (2, 1)] := ⟨_, Tryz.underlying190, fun w => by kernel_rfl⟩
theorem Vr : Fld Tryz.prog 26 0 0 := ⟨_, _, _, Tryz.underlying26, rfl, rfl, Tryz.sizeOf5⟩
theorem QE : Fld Tryz.prog 26 1 1 := ⟨_, _, _, Tryz.underlying26, rfl, rfl, Tryz.sizeOf22⟩
theorem Sg : Fld Tryz.prog 26 2 2 := ⟨_, _, _, Tryz.underlying26, rfl, rfl, Tryz.sizeOf23⟩
theorem KA : Fld Tryz.prog 26 3 3 := ⟨_, _, _, Tryz.underlying26, rfl, rfl, Tryz.sizeOf24⟩
theorem Vw : Fld Tryz.prog 26 4 4 := ⟨_, _, _, Tryz.underlying26, rfl, rfl, Tryz.sizeOf4⟩
theorem CG : Fld Tryz.prog 30 0 0 := ⟨_, _, _, Tryz.underlying30, rfl, rfl, Tryz.sizeOf3⟩
theorem Bn : Fld Tryz.prog 30 1 1 := ⟨_, _, _, Tryz.underlying30, rfl, rfl, Tryz.sizeOf24⟩
theorem BQ : Fld Tryz.prog 30 2 2 := ⟨_, _, _, Tryz.underlying30, rfl, rfl, Tryz.sizeOf28⟩
theorem BE : Fld Tryz.prog 42 0 0 := ⟨_, _, _, Tryz.underlying42, rfl, rfl, Tryz.sizeOf3⟩
theorem Bh : Fld Tryz.prog 42 1 1 := ⟨_, _, _, Tryz.underlying42, rfl, rfl, Tryz.sizeOf3⟩
theorem A0 : Fld Tryz.prog 42 2 2 := ⟨_, _, _, Tryz.underlying42, rfl, rfl, Tryz.sizeOf3⟩
theorem Bc : Fld Tryz.prog 42 3 3 := ⟨_, _, _, Tryz.underlying42, rfl, rfl, Tryz.sizeOf24⟩
theorem EK : Fld Tryz.prog 45 0 0 := ⟨_, _, _, Tryz.underlying45, rfl, rfl, Tryz.sizeOf4⟩
theorem Ca : Fld Tryz.prog 45 1 1 := ⟨_, _, _, Tryz.underlying45, rfl, rfl, Tryz.sizeOf42⟩
theorem E0 : Fld Tryz.prog 64 0 0 := ⟨_, _, _, Tryz.underlying64, rfl, rfl, Tryz.sizeOf3⟩
theorem Fd : Fld Tryz.prog 64 1 1 := ⟨_, _, _, Tryz.underlying64, rfl, rfl, Tryz.sizeOf3⟩
theorem CY : Fld Tryz.prog 64 2 2 := ⟨_, _, _, Tryz.underlying64, rfl, rfl, Tryz.sizeOf62⟩
theorem Eo : Fld Tryz.prog 93 0 0 := ⟨_, _, _, Tryz.underlying93, rfl, rfl, Tryz.sizeOf3⟩
theorem C1 : Fld Tryz.prog 93 1 1 := ⟨_, _, _, Tryz.underlying93, rfl, rfl, Tryz.sizeOf62⟩
theorem D1 : Fld Tryz.prog 95 0 0 := ⟨_, _, _, Tryz.underlying95, rfl, rfl, Tryz.sizeOf3⟩
theorem CQ : Fld Tryz.prog 95 1 1 := ⟨_, _, _, Tryz.underlying95, rfl, rfl, Tryz.sizeOf91⟩
theorem C7 : Fld Tryz.prog 110 0 0 := ⟨_, _, _, Tryz.underlying110, rfl, rfl, Tryz.sizeOf64⟩
theorem EY : Fld Tryz.prog 132 0 0 := ⟨_, _, _, Tryz.underlying132, rfl, rfl, Tryz.sizeOf3⟩
theorem F9 : Fld Tryz.prog 132 1 1 := ⟨_, _, _, Tryz.underlying132, rfl, rfl, Tryz.sizeOf3⟩
theorem DL : Fld Tryz.prog 132 2 2 := ⟨_, _, _, Tryz.underlying132, rfl, rfl, Tryz.sizeOf106⟩
theorem Hj : Fld Tryz.prog 132 3 3 := ⟨_, _, _, Tryz.underlying132, rfl, rfl, Tryz.sizeOf106⟩
theorem ED : Fld Tryz.prog 184 0 0 := ⟨_, _, _, Tryz.underlying184, rfl, rfl, Tryz.sizeOf42⟩
theorem Kb : Fld Tryz.prog 184 1 4 := ⟨_, _, _, Tryz.underlying184, rfl, rfl, Tryz.sizeOf182⟩
theorem TB : Fld Tryz.prog 190 0 0 := ⟨_, _, _, Tryz.underlying190, rfl, rfl, Tryz.sizeOf24⟩
theorem N4 : Fld Tryz.prog 190 1 1 := ⟨_, _, _, Tryz.underlying190, rfl, rfl, Tryz.sizeOf3⟩
theorem NH : Fld Tryz.prog 190 2 2 := ⟨_, _, _, Tryz.underlying190, rfl, rfl, Tryz.sizeOf3⟩
end Go.Proofs.YtdnelknieikbaaaGreat
set_option maxRecDepth 100000
namespace Go.Proofs.YtdnelknieikbaaaGreat
open Go.Proofs.Tryz
open Go.Eng Go.RowKit Go.Lin
variable {p : Int}
def Dh (n : Int) : Prop := -9223372036854775808 ≤ n ∧ n ≤ 9223372036854775807
instance (n : Int) : Decidable (Dh n) := by unfold Dh; infer_instance
def IsP (p : Int) : Prop := 2 ≤ p ∧ p ≤ 997 ∧ ∀ k, k < p.toNat → 2 ≤ k → p.toNat % k ≠ 0
instance (p : Int) : Decidable (IsP p) := by unfold IsP; infer_instance
theorem IsP.prm (h : IsP p) : Prm p.toNat := by
 obtain ⟨h1, h2, h3⟩ := h
 refine GZ (by omega) fun k hk hkk => h3 k ?_ hk
 have : 2 * k ≤ k * k := Nat.mul_le_mul_right k hk
 omega
theorem IsP.fld (h : IsP p) : Fld p := by
 have := h.prm.fld
 rwa [Int.toNat_of_nonneg (by have := h.1; omega)] at this
theorem J4 (h2 : 2 ≤ p) (h9 : p ≤ 997) (j : Nat) (hj : p < (j : Int) * j) (h : ∀ k, 2 ≤ k → k < j → p.toNat % k ≠ 0) : IsP p := by
 refine ⟨h2, h9, fun k hk h2k he => ?_⟩
 have hp : Prm p.toNat := by
  refine GZ (by omega) fun k hk hkk => h k hk (Nat.lt_of_not_le fun hle => ?_)
  have h1 : j * j ≤ k * k := Nat.mul_le_mul hle hle
  have h2 : ((j * j : Nat) : Int) = (j : Int) * j := by simp
  omega
 rcases hp.2 k (Nat.dvd_of_mod_eq_zero he) with h | h <;> omega
theorem NW (hp : 0 ≤ p) (k : Nat) (hk : 0 < k) : p % (k : Int) = ((p.toNat % k : Nat) : Int) := by
 rw [Int.natCast_emod, Int.toNat_of_nonneg hp]
theorem QW (p : Int) (h : Hp) (hI : Dh p) : FnT Tryz.prog 70 #[.int .i64 p] h [] (fun r _ _ => r = .bool (decide (IsP p))) := by
 have hI1 := hI.1
 have hI2 := hI.2
 refine Av func70 ntmps70 rfl rfl (fun w0 hw0 => ?_)
 simp only [A4]
 refine Ax (Qm rfl (Aq (Ac (Ax (Qm rfl (Qm rfl (Qm rfl ?_)))))))
 refine AR (t := 6) rfl (fun hs => ?_) (fun hs => ?_)
 ·refine Qk rfl (Qk rfl (Qm rfl (Aq (AU rfl (Ax (Qm rfl (Aq (Ao (Ae ?_)))))))))
  exact Am rfl rfl (by rw [decide_eq_false]; exact fun h => absurd h.1 (by omega))
 ·refine Qg (As rfl rfl) rfl (Qg (Dd rfl rfl rfl) rfl (Qm rfl (Aq ?_)))
  refine AF rfl (fun hs2 => ?_) (fun hs2 => ?_)
  ·refine Ac (Ad (Qm rfl (Aq (Ao (Ae ?_)))))
   exact Am rfl rfl (by rw [decide_eq_false]; exact fun h => absurd h.2.1 (by omega))
  ·refine Ai (Ab (Ac (Ax (Qm rfl (Aq (Ag ?_))))))
   refine AD (fun n s h' ms' => ∃ (k : Nat), n = 1000 - k ∧ s = [(0, .int .i64 p), (3, .int .i64 k)] ∧ h = h' ∧ ms' = [] ∧ 2 ≤ k ∧ k ≤ 1000 ∧ ∀ j, 2 ≤ j → j < k → p.toNat % j ≠ 0)
    (1000 - 2) _ ⟨2, rfl, rfl, rfl, rfl, by omega, by omega, fun j h1 h2 => by omega⟩ Qs ?_
   rintro n s h' ms' ⟨k, rfl, rfl, rfl, rfl, h2, hk, hno⟩
   have hkk : (k : Int) * k ≤ 1000 * 1000 := by
    have h1 : k * k ≤ 1000 * 1000 := Nat.mul_le_mul hk hk
    have h2 : ((k * k : Nat) : Int) = (k : Int) * k := by simp
    omega
   have hkk0 : 0 ≤ (k : Int) * k := Int.mul_nonneg (by omega) (by omega)
   have hk4 : 2 * (k : Int) ≤ (k : Int) * k := Int.mul_le_mul_of_nonneg_right (by omega) (by omega)
   refine Ac (Ax (Qm rfl (Qm rfl (Qx (oM rfl) rfl (Qm rfl (Qm rfl (Aq ?_)))))))
   refine AF rfl (fun hlt => ?_) (fun hlt => ?_)
   ·refine Ai (Ab (Ac (Ag (Ax (Qm rfl (Qm rfl (Qx (B0 rfl rfl rfl (by omega) (by omega)) rfl (Qm rfl (Aq ?_)))))))))
    have hm := NW (p := p) (by omega) k (by omega)
    refine AF rfl (fun hz => ?_) (fun hz => ?_)
    ·refine Ac (Ad (Qm rfl (Aq (Ao (Ap (Ae (Ae (Ap (Ae ?_)))))))))
     exact Am rfl rfl (by rw [decide_eq_false]; exact fun h => absurd (show p.toNat % k = 0 by omega) (h.2.2 k (by omega) h2))
    ·refine Ai (Aj (Ab (Ad (Qm rfl (Qx (oA rfl) rfl (Qm rfl (Ak ?_)))))))
     refine Al (1000 - (k + 1)) _ (by omega) ⟨k + 1, rfl, rfl, rfl, rfl, by omega, by omega, fun j h1 h3 => ?_⟩ Qs
     rcases (by omega : j < k ∨ j = k) with h4 | h4
     ·exact hno j h1 h4
     ·subst h4; omega
   ·refine Aw (Aa (Aa (Af (Ab (Ax (Qm rfl (Aq (Ao ?_))))))))
    exact Am rfl rfl (by rw [decide_eq_true]; exact J4 (by omega) (by omega) k (by omega) hno)
theorem N3 (p : Int) (h : Hp) (hI : Dh p) (ms : List Hp) : Dq Tryz.prog 70 #[.int .i64 p] h ms (.bool (decide (IsP p))) := by
 refine fun w hw => (?_ : Dq _ _ _ h [] _) w (hw.weaken (Hp.le_refl _) (List.nil_sublist _))
 exact FnT.toV (QW p h hI)
def Es (rows cols : Int) : Prop := 0 ≤ rows ∧ 0 ≤ cols ∧ rows ≤ 400 ∧ cols ≤ 400
instance (r c : Int) : Decidable (Es r c) := by unfold Es; infer_instance
theorem TU (p r c : Int) (h : Hp) (hI : Dh p) : FnT Tryz.prog 100 #[.int .i64 p, .int .i64 r, .int .i64 c] h [] (fun x _ _ => x = .bool (decide (IsP p ∧ Es r c))) := by
 refine Av func100 ntmps100 rfl rfl (fun w0 hw0 => ?_)
 simp only [A4]
 refine Ax (Qm rfl (B3 (Qm rfl (Qx (AG rfl call70 rfl (N3 _ _ hI _)) rfl (Qm rfl ?_)))))
 refine AR (t := 9) rfl (fun hs => ?_) (fun hs => ?_)
 ·refine Qg (As rfl rfl) rfl (Qg (As rfl rfl) rfl (Qg (MX rfl rfl rfl) rfl (Qg (DU rfl rfl rfl) rfl (Qm rfl (Qm rfl ?_)))))
  refine AR (t := 15) rfl (fun hs2 => ?_) (fun hs2 => ?_)
  ·refine Qg (As rfl rfl) rfl (Qg (As rfl rfl) rfl (Qg (JV rfl rfl rfl) rfl (Qg (JX rfl rfl rfl) rfl (Qm rfl (Qm rfl (Aq (Ao ?_)))))))
   exact Am rfl rfl (by unfold Es; congr 1; rw [decide_eq_decide]; simp only [hs, true_and]; omega)
  ·refine Qk rfl (Qk rfl (Qk rfl (Qk rfl (Qm rfl (Qm rfl (Aq (Ao ?_)))))))
   exact Am rfl rfl (by unfold Es; rw [decide_eq_false]; rintro ⟨_, h1⟩; omega)
 ·refine Qk rfl (Qk rfl (Qk rfl (Qk rfl (Qm rfl (Qm rfl (Qk rfl (Qk rfl (Qk rfl (Qk rfl (Qm rfl (Qm rfl (Aq (Ao ?_)))))))))))))
  exact Am rfl rfl (by rw [decide_eq_false]; exact fun h => hs h.1)
theorem Q7 (p r c : Int) (h : Hp) (hI : Dh p) (ms : List Hp) : Dq Tryz.prog 100 #[.int .i64 p, .int .i64 r, .int .i64 c] h ms (.bool (decide (IsP p ∧ Es r c))) := by
 refine fun w hw => (?_ : Dq _ _ _ h [] _) w (hw.weaken (Hp.le_refl _) (List.nil_sublist _))
 exact FnT.toV (TU p r c h hI)
end Go.Proofs.YtdnelknieikbaaaGreat
namespace Go.Proofs.YtdnelknieikbaaaGreat
open Go.Proofs.Tryz
open Go.Eng Go.RowKit Go.Lin
variable {l : List Int}
theorem Ds {P : Program} {f : FuncId} {args : Array Value} {h : Hp} {v : Value} (k : FnT P f args h [] (fun r _ _ => r = v)) (ms : List Hp) : Dq P f args h ms v := by
 refine fun w hw => (?_ : Dq _ _ _ h [] _) w (hw.weaken (Hp.le_refl _) (List.nil_sublist _))
 exact FnT.toV k
def TE (l : List Int) (p : Int → Bool) : Int := match l.findIdx? p with | some i => i | none => -1
theorem GA {p : Int → Bool} {k : Nat} (hk : k < l.length) (hp : p l[k] = true) (hn : ∀ j (hj : j < k), p (l[j]'(by omega)) = false) : TE l p = k := by
 unfold TE
 have : l.findIdx? p = some k := by
  rw [List.findIdx?_eq_some_iff_getElem]
  exact ⟨hk, hp, fun j hj => by simp [hn j hj]⟩
 rw [this]
theorem Hc {p : Int → Bool} (hn : ∀ j (hj : j < l.length), p l[j] = false) : TE l p = -1 := by
 unfold TE
 have : l.findIdx? p = none := by
  rw [List.findIdx?_eq_none_iff]
  intro x hx
  obtain ⟨j, hj, rfl⟩ := List.mem_iff_getElem.1 hx
  exact hn j hj
 rw [this]
theorem N0 (l : List Int) (p : Int → Bool) : decide (0 ≤ TE l p) = l.any p := by
 unfold TE
 cases h : l.findIdx? p with
 | none => rw [List.findIdx?_eq_none_iff] at h; simp; exact h
 | some i =>
  rw [List.findIdx?_eq_some_iff_getElem] at h
  obtain ⟨h1, h2, _⟩ := h
  simp
  exact ⟨_, List.getElem_mem h1, h2⟩
theorem J9 (l : List Int) (vl : Value) (cf : FuncId) (cs : List Value) (p : Int → Bool) (h : Hp) (hR : RdL cI 1 h [] vl l)
  (hc : ∀ xs w, (callFunc cf xs).run Tryz.prog w = .ok (.enter cf xs) w)
  (hp : ∀ b ∈ l, ∀ ms, Dq Tryz.prog cf ([] ++ [Value.int .i64 b] ++ cs).toArray h ms (.bool (p b))) :
  FnT Tryz.prog 119 #[vl, .func (.func cf) #[] cs.toArray] h [] (fun r _ _ => r = .int .i64 (TE l p)) := by
 have hl := hR.len_le
 refine Av func119 ntmps119 rfl rfl (fun w0 hw0 => ?_)
 simp only [A4]
 refine Ax (Qm rfl (Aq (Ac (Ax (Qm rfl (Qx (AJ hR.rd.any rfl underlying24 rfl) rfl (Qm rfl (Aq (Ag ?_)))))))))
 refine AD (fun n s h' ms' => ∃ (k : Nat), n = l.length - k ∧ s = [(0, vl), (1, .func (.func cf) #[] cs.toArray), (7, .int .i64 l.length), (8, .int .i64 k)] ∧ h = h' ∧ ms' = [] ∧ k ≤ l.length ∧ ∀ j (hj : j < l.length), j < k → p l[j] = false)
  (l.length - 0) _ ⟨0, rfl, rfl, rfl, rfl, by omega, fun j hj h => by omega⟩ Qs ?_
 rintro n s h' ms' ⟨k, rfl, rfl, rfl, rfl, hk, hno⟩
 refine Ax (Qm rfl (Aq (Ac ?_)))
 refine AF rfl (fun hlt => ?_) (fun hlt => ?_)
 ·have hlt' : k < l.length := by omega
  refine Ai (Ab (Ac (Ag (Ax (Qm rfl (Qm rfl (B3 (Qm rfl (Qm rfl (Qm rfl (Qx (Ah _ hR.rd.any rfl underlying24 A8 rfl rfl rfl (by omega)) rfl (Ql rfl underlying3 (hR.any.cell0 hlt' rfl) (Qx (En rfl rfl hc rfl (hp _ (List.getElem_mem hlt') _)) rfl (Aq ?_))))))))))))))
  refine BJ rfl (fun hpk => ?_) (fun hpk => ?_)
  ·refine Ac (Ad (Qm rfl (Qm rfl (Aq (Ao (Ap (Ae (Ae (Ap (Ae ?_))))))))))
   exact Am rfl rfl (by rw [GA hlt' hpk fun j hj => hno j _ hj])
  ·refine Ai (Aj (Ab (Ad (Qx (oA rfl) rfl (Qm rfl (Ak ?_))))))
   refine Al (l.length - (k + 1)) _ (by omega) ⟨k + 1, rfl, rfl, rfl, rfl, by omega, fun j hj h1 => ?_⟩ Qs
   rcases (by omega : j < k ∨ j = k) with h2 | rfl
   ·exact hno j hj h2
   ·exact hpk
 ·refine Aw (Aa (Aa (Af (Ab (Ax (Qm rfl (Aq (Ao ?_))))))))
  exact Am rfl rfl (by rw [Hc fun j hj => hno j hj (by omega)])
theorem Ft (l : List Int) (vl : Value) (cf : FuncId) (cs : List Value) (p : Int → Bool) (h : Hp) (hR : RdL cI 1 h [] vl l)
  (hc : ∀ xs w, (callFunc cf xs).run Tryz.prog w = .ok (.enter cf xs) w)
  (hp : ∀ b ∈ l, ∀ ms, Dq Tryz.prog cf ([] ++ [Value.int .i64 b] ++ cs).toArray h ms (.bool (p b))) :
  FnT Tryz.prog 94 #[vl, .func (.func cf) #[] cs.toArray] h [] (fun r _ _ => r = .bool (l.any p)) := by
 refine Av func94 ntmps94 rfl rfl (fun w0 hw0 => ?_)
 simp only [A4]
 refine Ax (Qm rfl (B3 (Qm rfl (Qm rfl (Qx (AG rfl call119 rfl (Ds (J9 l vl cf cs p h hR hc hp) _)) rfl (Qm rfl (Qm rfl (Aq (Ao ?_)))))))))
 exact Am rfl rfl (by rw [← N0])
structure FM where
 p : Int
 rows : Int
 cols : Int
 e : List Int
def FM.nil : FM := ⟨0, 0, 0, []⟩
def FM.Rt (M : FM) : Prop := IsP M.p ∧ Es M.rows M.cols ∧ (M.e.length : Int) = M.rows * M.cols ∧ ∀ x ∈ M.e, 0 ≤ x ∧ x < M.p
instance (M : FM) : Decidable M.Rt := by unfold FM.Rt; infer_instance
structure FM.Ok (M : FM) : Prop where
 p : Dh M.p
 r : Dh M.rows
 c : Dh M.cols
def cM (M : FM) (ev : Value) : List Value := [.int .i64 M.p, .int .i64 M.rows, .int .i64 M.cols, ev]
theorem PC (g : Nat) (n p : Int) (h : Hp) (hD : ∀ ms, Cell h ms ⟨g, 0, none⟩ (.int .i64 p)) (ms : List Hp) : Dq Tryz.prog 101 ([] ++ [Value.int .i64 n] ++ [Value.pointer (some ⟨g, 0, none⟩)]).toArray h ms (.bool (decide (n < 0 ∨ p ≤ n))) := by
 refine Ds ?_ ms
 show FnT _ _ #[.int .i64 n, .pointer (some ⟨g, 0, none⟩)] _ _ _
 refine Av func101 ntmps101 rfl rfl (fun w0 hw0 => ?_)
 simp only [A4]
 refine Ax (Qm rfl (B3 (Qm rfl (Qm rfl (Qm rfl ?_)))))
 refine AR (t := 6) rfl (fun hs => ?_) (fun hs => ?_)
 ·refine Qk rfl (Qk rfl (Qk rfl (Qk rfl (Qm rfl (Qm rfl (Aq (Ao ?_)))))))
  exact Am rfl rfl (by rw [decide_eq_true]; exact .inl hs)
 ·refine Qg (As rfl rfl) rfl (Qg (oF BE rfl) rfl (Qg (oL rfl underlying3 (hD _)) rfl (Qg (DU rfl rfl rfl) rfl (Qm rfl (Qm rfl (Aq (Ao ?_)))))))
  exact Am rfl rfl (by congr 1; rw [decide_eq_decide]; omega)
theorem TZ {p : Int} : (!l.any fun n => decide (n < 0 ∨ p ≤ n)) = decide (∀ x ∈ l, 0 ≤ x ∧ x < p) := by
 rw [Bool.eq_iff_iff]
 simp only [Bool.not_eq_true', List.any_eq_false, decide_eq_true_eq]
 exact ⟨fun h x hx => by have := h x hx; omega, fun h x hx => by have := h x hx; omega⟩
theorem Hg {r c : Int} (hF : Es r c) : 0 ≤ r * c ∧ r * c ≤ 160000 := by
 obtain ⟨h1, h2, h3, h4⟩ := hF
 refine ⟨Int.mul_nonneg h1 h2, ?_⟩
 have := Int.mul_le_mul h3 h4 h2 (by omega : (0 : Int) ≤ 400)
 omega
theorem GX (M : FM) (ev : Value) (h : Hp) (hO : M.Ok) (hR : RdL cI 1 h [] ev M.e) : FnT Tryz.prog 73 #[.agg #[.int .i64 M.p, .int .i64 M.rows, .int .i64 M.cols, ev]] h [] (fun r _ _ => r = .bool (decide M.Rt)) := by
 have hl := hR.len_le
 refine Av func73 ntmps73 rfl rfl (fun w0 hw0 => ?_)
 simp only [A4]
 refine Ax ?_
 refine AS [_, _, _, _] rfl rfl (by rfl) rfl rfl rfl (fun g1 => ?_)
 refine Qm rfl (B3 (Qf BE rfl (Ql rfl underlying3 (Cell.blk 0 rfl rfl) (Qf Bh rfl (Ql rfl underlying3 (Cell.blk 0 rfl rfl) (Qf A0 rfl (Ql rfl underlying3 (Cell.blk 0 rfl rfl) (Qx (AG rfl call100 rfl (Q7 _ _ _ _ hO.p _)) rfl (Qm rfl ?_)))))))))
 refine AR (t := 10) rfl (fun hf => ?_) (fun hf => ?_)
 ·have hm := Hg hf.2
  refine Qg (oF Bc rfl) rfl (Qg (oL rfl underlying24 (Cell.blk 0 rfl rfl)) rfl (Qg (AJ hR.rd.any rfl underlying24 rfl) rfl (Qg (oF Bh rfl) rfl (Qg (oL rfl underlying3 (Cell.blk 0 rfl rfl)) rfl (Qg (oF A0 rfl) rfl (Qg (oL rfl underlying3 (Cell.blk 0 rfl rfl)) rfl (Qg (oM rfl) rfl (Qg (EJ rfl rfl rfl) rfl (Qm rfl (Qm rfl ?_))))))))))
  refine AR (t := 21) rfl (fun he => ?_) (fun he => ?_)
  ·refine Qg (oF Bc rfl) rfl (Qg (oL rfl underlying24 (Cell.blk 0 rfl rfl)) rfl (BD fun h' hle hS => ?_))
   have hR := hR.up hle
   have hD : ∀ i v, (cM M ev)[i]? = some v → ∀ ms, Cell h' ms ((⟨g1, 0, none⟩ : Addr).add i) v := fun i v hv ms => (hS i v hv).any
   have hD0 : ∀ ms, Cell h' ms ⟨g1, 0, none⟩ (.int .i64 M.p) := fun ms => hD 0 _ rfl ms
   refine Qg (CE rfl rfl rfl) rfl (Qg (AG rfl call94 rfl (Ds (Ft M.e ev 101 [.pointer (some ⟨g1, 0, none⟩)] (fun n => decide (n < 0 ∨ M.p ≤ n)) h' hR call101 (fun b _ ms => PC g1 b M.p h' hD0 ms)) _)) rfl (Qg (CP rfl rfl) rfl (Qm rfl (Qm rfl (Aq (Ao ?_))))))
   exact Am rfl rfl (by rw [TZ]; congr 1; rw [decide_eq_decide]; unfold FM.Rt; exact ⟨fun hx => ⟨hf.1, hf.2, he, hx⟩, fun hx => hx.2.2.2⟩)
  ·refine Qk rfl (Qk rfl (Qk rfl (Qk rfl (Qk rfl (Qm rfl (Qm rfl (Aq (Ao ?_))))))))
   exact Am rfl rfl (by rw [decide_eq_false]; exact fun hx => he hx.2.2.1)
 ·refine Qk rfl (Qk rfl (Qk rfl (Qk rfl (Qk rfl (Qk rfl (Qk rfl (Qk rfl (Qk rfl (Qm rfl (Qm rfl (Qk rfl (Qk rfl (Qk rfl (Qk rfl (Qk rfl (Qm rfl (Qm rfl (Aq (Ao ?_)))))))))))))))))))
  exact Am rfl rfl (by rw [decide_eq_false]; exact fun hx => hf ⟨hx.1, hx.2.1⟩)
end Go.Proofs.YtdnelknieikbaaaGreat
namespace Go.Proofs.YtdnelknieikbaaaGreat
open Go.Proofs.Tryz
open Go.Eng Go.RowKit Go.Lin
def NB (p r c : Int) : FM := if IsP p ∧ Es r c then ⟨p, r, c, List.replicate (r * c).toNat 0⟩ else FM.nil
def EM (p : Int) (r c : Nat) (f : Nat → Nat → Int) : FM := ⟨p, r, c, mat r c f⟩
theorem DO {p : Int} {r c : Nat} (hp : IsP p) (hr : r ≤ 400) (hc : c ≤ 400) : NB p r c = EM p r c fun _ _ => 0 := by
 unfold NB EM
 rw [if_pos ⟨hp, by unfold Es; omega⟩, ← Kv, show ((r : Int) * c).toNat = r * c by rw [← Int.natCast_mul, Int.toNat_natCast]]
def Ez (r : Value) (ms : List Hp) (M : FM) : Prop := ∃ ev m, ms = [m] ∧ r = .agg #[.int .i64 M.p, .int .i64 M.rows, .int .i64 M.cols, ev] ∧ OwnL cI 1 3 m ev M.e
theorem GB (p r c : Int) (h : Hp) (hI : Dh p) : FnT Tryz.prog 106 #[.int .i64 p, .int .i64 r, .int .i64 c] h [] (fun v h' ms' => h = h' ∧ Ez v ms' (NB p r c)) := by
 refine Av func106 ntmps106 rfl rfl (fun w0 hw0 => ?_)
 simp only [A4]
 refine Ax (BZ [.int .i64 0, .int .i64 0, .int .i64 0, .slice none 0 0] rfl AI rfl rfl (fun g6 => Aq (Ac (Ax (Qm rfl (Qm rfl (Qm rfl (Qx (AG rfl call100 rfl (Q7 _ _ _ _ hI _)) rfl (Qm rfl (Aq ?_))))))))))
 refine BJ rfl (fun hf => ?_) (fun hf => ?_)
 ·have hf : ¬ (IsP p ∧ Es r c) := of_decide_eq_false (by simpa only [Bool.not_eq_true'] using hf)
  refine Ax ?_
  refine Qx (AT Gh [.int .i64 0, .int .i64 0, .int .i64 0, .slice none 0 0] [] [_, _, _, _] rfl AI rfl rfl (by repeat (first | exact trivial | refine ⟨⟨rfl, rfl, rfl⟩, ?_⟩)) rfl) rfl ?_
  refine Sa 0 [_, _, _, _] AI rfl (by simp [Value.oneCell']) ?_
  refine Aq (Ao (Ae (IN ?_)))
  exact Cl (vs := [_, _, _, _]) 1 rfl rfl underlying42 rfl AI rfl rfl (⟨rfl, _, _, rfl, by unfold NB; rw [if_neg hf]; rfl, by unfold NB; rw [if_neg hf]; exact OwnL.nil Br⟩)
 ·have hf : IsP p ∧ Es r c := of_decide_eq_true (by simpa only [Bool.not_eq_false'] using hf)
  have hm := Hg hf.2
  obtain ⟨n, hn⟩ : ∃ n : Nat, r * c = n := ⟨(r * c).toNat, by omega⟩
  refine Ai (Ab (Ax (Qm rfl (Qm rfl (Qm rfl (Qm rfl (Qm rfl (Qx (oM rfl) rfl (Eu (n := n) rfl underlying24 A8 rfl rfl rfl (by omega) (by omega) (by omega) (by omega) rfl rfl rfl (fun g19 => ?_))))))))))
  refine Qx (AT Gh [.int .i64 0, .int .i64 0, .int .i64 0, .slice none 0 0] [(0, _), (1, _), (2, _), (3, _)] [_, _, _, _] rfl AI rfl rfl (by repeat (first | exact trivial | refine ⟨⟨rfl, rfl, rfl⟩, ?_⟩)) rfl) rfl ?_
  refine Sa 1 [_, _, _, _] AI rfl (by simp [Value.oneCell']) ?_
  refine Aq (Ao ?_)
  exact Cl (vs := [_, _, _, _]) 1 rfl rfl underlying42 rfl AI rfl rfl (⟨rfl, _, _, rfl, by unfold NB; rw [if_pos hf], by unfold NB; rw [if_pos hf, hn]; exact OwnL.rep n 0 (by omega)⟩)
def Dl (i j : Nat) : Int := if i = j then 1 else 0
theorem NY (k : Nat) (i j : Nat) : DB (fun i j => if i = j ∧ i < k then 1 else 0) k k 1 i j = if i = j ∧ i < k + 1 then 1 else 0 := by
 unfold DB
 by_cases h : i = k ∧ j = k
 ·rw [if_pos h, if_pos (by omega)]
 ·rw [if_neg h]
  show (if i = j ∧ i < k then 1 else 0) = _
  by_cases h2 : i = j ∧ i < k
  ·rw [if_pos h2, if_pos (by omega)]
  ·rw [if_neg h2, if_neg (by omega)]
theorem J3 (p : Int) (n : Nat) (h : Hp) (hp : IsP p) (hn : n ≤ 400) : FnT Tryz.prog 87 #[.int .i64 p, .int .i64 n] h [] (fun v h' ms' => h = h' ∧ Ez v ms' (EM p n n Dl)) := by
 have hI : Dh p := ⟨by have := hp.1; omega, by have := hp.2.1; omega⟩
 refine Av func87 ntmps87 rfl rfl (fun w0 hw0 => ?_)
 simp only [A4]
 refine Ax (BZ [.int .i64 0, .int .i64 0, .int .i64 0, .slice none 0 0] rfl AI rfl rfl (fun g4 => B3 (Qm rfl (Qm rfl (Qm rfl (Qc call106 rfl (GB p n n h hI) (fun v h1 ms1 l1 hF => ?_)))))))
 obtain ⟨rfl, ev, m, rfl, rfl, hO⟩ := hF
 rw [DO hp hn hn] at hO ⊢
 have hO2 := hO.own.1
 have he1 : ev.oneCell' = true := (hO.rd (h := h) (ms := [m]) (List.Mem.head _)).rd.one
 refine BZ [.int .i64 0, .int .i64 0, .int .i64 0, .slice none 0 0] rfl AI rfl rfl (fun g5 => ?_)
 refine Sa 0 [_, _, _, _] AI rfl (by simp [he1]) ?_
 refine Aq (Ac (Ax (Qf Bh rfl (Ql rfl underlying3 (Cell.blk 0 rfl rfl) (Qm rfl (Aq (Ag ?_)))))))
 refine AD (fun q s h' ms' => ∃ (k : Nat) (m : Hp), q = n - k ∧ s = [(1, .int .i64 n), (4, .pointer (some ⟨g4, 0, none⟩)), (5, .pointer (some ⟨g5, 0, none⟩)), (12, .int .i64 n), (13, .int .i64 k)] ∧ h = h' ∧ ms' = [AX g5 42 [.int .i64 p, .int .i64 n, .int .i64 n, ev], m, AX g4 42 [.int .i64 0, .int .i64 0, .int .i64 0, .slice none 0 0]] ∧ k ≤ n ∧ OwnL cI 1 3 m ev (mat n n fun i j => if i = j ∧ i < k then 1 else 0))
  (n - 0) _ ⟨0, m, rfl, rfl, rfl, rfl, by omega, by rw [AO (g := fun _ _ => 0) (fun i _ j _ => if_neg (by omega))]; exact hO⟩ Qs ?_
 rintro q s h' ms' ⟨k, m, rfl, rfl, rfl, rfl, hk, hO⟩
 refine Ax (Qm rfl (Aq (Ac ?_)))
 refine AF rfl (fun hlt => ?_) (fun hlt => ?_)
 ·have hkn : k < n := by omega
  have hix := Cp hkn hkn
  have hl : (mat n n fun i j => if i = j ∧ i < k then 1 else 0).length = n * n := AY _ _ _
  have hkk : k * n ≤ 400 * 400 := Nat.mul_le_mul (by omega) hn
  refine Ai (Ab (Ac (Ag (Ax (Qm rfl (Qm rfl (IA (Qf Bc rfl (Ql rfl underlying24 (Cell.blk 0 rfl rfl) (Qm rfl (Qm rfl (Qx (oM rfl) rfl (Qm rfl (Qx (oA rfl) rfl (Qx (Ah (k * n + k) (hO.rd (List.Mem.tail _ (List.Mem.head _))).rd rfl underlying24 A8 rfl rfl (by omega) (by omega)) rfl (Bu 1 (k * n + k) hO rfl A8 rfl rfl rfl (by omega) rfl rfl (fun m' hO' => Ak (Aj (Ab (Ad (Qx (oA rfl) rfl (Qm rfl (Ak ?_)))))))))))))))))))))))
  refine Al (n - (k + 1)) _ (by omega) ⟨k + 1, m', rfl, rfl, rfl, rfl, by omega, ?_⟩ Qs
  rw [C4 _ hkn, AO (fun i _ j _ => NY k i j)] at hO'
  exact hO'
 ·refine Aw (Aa (Aa (Af (Ab (Ax (Qx (oG rfl underlying42 AI (Seg.blk 0 rfl)) rfl ?_))))))
  refine Sa 2 [_, _, _, _] AI rfl (by simp [he1]) ?_
  refine Aq (Ao (A5 ?_))
  exact Cl (vs := [_, _, _, _]) 1 rfl rfl underlying42 rfl AI rfl rfl (⟨rfl, ev, m, rfl, rfl, by rw [show k = n by omega, AO (g := Dl) (fun i hi j hj => by unfold Dl; simp only [hi, and_true])] at hO; exact hO⟩)
end Go.Proofs.YtdnelknieikbaaaGreat
namespace Go.Proofs.YtdnelknieikbaaaGreat
open Go.Proofs.Tryz
open Go.Eng Go.RowKit Go.Lin
theorem Px (p : Int) (h : Hp) (hI : Dh p) : FnT Tryz.prog 45 #[.int .i64 p] h [] (fun r _ _ => r = .bool (decide (IsP p))) := by
 have hI1 := hI.1
 have hI2 := hI.2
 refine Av func45 ntmps45 rfl rfl (fun w0 hw0 => ?_)
 simp only [A4]
 refine Ax (Qm rfl (Aq (Ac (Ax (Qm rfl (Qm rfl (Qm rfl ?_)))))))
 refine AR (t := 6) rfl (fun hs => ?_) (fun hs => ?_)
 ·refine Qk rfl (Qk rfl (Qm rfl (Aq (AU rfl (Ax (Qm rfl (Aq (Ao (Ae ?_)))))))))
  exact Am rfl rfl (by rw [decide_eq_false]; exact fun h => absurd h.1 (by omega))
 ·refine Qg (As rfl rfl) rfl (Qg (Dd rfl rfl rfl) rfl (Qm rfl (Aq ?_)))
  refine AF rfl (fun hs2 => ?_) (fun hs2 => ?_)
  ·refine Ac (Ad (Qm rfl (Aq (Ao (Ae ?_)))))
   exact Am rfl rfl (by rw [decide_eq_false]; exact fun h => absurd h.2.1 (by omega))
  ·refine Ai (Ab (Ac (Ax (Qm rfl (Aq (Ag ?_))))))
   refine AD (fun n s h' ms' => ∃ (k : Nat), n = 1000 - k ∧ s = [(0, .int .i64 p), (3, .int .i64 k)] ∧ h = h' ∧ ms' = [] ∧ 2 ≤ k ∧ k ≤ 1000 ∧ ∀ j, 2 ≤ j → j < k → p.toNat % j ≠ 0)
    (1000 - 2) _ ⟨2, rfl, rfl, rfl, rfl, by omega, by omega, fun j h1 h2 => by omega⟩ Qs ?_
   rintro n s h' ms' ⟨k, rfl, rfl, rfl, rfl, h2, hk, hno⟩
   refine Ac (Ax (Qm rfl (Qm rfl (Qm rfl (Aq ?_)))))
   refine AF rfl (fun hlt => ?_) (fun hlt => ?_)
   ·refine Ai (Ab (Ac (Ag (Ax (Qm rfl (Qm rfl (Qx (B0 rfl rfl rfl (by omega) (by omega)) rfl (Qm rfl (Aq ?_)))))))))
    have hm := NW (p := p) (by omega) k (by omega)
    refine AF rfl (fun hz => ?_) (fun hz => ?_)
    ·refine Ac (Ad (Qm rfl (Aq (Ao (Ap (Ae (Ae (Ap (Ae ?_)))))))))
     exact Am rfl rfl (by rw [decide_eq_false]; exact fun h => absurd (show p.toNat % k = 0 by omega) (h.2.2 k (by omega) h2))
    ·refine Ai (Aj (Ab (Ad (Qm rfl (Qx (oA rfl) rfl (Qm rfl (Ak ?_)))))))
     refine Al (1000 - (k + 1)) _ (by omega) ⟨k + 1, rfl, rfl, rfl, rfl, by omega, by omega, fun j h1 h3 => ?_⟩ Qs
     rcases (by omega : j < k ∨ j = k) with h4 | h4
     ·exact hno j h1 h4
     ·subst h4; omega
   ·refine Aw (Aa (Aa (Af (Ab (Ax (Qm rfl (Aq (Ao ?_))))))))
    exact Am rfl rfl (by rw [decide_eq_true]; exact ⟨by omega, by omega, fun j h1 h2 => hno j h2 (by omega)⟩)
theorem Is (p : Int) (h : Hp) (hI : Dh p) (ms : List Hp) : Dq Tryz.prog 45 #[.int .i64 p] h ms (.bool (decide (IsP p))) := Ds (Px p h hI) ms
theorem RY (r c : Int) (h : Hp) : FnT Tryz.prog 47 #[.int .i64 r, .int .i64 c] h [] (fun x _ _ => x = .bool (decide (Es r c))) := by
 refine Av func47 ntmps47 rfl rfl (fun w0 hw0 => ?_)
 simp only [A4]
 refine Ax (Qm rfl (B3 (Qm rfl (Qm rfl (Qm rfl ?_)))))
 refine AR (t := 7) rfl (fun hs => ?_) (fun hs => ?_)
 ·refine Qg (As rfl rfl) rfl (Qg (DU rfl rfl rfl) rfl (Qm rfl (Qm rfl ?_)))
  refine AR (t := 11) rfl (fun hs2 => ?_) (fun hs2 => ?_)
  ·refine Qg (As rfl rfl) rfl (Qg (JX rfl rfl rfl) rfl (Qm rfl (Qm rfl ?_)))
   refine AR (t := 15) rfl (fun hs3 => ?_) (fun hs3 => ?_)
   ·refine Qg (As rfl rfl) rfl (Qg (JX rfl rfl rfl) rfl (Qm rfl (Qm rfl (Aq (Ao ?_)))))
    exact Am rfl rfl (by congr 1; rw [decide_eq_decide]; unfold Es; omega)
   ·refine Qk rfl (Qk rfl (Qm rfl (Qm rfl (Aq (Ao ?_)))))
    exact Am rfl rfl (by rw [decide_eq_false]; unfold Es; omega)
  ·refine Qk rfl (Qk rfl (Qm rfl (Qm rfl (Qk rfl (Qk rfl (Qm rfl (Qm rfl (Aq (Ao ?_)))))))))
   exact Am rfl rfl (by rw [decide_eq_false]; unfold Es; omega)
 ·refine Qk rfl (Qk rfl (Qm rfl (Qm rfl (Qk rfl (Qk rfl (Qm rfl (Qm rfl (Qk rfl (Qk rfl (Qm rfl (Qm rfl (Aq (Ao ?_)))))))))))))
  exact Am rfl rfl (by rw [decide_eq_false]; unfold Es; omega)
theorem Nt (r c : Int) (h : Hp) (ms : List Hp) : Dq Tryz.prog 47 #[.int .i64 r, .int .i64 c] h ms (.bool (decide (Es r c))) := Ds (RY r c h) ms
theorem ER (M : FM) (ev : Value) (h : Hp) (hO : M.Ok) (hR : RdL cI 1 h [] ev M.e) : FnT Tryz.prog 46 #[.agg #[.int .i64 M.p, .int .i64 M.rows, .int .i64 M.cols, ev]] h [] (fun r _ _ => r = .bool (decide M.Rt)) := by
 have hl := hR.len_le
 refine Av func46 ntmps46 rfl rfl (fun w0 hw0 => ?_)
 simp only [A4]
 refine Ax ?_
 refine AS [_, _, _, _] rfl rfl (by rfl) rfl rfl rfl (fun g1 => ?_)
 refine Qm rfl (B3 (Qf BE rfl (Ql rfl underlying3 (Cell.blk 0 rfl rfl) (Qx (AG rfl call45 rfl (Is _ _ hO.p _)) rfl (Qm rfl (B3 (Qf Bh rfl (Ql rfl underlying3 (Cell.blk 0 rfl rfl) (Qf A0 rfl (Ql rfl underlying3 (Cell.blk 0 rfl rfl) (Qx (AG rfl call47 rfl (Nt _ _ _ _)) rfl (Qm rfl (Aq (Ac (Ax (Qm rfl (Qm rfl (Qm rfl ?_))))))))))))))))))
 refine CO (t := 16) rfl (fun hp => ?_) (fun hp => ?_)
 ·refine Qk rfl (Qk rfl (Qm rfl (Qm rfl (Qk rfl (Qk rfl (Qk rfl (Qk rfl (Qk rfl (Qk rfl (Qk rfl (Qk rfl (Qk rfl (Qm rfl (Aq (AU rfl (Ax (Qm rfl (Aq (Ao (Ae ?_))))))))))))))))))))
  exact Am rfl rfl (by rw [decide_eq_false]; exact fun hx => absurd hx.1 (by simpa using hp))
 ·have hp : IsP M.p := by simpa using hp
  refine Qg (As rfl rfl) rfl (Qg (CP rfl rfl) rfl (Qm rfl (Qm rfl ?_)))
  refine CO (t := 20) rfl (fun hf => ?_) (fun hf => ?_)
  ·refine Qk rfl (Qk rfl (Qk rfl (Qk rfl (Qk rfl (Qk rfl (Qk rfl (Qk rfl (Qk rfl (Qm rfl (Aq (AU rfl (Ax (Qm rfl (Aq (Ao (Ae ?_))))))))))))))))
   exact Am rfl rfl (by rw [decide_eq_false]; exact fun hx => absurd hx.2.1 (by simpa using hf))
  ·have hf : Es M.rows M.cols := by simpa using hf
   have hm := Hg hf
   refine Qg (oF Bc rfl) rfl (Qg (oL rfl underlying24 (Cell.blk 0 rfl rfl)) rfl (Qg (AJ hR.rd.any rfl underlying24 rfl) rfl (Qg (oF Bh rfl) rfl (Qg (oL rfl underlying3 (Cell.blk 0 rfl rfl)) rfl (Qg (oF A0 rfl) rfl (Qg (oL rfl underlying3 (Cell.blk 0 rfl rfl)) rfl (Qg (oM rfl) rfl (Qg (B4 rfl rfl rfl) rfl (Qm rfl (Aq ?_))))))))))
   refine AF rfl (fun hlen => ?_) (fun hlen => ?_)
   ·refine Ac (Ad (Qm rfl (Aq (Ao (Ae ?_)))))
    exact Am rfl rfl (by rw [decide_eq_false]; exact fun hx => hlen hx.2.2.1)
   ·have hlen : (M.e.length : Int) = M.rows * M.cols := Decidable.not_not.1 hlen
    refine Ai (Ab (Ac (Ax (Qm rfl (Aq (Ag ?_))))))
    refine AD (fun n s h' ms' => ∃ (k : Nat), n = M.e.length - k ∧ s = [(1, .pointer (some ⟨g1, 0, none⟩)), (5, .int .i64 k)] ∧ h = h' ∧ ms' = [AX g1 42 [.int .i64 M.p, .int .i64 M.rows, .int .i64 M.cols, ev]] ∧ k ≤ M.e.length ∧ ∀ x ∈ M.e.take k, 0 ≤ x ∧ x < M.p)
     (M.e.length - 0) _ ⟨0, rfl, rfl, rfl, rfl, by omega, by simp⟩ Qs ?_
    rintro n s h' ms' ⟨k, rfl, rfl, rfl, rfl, hk, hno⟩
    refine Ac (Ax (Qm rfl (Qf Bc rfl (Ql rfl underlying24 (Cell.blk 0 rfl rfl) (Qx (AJ hR.rd.any rfl underlying24 rfl) rfl (Qm rfl (Aq ?_)))))))
    refine AF rfl (fun hlt => ?_) (fun hlt => ?_)
    ·have hlt' : k < M.e.length := by omega
     refine Ai (Ab (Ac (Ag (Ac (BB 14 Cd (by kernel_rfl) rfl (Wf Bc rfl (Wl rfl underlying24 (Cell.blk 0 rfl rfl) (Wm rfl (AV (Ah _ hR.rd.any rfl underlying24 A8 rfl rfl rfl (by omega)) rfl rfl (Wl rfl underlying3 (hR.any.cell0 hlt' rfl) (Wm rfl (Wm rfl ?_))))))))))))
     refine DR (t := 44) rfl (fun hs => ?_) (fun hs => ?_)
     ·refine AN rfl rfl rfl rfl rfl (AN rfl rfl rfl rfl rfl (AN rfl rfl rfl rfl rfl (AN rfl rfl rfl rfl rfl (AN rfl rfl rfl rfl rfl (AN rfl rfl rfl rfl rfl (AN rfl rfl rfl rfl rfl (BC (Qk rfl (Qm rfl (Aq (AU rfl (Ax (Qm rfl (Aq (Ao (Ap (Ae (Ae (Ap (Ae ?_))))))))))))))))))))
      exact Am rfl rfl (by rw [decide_eq_false]; exact fun hx => by have := hx.2.2.2 _ (List.getElem_mem hlt'); omega)
     ·refine Bp (oF Bc rfl) rfl rfl rfl rfl (Bp (oL rfl underlying24 (Cell.blk 0 rfl rfl)) rfl rfl rfl rfl (Bp (As rfl rfl) rfl rfl rfl rfl (Bp (Ah _ hR.rd.any rfl underlying24 A8 rfl rfl rfl (by omega)) rfl rfl rfl rfl (Bp (oL rfl underlying3 (hR.any.cell0 hlt' rfl)) rfl rfl rfl rfl (Bp (oF BE rfl) rfl rfl rfl rfl (Bp (oL rfl underlying3 (Cell.blk 0 rfl rfl)) rfl rfl rfl rfl (BC (Qg (DU rfl rfl rfl) rfl (Qm rfl (Aq ?_))))))))))
      refine AF rfl (fun hs2 => ?_) (fun hs2 => ?_)
      ·refine Ac (Ad (Qm rfl (Aq (Ao (Ap (Ae (Ae (Ap (Ae ?_)))))))))
       exact Am rfl rfl (by rw [decide_eq_false]; exact fun hx => by have := hx.2.2.2 _ (List.getElem_mem hlt'); omega)
      ·refine Ai (Aj (Ab (Ad (Qm rfl (Qx (oA rfl) rfl (Qm rfl (Ak ?_)))))))
       refine Al (M.e.length - (k + 1)) _ (by omega) ⟨k + 1, rfl, rfl, rfl, rfl, by omega, ?_⟩ Qs
       intro x hx
       rw [List.take_add_one, List.getElem?_eq_getElem hlt'] at hx
       rcases List.mem_append.1 hx with hx | hx
       ·exact hno x hx
       ·simp at hx; subst hx; omega
    ·refine Aw (Aa (Aa (Af (Ab (Ax (Qm rfl (Aq (Ao ?_))))))))
     exact Am rfl rfl (by rw [decide_eq_true]; exact ⟨hp, hf, hlen, fun x hx => hno x (by rw [List.take_of_length_le (by omega)]; exact hx)⟩)
theorem FN (p r c : Int) (h : Hp) (hI : Dh p) : FnT Tryz.prog 23 #[.int .i64 p, .int .i64 r, .int .i64 c] h [] (fun v h' ms' => h = h' ∧ Ez v ms' (NB p r c)) := by
 refine Av func23 ntmps23 rfl rfl (fun w0 hw0 => ?_)
 simp only [A4]
 refine Ax (BZ [.int .i64 0, .int .i64 0, .int .i64 0, .slice none 0 0] rfl AI rfl rfl (fun g6 => B3 (Qm rfl (Qx (AG rfl call45 rfl (Is _ _ hI _)) rfl (Qm rfl (B3 (Qm rfl (Qm rfl (Qx (AG rfl call47 rfl (Nt _ _ _ _)) rfl (Qm rfl (Aq (Ac (Ax (Qm rfl (Qm rfl (Qm rfl ?_))))))))))))))))
 refine CO (t := 16) rfl (fun hp => ?_) (fun hp => ?_)
 ·have hp : ¬ IsP p := by simpa using hp
  refine Qk rfl (Qk rfl (Qm rfl (Aq (AU rfl (Ax ?_)))))
  refine Qx (AT Gh [.int .i64 0, .int .i64 0, .int .i64 0, .slice none 0 0] [] [_, _, _, _] rfl AI rfl rfl (by repeat (first | exact trivial | refine ⟨⟨rfl, rfl, rfl⟩, ?_⟩)) rfl) rfl ?_
  refine Sa 0 [_, _, _, _] AI rfl (by simp [Value.oneCell']) ?_
  refine Aq (Ao (Ae (IN ?_)))
  exact Cl (vs := [_, _, _, _]) 1 rfl rfl underlying42 rfl AI rfl rfl (⟨rfl, _, _, rfl, by unfold NB; rw [if_neg (fun hx => hp hx.1)]; rfl, by unfold NB; rw [if_neg (fun hx => hp hx.1)]; exact OwnL.nil Br⟩)
 ·have hp : IsP p := by simpa using hp
  refine Qg (As rfl rfl) rfl (Qg (CP rfl rfl) rfl (Qm rfl (Aq ?_)))
  refine BJ rfl (fun hf => ?_) (fun hf => ?_)
  ·have hf : ¬ Es r c := by simpa using hf
   refine Ax ?_
   refine Qx (AT Gh [.int .i64 0, .int .i64 0, .int .i64 0, .slice none 0 0] [] [_, _, _, _] rfl AI rfl rfl (by repeat (first | exact trivial | refine ⟨⟨rfl, rfl, rfl⟩, ?_⟩)) rfl) rfl ?_
   refine Sa 0 [_, _, _, _] AI rfl (by simp [Value.oneCell']) ?_
   refine Aq (Ao (Ae (IN ?_)))
   exact Cl (vs := [_, _, _, _]) 1 rfl rfl underlying42 rfl AI rfl rfl (⟨rfl, _, _, rfl, by unfold NB; rw [if_neg (fun hx => hf hx.2)]; rfl, by unfold NB; rw [if_neg (fun hx => hf hx.2)]; exact OwnL.nil Br⟩)
  ·have hf : Es r c := by simpa using hf
   have hm := Hg hf
   obtain ⟨n, hn⟩ : ∃ n : Nat, r * c = n := ⟨(r * c).toNat, by omega⟩
   refine Ai (Ab (Ax (Qm rfl (Qm rfl (Qm rfl (Qm rfl (Qm rfl (Qx (oM rfl) rfl (Eu (n := n) rfl underlying24 A8 rfl rfl rfl (by omega) (by omega) (by omega) (by omega) rfl rfl rfl (fun g27 => ?_))))))))))
   refine Qx (AT Gh [.int .i64 0, .int .i64 0, .int .i64 0, .slice none 0 0] [(0, _), (1, _), (2, _), (3, _)] [_, _, _, _] rfl AI rfl rfl (by repeat (first | exact trivial | refine ⟨⟨rfl, rfl, rfl⟩, ?_⟩)) rfl) rfl ?_
   refine Sa 1 [_, _, _, _] AI rfl (by simp [Value.oneCell']) ?_
   refine Aq (Ao ?_)
   exact Cl (vs := [_, _, _, _]) 1 rfl rfl underlying42 rfl AI rfl rfl (⟨rfl, _, _, rfl, by unfold NB; rw [if_pos ⟨hp, hf⟩], by unfold NB; rw [if_pos ⟨hp, hf⟩, hn]; exact OwnL.rep n 0 (by omega)⟩)
end Go.Proofs.YtdnelknieikbaaaGreat
namespace Go.Proofs.YtdnelknieikbaaaGreat
open Go.Proofs.Tryz
open Go.Eng Go.RowKit Go.Lin
variable {p : Int} {r c : Nat} {f : Nat → Nat → Int} {ev : Value} {h : Hp}
def UO (p : Int) (r c : Nat) (f : Nat → Nat → Int) : Prop := ∀ i, i < r → ∀ j, j < c → 0 ≤ f i j ∧ f i j < p
structure RtM (p : Int) (r c : Nat) (f : Nat → Nat → Int) : Prop where
 pr : IsP p
 rl : r ≤ 400
 cl : c ≤ 400
 en : UO p r c f
theorem RtM.bd (R : RtM p r c f) : 2 ≤ p ∧ p ≤ 997 := ⟨R.pr.1, R.pr.2.1⟩
theorem RtM.i64 (R : RtM p r c f) : Dh p := ⟨by have := R.bd; omega, by have := R.bd; omega⟩
theorem RtM.ok (R : RtM p r c f) : (EM p r c f).Ok := ⟨R.i64, ⟨by have := R.rl; show _ ≤ (r : Int); omega, by have := R.rl; show (r : Int) ≤ _; omega⟩, ⟨by have := R.cl; show _ ≤ (c : Int); omega, by have := R.cl; show (c : Int) ≤ _; omega⟩⟩
theorem RtM.rt (R : RtM p r c f) : (EM p r c f).Rt := by
 have h1 := R.rl
 have h2 := R.cl
 refine ⟨R.pr, by unfold Es EM; simp only; omega, by simp [EM, AY], fun x hx => ?_⟩
 obtain ⟨i, j, hi, hj, rfl⟩ := mem_mat.1 hx
 exact R.en i hi j hj
theorem Tv (M N : FM) (ev eu : Value) (h : Hp) (hOM : M.Ok) (hON : N.Ok) (hRM : RdL cI 1 h [] ev M.e) (hRN : RdL cI 1 h [] eu N.e) : FnT Tryz.prog 121 #[.agg #[.int .i64 M.p, .int .i64 M.rows, .int .i64 M.cols, ev], .agg #[.int .i64 N.p, .int .i64 N.rows, .int .i64 N.cols, eu]] h [] (fun r _ _ => r = .bool (decide (M.Rt ∧ N.Rt ∧ M.p = N.p))) := by
 refine Av func121 ntmps121 rfl rfl (fun w0 hw0 => ?_)
 simp only [A4]
 refine Ax ?_
 refine AS [_, _, _, _] rfl rfl (by rfl) rfl rfl rfl (fun g2 => ?_)
 refine AS [_, _, _, _] rfl rfl (by rfl) rfl rfl rfl (fun g3 => ?_)
 refine Qm rfl (B3 (Qx (oG rfl underlying42 AI (Seg.blk 1 rfl)) rfl (Qx (AG rfl call73 rfl (Ds (GX M ev h hOM hRM) _)) rfl (Qm rfl ?_))))
 refine AR (t := 7) rfl (fun hs => ?_) (fun hs => ?_)
 ·refine Qg (oG rfl underlying42 AI (Seg.blk 0 rfl)) rfl (Qg (AG rfl call73 rfl (Ds (GX N eu h hON hRN) _)) rfl (Qm rfl (Qm rfl ?_)))
  refine AR (t := 11) rfl (fun hs2 => ?_) (fun hs2 => ?_)
  ·refine Qg (oF BE rfl) rfl (Qg (oL rfl underlying3 (Cell.blk 1 rfl rfl)) rfl (Qg (oF BE rfl) rfl (Qg (oL rfl underlying3 (Cell.blk 0 rfl rfl)) rfl (Qg (EJ rfl rfl rfl) rfl (Qm rfl (Qm rfl (Aq (Ao ?_))))))))
   exact Am rfl rfl (by congr 1; rw [decide_eq_decide]; simp [hs, hs2])
  ·refine Qk rfl (Qk rfl (Qk rfl (Qk rfl (Qk rfl (Qm rfl (Qm rfl (Aq (Ao ?_))))))))
   exact Am rfl rfl (by rw [decide_eq_false]; exact fun hx => hs2 hx.2.1)
 ·refine Qk rfl (Qk rfl (Qm rfl (Qm rfl (Qk rfl (Qk rfl (Qk rfl (Qk rfl (Qk rfl (Qm rfl (Qm rfl (Aq (Ao ?_))))))))))))
  exact Am rfl rfl (by rw [decide_eq_false]; exact fun hx => hs hx.1)
theorem MT {r' c' : Nat} {g : Nat → Nat → Int} {eu : Value} (R : RtM p r c f) (S : RtM p r' c' g) (hR : RdL cI 1 h [] ev (mat r c f)) (hS : RdL cI 1 h [] eu (mat r' c' g)) (ms : List Hp) : Dq Tryz.prog 121 #[.agg #[.int .i64 p, .int .i64 r, .int .i64 c, ev], .agg #[.int .i64 p, .int .i64 r', .int .i64 c', eu]] h ms (.bool true) := by
 have := Ds (Tv (EM p r c f) (EM p r' c' g) ev eu h R.ok S.ok hR hS) ms
 rw [decide_eq_true (show (EM p r c f).Rt ∧ (EM p r' c' g).Rt ∧ (EM p r c f).p = (EM p r' c' g).p from ⟨R.rt, S.rt, rfl⟩)] at this
 exact this
theorem Nv (R : RtM p r c f) (hR : RdL cI 1 h [] ev (mat r c f)) (ms : List Hp) : Dq Tryz.prog 73 #[.agg #[.int .i64 p, .int .i64 r, .int .i64 c, ev]] h ms (.bool true) := by
 have := Ds (GX (EM p r c f) ev h R.ok hR) ms
 rw [decide_eq_true R.rt] at this
 exact this
theorem Sn (R : RtM p r c f) (hR : RdL cI 1 h [] ev (mat r c f)) (ms : List Hp) : Dq Tryz.prog 46 #[.agg #[.int .i64 p, .int .i64 r, .int .i64 c, ev]] h ms (.bool true) := by
 have := Ds (ER (EM p r c f) ev h R.ok hR) ms
 rw [decide_eq_true R.rt] at this
 exact this
end Go.Proofs.YtdnelknieikbaaaGreat
