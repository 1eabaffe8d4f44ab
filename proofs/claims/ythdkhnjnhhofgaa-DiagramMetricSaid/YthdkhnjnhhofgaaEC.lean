/- The engine, part 18: a region whose order is open, order by order. -/
import Derived.Test.YthdkhnjnhhofgaaEB
import Derived.Maps.RangeRun
import Derived.Maps.Keyed
import Derived.Carry
set_option linter.unusedSimpArgs false
set_option linter.unusedVariables false
namespace Go.Eng
open Go.RowKit

/-- What holds whichever operation comes up next. -/
def WA (e : Entry) (ops : Array Oper) (Q : Exit → Act → World → Prop) (fuel : Nat) (listed : Array Bool) (s : Slots) (h : Hp) (ms : List Hp) : Prop :=
  ∀ a w, Has e.n a s → e.Ends w h ms → wpAny e.P .any ops Q fuel listed a w
/-- Behind one operation: the others. -/
def QA (P : Program) (ops : Array Oper) (Q : Exit → Act → World → Prop) (fuel : Nat) (listed : Array Bool) : Exit → Act → World → Prop :=
  fun x a w => x = .normal ∧ wpAny P .any ops (Q0 Q) fuel listed a w
theorem qa_out {P : Program} {ops : Array Oper} {Q : Exit → Act → World → Prop} {fuel : Nat} {listed : Array Bool} : ¬ LetsOut (QA P ops Q fuel listed) := fun h => by simp [LetsOut, QA] at h

section
variable {e : Entry} {ops : Array Oper} {Q : Exit → Act → World → Prop} {fuel : Nat} {listed : Array Bool} {s : Slots} {h : Hp} {ms : List Hp}
theorem nx_qa (k : WA e ops (Q0 Q) fuel listed s h ms) : NX e (QA e.P ops Q fuel listed) .normal s h ms := fun a w ha hw => ⟨rfl, k a w ha hw⟩
theorem wa_end (hr : Region.ready .any ops listed = []) (k : NX e Q .normal s h ms) : WA e ops (Q0 Q) fuel listed s h ms := fun a w ha hw => by
  have q : Q0 Q .normal a w := ⟨rfl, k a w ha hw⟩
  cases fuel with
  | zero => exact ⟨hr, q⟩
  | succ n => exact ⟨fun _ => q, fun i hi => by rw [hr] at hi; cases hi⟩
/-- Whichever of those comes up. -/
def WAl (e : Entry) (ops : Array Oper) (Q : Exit → Act → World → Prop) (fuel : Nat) (listed : Array Bool) (s : Slots) (h : Hp) (ms : List Hp) : List Nat → Prop
  | [] => True
  | i :: l => (∃ o, ops[i]? = some o ∧ WL e ops (QA e.P ops Q fuel (listed.setIfInBounds i true)) [o] s h ms) ∧ WAl e ops Q fuel listed s h ms l
theorem WAl.get : ∀ (l : List Nat), WAl e ops Q fuel listed s h ms l → ∀ i ∈ l, ∃ o, ops[i]? = some o ∧ WL e ops (QA e.P ops Q fuel (listed.setIfInBounds i true)) [o] s h ms
  | [], _, i, hi => by cases hi
  | j :: l, H, i, hi => by
    rcases List.mem_cons.1 hi with rfl | hi
    · exact H.1
    · exact WAl.get l H.2 i hi
theorem wal_nil : WAl e ops Q fuel listed s h ms [] := trivial
theorem wal_cons {i : Nat} {l : List Nat} {o : Oper} (ho : ops[i]? = some o) (k : WL e ops (QA e.P ops Q fuel (listed.setIfInBounds i true)) [o] s h ms) (k' : WAl e ops Q fuel listed s h ms l) : WAl e ops Q fuel listed s h ms (i :: l) := ⟨⟨o, ho, k⟩, k'⟩
theorem wa_step (l : List Nat) (hr : Region.ready .any ops listed = l) (hne : l.isEmpty = false) (k : WAl e ops Q fuel listed s h ms l) : WA e ops (Q0 Q) (fuel + 1) listed s h ms := fun a w ha hw => by
  refine ⟨fun h0 => (by rw [hr] at h0; subst h0; cases hne), fun i hi => ?_⟩
  rw [hr] at hi
  obtain ⟨o, ho, H⟩ := k.get l i hi
  have H := H a w ha hw
  unfold wpOp
  simp only [ho]
  unfold wpList at H
  split
  · rename_i hw'
    rw [if_pos hw'] at H
    rcases H with H | ⟨_, H⟩
    · refine .inl ?_
      unfold Oper.wp at *
      generalize (execOp a.eval o).run e.P w = r at *
      cases r with
      | ok n w' =>
        cases n <;> simp only [Oper.upon] at H ⊢ <;>
          first
            | exact H.2
            | exact Calls.mono H (fun x w'' he => by
                cases x
                · exact he.2
                · exact absurd he.1 (by simp)
                · exact absurd he qa_out)
            | exact Rows.mono H (fun _ _ he => he.2)
      | halt x w' => cases x <;> simp only [Oper.upon] at H ⊢ <;> first | exact H | exact absurd H.1 (by simp)
    · exact absurd H qa_out
  · rename_i hw'
    rw [if_neg hw'] at H
    exact H.2
theorem any_q0 {P : Program} : ∀ fuel listed a w, wpAny P .any ops (Q0 Q) fuel listed a w → wpAny P .any ops Q fuel listed a w := by
  intro fuel
  induction fuel with
  | zero => intro listed a w H; exact ⟨H.1, H.2.2⟩
  | succ fuel ih =>
    intro listed a w H
    refine ⟨fun h => (H.1 h).2, fun i hi => ?_⟩
    have H' := H.2 i hi
    unfold wpOp at H' ⊢
    split
    · rename_i ho; simp only [ho] at H'; exact ih _ _ _ H'
    · rename_i o ho
      simp only [ho] at H'
      split
      · rename_i hw
        rw [if_pos hw] at H'
        rcases H' with H' | ⟨_, H'⟩
        · refine .inl ?_
          unfold Oper.wp at *
          generalize (execOp a.eval o).run P w = r at *
          cases r with
          | ok n w' =>
            cases n <;> simp only [Oper.upon] at H' ⊢ <;>
              first
                | exact ih _ _ _ H'
                | exact Calls.mono H' (fun x w'' he => by
                    cases x
                    · exact ih _ _ _ he
                    · exact absurd he.1 (by simp)
                    · exact absurd he q0_out)
                | exact Rows.mono H' (fun _ _ he => ih _ _ _ he)
          | halt x w' => cases x <;> simp only [Oper.upon] at H' ⊢ <;> first | exact H' | exact absurd H'.1 (by simp)
        · exact absurd H' q0_out
      · rename_i hw
        rw [if_neg hw] at H'
        exact ih _ _ _ H'
theorem ws_any {id : Nat} {l : List Oper} {n : Nat} {bs : List Bool} (hm : e.P.follows .mixedOrders = true) (hn : l.length = n) (hb : List.replicate n false = bs) (k : WA e l.toArray (Q0 Q) n bs.toArray s h ms) : WS e (.region id l.toArray true) Q s h ms := by
  intro a w ha hw
  subst hn hb
  refine wp_region_any hm (Q := Q) (any_q0 _ _ _ _ ?_)
  have := k a { w with drawn := w.drawn + 1 } ha (Ends.drew hw)
  simpa using this
end
end Go.Eng

/- The engine, part 19: maps of one's own. -/
set_option linter.unusedSimpArgs false
set_option linter.unusedVariables false
set_option linter.unusedSectionVars false
namespace Go.Eng
open Go.RowKit

/-- What is known of the keys of a type: k reads as K k. -/
structure Keys {κ : Type} (P : Program) (kt : TypeId) (K : κ → Value) (Ok : κ → Prop) : Prop where
  law : Maps.Keyed P kt
  inj : ∀ a b, K a = K b → a = b
  key : ∀ a, Ok a → ∃ l, keyOf P kt (K a) = some l

section
variable {κ ν : Type} (K : κ → Value) (V : ν → Value)
def ent (p : (κ × ν) × Nat) : MapEntry := ⟨K p.1.1, V p.1.2, p.2⟩
/-- A map of one's own: the pairs, and the numbers under which they were born. -/
structure OwnM (g : Nat) (Ok : κ → Prop) (m : Hp) (T : List (κ × ν)) (bs : List Nat) : Prop where
  ex : ∃ es clock, m = Hp.one g (.map es clock) ∧ es.toList = (T.zip bs).map (ent K V) ∧ ∀ b ∈ bs, b < clock
  len : bs.length = T.length
  up : bs.Pairwise (· < ·)
  keys : (T.map Prod.fst).Nodup
  ok : ∀ p ∈ T, Ok p.1
end

theorem nodup_idx {α : Type} {l : List α} (hn : l.Nodup) {i j : Nat} {a : α} (h1 : l[i]? = some a) (h2 : l[j]? = some a) : i = j := by
  obtain ⟨i1, i2⟩ := List.getElem?_eq_some_iff.1 h1
  obtain ⟨j1, j2⟩ := List.getElem?_eq_some_iff.1 h2
  have hp := List.pairwise_iff_getElem.1 hn
  rcases Nat.lt_trichotomy i j with h | h | h
  · exact absurd (i2.trans j2.symm) (hp i j i1 j1 h)
  · exact h
  · exact absurd (j2.trans i2.symm) (hp j i j1 i1 h)
section
variable {κ ν : Type} [DecidableEq κ]
/-- What a map holds at a key. -/
def getK (T : List (κ × ν)) (a : κ) : Option ν := (T.find? fun p => decide (p.1 = a)).map Prod.snd
theorem getK_of {T : List (κ × ν)} (hn : (T.map Prod.fst).Nodup) {j : Nat} {a : κ} {x : ν} (h : T[j]? = some (a, x)) : getK T a = some x := by
  induction T generalizing j with
  | nil => simp at h
  | cons p T ih =>
    unfold getK
    rw [List.find?_cons]
    cases j with
    | zero => simp at h; subst h; simp
    | succ j =>
      have h' : T[j]? = some (a, x) := by simpa using h
      have hne : p.1 ≠ a := fun e => by
        rw [List.map_cons, List.nodup_cons] at hn
        exact hn.1 (List.mem_map.2 ⟨(a, x), List.mem_of_getElem? h', e.symm⟩)
      simp only [hne, decide_false]
      rw [List.map_cons, List.nodup_cons] at hn
      exact ih hn.2 h'
theorem getK_none {T : List (κ × ν)} {a : κ} (h : a ∉ T.map Prod.fst) : getK T a = none := by
  unfold getK
  rw [List.find?_eq_none.2 fun p hp => by
    simp only [decide_eq_true_eq]
    exact fun e => h (List.mem_map.2 ⟨p, hp, e⟩)]
  rfl
end

section
variable {κ ν : Type} [DecidableEq κ] {K : κ → Value} {V : ν → Value} {Ok : κ → Prop} {P : Program} {kt et t : TypeId} {g : Nat} {m : Hp} {T : List (κ × ν)} {bs : List Nat}
theorem find_own (L : Keys P kt K Ok) (hn : (T.map Prod.fst).Nodup) (hok : ∀ p ∈ T, Ok p.1) (hl : bs.length = T.length) {es : Array MapEntry} (he : es.toList = (T.zip bs).map (ent K V)) (w : World) (a : κ) (ha : Ok a) :
    ((Instr.findKey kt (K a) es.toList).run P w = .ok none w ∧ a ∉ T.map Prod.fst) ∨ ∃ (j : Nat) (x : ν) (b : Nat), (Instr.findKey kt (K a) es.toList).run P w = .ok (some (j, V x)) w ∧ T[j]? = some (a, x) ∧ bs[j]? = some b ∧ es[j]? = some ⟨K a, V x, b⟩ := by
  obtain ⟨l, hk⟩ := L.key a ha
  rcases L.law.find w hk es.toList (fun e hmem => by
    rw [he] at hmem
    obtain ⟨p, hp, rfl⟩ := List.mem_map.1 hmem
    exact L.key p.1.1 (hok p.1 (List.of_mem_zip hp).1)) with ⟨h1, h2⟩ | ⟨j, e, h1, h2, h3⟩
  · refine .inl ⟨h1, fun hmem => ?_⟩
    obtain ⟨p, hp, rfl⟩ := List.mem_map.1 hmem
    obtain ⟨j, hj, e⟩ := List.getElem_of_mem hp
    have hjb : j < bs.length := by omega
    refine h2 (ent K V (p, bs[j])) ?_ rfl
    rw [he]
    exact List.mem_map.2 ⟨(p, bs[j]), List.mem_of_getElem? (i := j) (by rw [List.getElem?_zip_eq_some]; exact ⟨by rw [List.getElem?_eq_getElem hj, e], List.getElem?_eq_getElem hjb⟩), rfl⟩
  · rw [he, List.getElem?_map] at h2
    cases hz : (T.zip bs)[j]? with
    | none => rw [hz] at h2; cases h2
    | some p =>
      rw [hz] at h2
      have h2 := Option.some.inj h2
      obtain ⟨z1, z2⟩ := List.getElem?_zip_eq_some.1 hz
      have e1 : p.1.1 = a := L.inj _ _ (by rw [← h2] at h3; exact h3)
      refine .inr ⟨j, p.1.2, p.2, ?_, ?_, z2, ?_⟩
      · rw [h1, ← h2]; rfl
      · rw [z1, ← e1]
      · rw [← Array.getElem?_toList, he, List.getElem?_map, hz, ← e1]; rfl

variable {o : Oper} {s : Slots} {h : Hp} {ms : List Hp}
/-- A look into a map. -/
theorem ox_lookup {x y : Operand} {z : ν} (a : κ) (L : Keys P kt K Ok) (O : OwnM K V g Ok m T bs) (hm : m ∈ ms) (ho : o.op = .lookup t x y false) (ht : P.underlying t = some (.map kt et)) (hz : ∀ w, (zeroValue et).run P w = .ok (V z) w) (hx : ev s x = some (.map (some g))) (hy : ev s y = some (K a)) (ha : Ok a) :
    OX P o s h ms (V ((getK T a).getD z)) :=
  ox_of fun ρ w hρ hw => by
    obtain ⟨es, clock, rfl, he, hb⟩ := O.ex
    have hgw : w.heap[g]? = some (.map es clock) := hw.own _ hm g _ (Hp.one_self _ _)
    obtain ⟨l, hk⟩ := L.key a ha
    have hc := L.law.check w es.isEmpty hk
    rcases find_own L O.keys O.ok O.len he w a ha with ⟨h1, h2⟩ | ⟨j, u, b, h1, h2, _, _⟩
    · rw [getK_none h2]
      simp only [execOp, ho, hρ _ _ hx, hρ _ _ hy, Instr.lookup, Sem.run_bind, run_underlying ht, Result.andThen_ok, getObj, Sem.run_pure, h1, hz]
      simp [Sem.run, hgw, hc, h1, hz, Result.andThen]
    · rw [getK_of O.keys h2]
      simp only [execOp, ho, hρ _ _ hx, hρ _ _ hy, Instr.lookup, Sem.run_bind, run_underlying ht, Result.andThen_ok, getObj, Sem.run_pure, h1, hz]
      simp [Sem.run, hgw, hc, h1, hz, Result.andThen]
theorem ox_lookupOk {x y : Operand} {z : ν} (a : κ) (L : Keys P kt K Ok) (O : OwnM K V g Ok m T bs) (hm : m ∈ ms) (ho : o.op = .lookup t x y true) (ht : P.underlying t = some (.map kt et)) (hz : ∀ w, (zeroValue et).run P w = .ok (V z) w) (hx : ev s x = some (.map (some g))) (hy : ev s y = some (K a)) (ha : Ok a) :
    OX P o s h ms (.tuple #[V ((getK T a).getD z), .bool (getK T a).isSome]) :=
  ox_of fun ρ w hρ hw => by
    obtain ⟨es, clock, rfl, he, hb⟩ := O.ex
    have hgw : w.heap[g]? = some (.map es clock) := hw.own _ hm g _ (Hp.one_self _ _)
    obtain ⟨l, hk⟩ := L.key a ha
    have hc := L.law.check w es.isEmpty hk
    rcases find_own L O.keys O.ok O.len he w a ha with ⟨h1, h2⟩ | ⟨j, u, b, h1, h2, _, _⟩
    · rw [getK_none h2]
      simp only [execOp, ho, hρ _ _ hx, hρ _ _ hy, Instr.lookup, Sem.run_bind, run_underlying ht, Result.andThen_ok, getObj, Sem.run_pure, h1, hz]
      simp [Sem.run, hgw, hc, h1, hz, Result.andThen]
    · rw [getK_of O.keys h2]
      simp only [execOp, ho, hρ _ _ hx, hρ _ _ hy, Instr.lookup, Sem.run_bind, run_underlying ht, Result.andThen_ok, getObj, Sem.run_pure, h1, hz]
      simp [Sem.run, hgw, hc, h1, hz, Result.andThen]

/-- One block is turned. -/
theorem Ends.turn {w0 w : World} {h0 h : Hp} {ms0 ms : List Hp} {i g : Nat} {o o' : Obj} (H : Ends w0 h0 ms0 w h ms) (hm : ms[i]? = some (Hp.one g o)) : Ends w0 h0 ms0 { w with heap := w.heap.setIfInBounds g o' } h (ms.set i (Hp.one g o')) := by
  obtain ⟨r, p1, p2⟩ := perm_set ms i (Hp.one g o) (Hp.one g o') hm
  have hgw : w.heap[g]? = some o := H.st.own _ (List.mem_of_getElem? hm) g o (Hp.one_self g o)
  have hlt := (Array.getElem?_eq_some_iff.1 hgw).1
  refine Ends.perm (Ends.change (H.perm p1) rfl rfl rfl (by simp) ?_ fun k hk hne => ?_) p2.symm
  · simp [hlt]
  · show (w.heap.setIfInBounds g o')[k]? = w.heap[k]?
    rw [Array.getElem?_setIfInBounds_ne (Ne.symm hne)]

def setT (T : List (κ × ν)) (a : κ) (x : ν) : List (κ × ν) := if a ∈ T.map Prod.fst then T.map fun p => if p.1 = a then (a, x) else p else T ++ [(a, x)]
theorem setT_keys {T : List (κ × ν)} (hn : (T.map Prod.fst).Nodup) (a : κ) (x : ν) : ((setT T a x).map Prod.fst).Nodup := by
  unfold setT
  split
  · have : (T.map fun p => if p.1 = a then (a, x) else p).map Prod.fst = T.map Prod.fst := by
      rw [List.map_map]
      refine List.map_congr_left fun p _ => ?_
      show (if p.1 = a then (a, x) else p).1 = p.1
      split
      · rename_i e; exact e.symm
      · rfl
    rw [this]; exact hn
  · rename_i h
    rw [List.map_append]
    exact List.nodup_append.2 ⟨hn, by simp, fun b hb c hc e => by
      simp at hc; subst hc; subst e; exact h hb⟩
theorem setT_at {T : List (κ × ν)} (hn : (T.map Prod.fst).Nodup) {j : Nat} {a : κ} {y x : ν} (h : T[j]? = some (a, y)) : setT T a x = T.set j (a, x) := by
  have hmem : a ∈ T.map Prod.fst := List.mem_map.2 ⟨(a, y), List.mem_of_getElem? h, rfl⟩
  unfold setT
  rw [if_pos hmem]
  refine List.ext_getElem? fun i => ?_
  rw [List.getElem?_map, List.getElem?_set]
  obtain ⟨hj, hje⟩ := List.getElem?_eq_some_iff.1 h
  by_cases hij : j = i
  · subst hij; simp [h, hj, hje]
  · rw [if_neg hij]
    cases hi : T[i]? with
    | none => rfl
    | some p =>
      have : p.1 ≠ a := fun e => by
        have h1 : (T.map Prod.fst)[i]? = some a := by rw [List.getElem?_map, hi]; exact congrArg some e
        have h2 : (T.map Prod.fst)[j]? = some a := by rw [List.getElem?_map, h]; rfl
        exact hij (nodup_idx hn h2 h1)
      simp [this]
theorem getK_setT {T : List (κ × ν)} (a b : κ) (x : ν) : getK (setT T a x) b = if b = a then some x else getK T b := by
  unfold getK setT
  split
  · rename_i hmem
    induction T with
    | nil => simp at hmem
    | cons p T ih =>
      rw [List.map_cons, List.find?_cons, List.find?_cons]
      by_cases hp : p.1 = a
      · rw [if_pos hp]
        by_cases hba : b = a
        · subst hba; simp
        · have h1 : a ≠ b := fun e => hba e.symm
          have h2 : p.1 ≠ b := fun e => h1 (hp.symm.trans e)
          simp only [h1, h2, decide_false, if_neg hba]
          by_cases hmem' : a ∈ T.map Prod.fst
          · have := ih hmem'
            rw [if_neg hba] at this; exact this
          · have : (T.map fun p => if p.1 = a then (a, x) else p) = T := by
              rw [List.map_congr_left (g := id) fun q hq => ?_]
              · simp
              · rw [if_neg fun e => hmem' (List.mem_map.2 ⟨q, hq, e⟩)]; rfl
            rw [this]
      · rw [if_neg hp]
        by_cases hpb : p.1 = b
        · have hba : b ≠ a := fun e => hp (hpb.trans e)
          simp [hpb, hba]
        · simp only [hpb, decide_false]
          exact ih (by
            rw [List.map_cons, List.mem_cons] at hmem
            exact hmem.resolve_left fun e => hp e.symm)
  · rename_i hmem
    rw [List.find?_append]
    by_cases hba : b = a
    · subst hba
      rw [List.find?_eq_none.2 fun p hp => by
        simp only [decide_eq_true_eq]
        exact fun e => hmem (List.mem_map.2 ⟨p, hp, e⟩)]
      simp
    · have h1 : a ≠ b := fun e => hba e.symm
      rw [if_neg hba]
      simp [List.find?_cons, h1]
theorem zip_set (T : List (κ × ν)) (bs : List Nat) (j : Nat) (p : κ × ν) (b : Nat) (hb : bs[j]? = some b) : (T.set j p).zip bs = (T.zip bs).set j (p, b) := by
  induction T generalizing j bs with
  | nil => simp
  | cons q T ih =>
    cases bs with
    | nil => simp
    | cons c bs =>
      cases j with
      | zero => simp at hb; subst hb; simp
      | succ j => simp [ih bs j (by simpa using hb)]

variable {e : Entry} {Q : Exit → Act → World → Prop} {ops : Array Oper} {rest : List Oper}
theorem wl_makeMap {d : Nat} (ho : o.op = .makeMap t none) (hd : o.dst = some d) (hn : Nat.blt d e.n = true) (hg : o.guard = none)
    (k : ∀ g m, OwnM K V g Ok m ([] : List (κ × ν)) [] → WL e ops Q rest ((d, .map (some g)) :: s) h (m :: ms)) : WL e ops Q (o :: rest) s h ms :=
  wl_t (post := fun v h' ms' => ∃ g, v = .map (some g) ∧ h' = h ∧ ms' = Hp.one g (.map #[] 0) :: ms) (fun ρ w hρ hw => by
    have : (execOp ρ o).run e.P w = .ok (.value (.map (some w.heap.size))) (w.alloc (.map #[] 0)) := by
      simp [execOp, ho, run_makeMap]
    unfold OpRes; rw [this]
    exact ⟨h, _, Ends.alloc hw _, _, rfl, rfl, rfl⟩) hd hn hg fun _ _ _ ⟨g, e1, e2, e3⟩ => by
      subst e1 e2 e3
      exact k g _ ⟨⟨#[], 0, rfl, rfl, by simp⟩, rfl, List.Pairwise.nil, by simp, by simp⟩

theorem zip_snoc (T : List (κ × ν)) (bs : List Nat) (hl : bs.length = T.length) (p : κ × ν) (b : Nat) : (T ++ [p]).zip (bs ++ [b]) = T.zip bs ++ [(p, b)] := by
  rw [List.zip_append hl.symm]; rfl
theorem up_snoc {bs : List Nat} (h : bs.Pairwise (· < ·)) {c : Nat} (hc : ∀ b ∈ bs, b < c) : (bs ++ [c]).Pairwise (· < ·) :=
  List.pairwise_append.2 ⟨h, by simp, fun a ha b hb => by simp at hb; subst hb; exact hc a ha⟩

/-- The entry of a key, made if there is none: what it holds, and its number. -/
theorem wl_mapEntry {x y : Operand} {z : ν} {d : Nat} (i : Nat) (a : κ) (L : Keys e.P kt K Ok) (O : OwnM K V g Ok m T bs) (hm : ms[i]? = some m) (ho : o.op = .mapEntry t x y) (ht : e.P.underlying t = some (.map kt et)) (hz : ∀ w, (zeroValue et).run e.P w = .ok (V z) w) (hx : ev s x = some (.map (some g))) (hy : ev s y = some (K a)) (ha : Ok a)
    (hd : o.dst = some d) (hn : Nat.blt d e.n = true) (hg : o.guard = none)
    (k : ∀ (m' : Hp) (bs' : List Nat) (j b : Nat), OwnM K V g Ok m' (setT T a ((getK T a).getD z)) bs' → (setT T a ((getK T a).getD z))[j]? = some (a, (getK T a).getD z) → bs'[j]? = some b → WL e ops Q rest ((d, .tuple #[V ((getK T a).getD z), .int .i64 b]) :: s) h (ms.set i m')) : WL e ops Q (o :: rest) s h ms :=
  wl_t (post := fun v h' ms' => ∃ (m' : Hp) (bs' : List Nat) (j b : Nat), OwnM K V g Ok m' (setT T a ((getK T a).getD z)) bs' ∧ (setT T a ((getK T a).getD z))[j]? = some (a, (getK T a).getD z) ∧ bs'[j]? = some b ∧ v = .tuple #[V ((getK T a).getD z), .int .i64 b] ∧ h' = h ∧ ms' = ms.set i m') (fun ρ w hρ hw => by
    obtain ⟨es, clock, rfl, he, hb⟩ := O.ex
    have hgw : w.heap[g]? = some (.map es clock) := hw.st.own _ (List.mem_of_getElem? hm) g _ (Hp.one_self _ _)
    obtain ⟨l, hk⟩ := L.key a ha
    have hc := L.law.check w false hk
    have hs := L.law.stays w hk
    rcases find_own L O.keys O.ok O.len he w a ha with ⟨h1, h2⟩ | ⟨j, u, b, h1, h2, h3, h4⟩
    · have hT : setT T a ((getK T a).getD z) = T ++ [(a, z)] := by unfold setT; rw [if_neg h2, getK_none h2]; rfl
      have hrun : (execOp ρ o).run e.P w = .ok (.value (.tuple #[V z, .int .i64 clock])) { w with heap := w.heap.setIfInBounds g (.map (es.push ⟨K a, V z, clock⟩) (clock + 1)) } := by
        simp only [execOp, ho, hρ _ _ hx, hρ _ _ hy, Instr.mapEntry, Sem.run_bind, run_underlying ht, Result.andThen_ok, getObj, Sem.run_pure]
        simp [Sem.run, hgw, hc, h1, hz, Result.andThen, setObj, goInt]
      unfold OpRes; rw [hrun]
      refine ⟨h, _, Ends.turn hw hm, _, bs ++ [clock], T.length, clock, ?_, ?_, ?_, by rw [getK_none h2]; rfl, rfl, rfl⟩
      · rw [hT]
        refine ⟨⟨_, _, rfl, ?_, fun b hb' => ?_⟩, by simp [O.len], up_snoc O.up hb, ?_, fun p hp => ?_⟩
        · rw [Array.toList_push, he, zip_snoc T bs O.len, List.map_append]; rfl
        · rcases List.mem_append.1 hb' with hb' | hb'
          · have := hb b hb'; omega
          · simp at hb'; omega
        · have := setT_keys O.keys a ((getK T a).getD z); rw [hT] at this; exact this
        · rcases List.mem_append.1 hp with hp | hp
          · exact O.ok p hp
          · simp at hp; subst hp; exact ha
      · rw [hT, getK_none h2]; simp
      · rw [← O.len]; simp
    · have hgk := getK_of O.keys h2
      have hT : setT T a ((getK T a).getD z) = T := by
        rw [hgk]
        show setT T a u = T
        rw [setT_at O.keys h2]
        obtain ⟨hj, hje⟩ := List.getElem?_eq_some_iff.1 h2
        rw [← hje]; exact List.set_getElem_self hj
      have hj4 := (Array.getElem?_eq_some_iff.1 h4)
      have hmod : es.modify j (fun e => { e with key := K a }) = es := by
        refine Array.ext_getElem? fun i => ?_
        rw [Array.getElem?_modify]
        split
        · rename_i hij; subst hij; rw [h4]; rfl
        · rfl
      have hrun : (execOp ρ o).run e.P w = .ok (.value (.tuple #[V u, .int .i64 b])) { w with heap := w.heap.setIfInBounds g (.map es clock) } := by
        simp only [execOp, ho, hρ _ _ hx, hρ _ _ hy, Instr.mapEntry, Sem.run_bind, run_underlying ht, Result.andThen_ok, getObj, Sem.run_pure]
        simp [Sem.run, hgw, hc, h1, hz, Result.andThen, setObj, goInt, h4, hs, hmod]
      unfold OpRes; rw [hrun]
      exact ⟨h, _, Ends.turn hw hm, _, bs, j, b, by rw [hT]; exact ⟨⟨_, _, rfl, he, hb⟩, O.len, O.up, O.keys, O.ok⟩, by rw [hT, hgk]; exact h2, h3, by rw [hgk]; rfl, rfl, rfl⟩) hd hn hg fun v h' ms' ⟨m', bs', j, b, e1, e2, e3, e4, e5, e6⟩ => by subst e4 e5 e6; exact k m' bs' j b e1 e2 e3
/-- A store into an entry. -/
theorem wl_entryStore {x y u : Operand} (i : Nat) {j b : Nat} {a : κ} {x0 : ν} (y' : ν) (O : OwnM K V g Ok m T bs) (hj : T[j]? = some (a, x0)) (hjb : bs[j]? = some b) (hm : ms[i]? = some m) (ho : o.op = .entryStore t x y u) (hx : ev s x = some (.map (some g))) (hy : ev s y = some (.int .i64 b)) (hu : ev s u = some (V y'))
    (hd : o.dst = none) (hg : o.guard = none) (k : ∀ m', OwnM K V g Ok m' (setT T a y') bs → WL e ops Q rest s h (ms.set i m')) : WL e ops Q (o :: rest) s h ms :=
  wl_t0 (post := fun _ h' ms' => ∃ m', OwnM K V g Ok m' (setT T a y') bs ∧ h' = h ∧ ms' = ms.set i m') (fun ρ w hρ hw => by
    obtain ⟨es, clock, rfl, he, hb⟩ := O.ex
    have hgw : w.heap[g]? = some (.map es clock) := hw.st.own _ (List.mem_of_getElem? hm) g _ (Hp.one_self _ _)
    have hjl := (List.getElem?_eq_some_iff.1 hj).1
    have hz : (T.zip bs)[j]? = some ((a, x0), b) := by rw [List.getElem?_zip_eq_some]; exact ⟨hj, hjb⟩
    have hej : es[j]? = some ⟨K a, V x0, b⟩ := by rw [← Array.getElem?_toList, he, List.getElem?_map, hz]; rfl
    have hfind : es.findIdx? (fun e => ((e.born : Int) == (b : Int))) = some j := by
      rw [show es = es.toList.toArray by simp, List.findIdx?_toArray, List.findIdx?_eq_some_iff_getElem]
      have hjs : j < es.toList.length := by simpa using (Array.getElem?_eq_some_iff.1 hej).1
      refine ⟨hjs, ?_, fun k hk => ?_⟩
      · have : es.toList[j] = ⟨K a, V x0, b⟩ := by
          have := Array.getElem?_toList (xs := es) (i := j)
          rw [hej, List.getElem?_eq_getElem hjs] at this
          exact Option.some.inj this
        rw [this]; simp
      · have hkl : k < T.length := by omega
        have hkb : k < bs.length := by rw [O.len]; exact hkl
        have : es.toList[k]? = some (ent K V (T[k], bs[k])) := by
          rw [he, List.getElem?_map, List.getElem?_zip_eq_some (z := (T[k], bs[k])) |>.2 ⟨List.getElem?_eq_getElem hkl, List.getElem?_eq_getElem hkb⟩]; rfl
        rw [List.getElem?_eq_getElem (by omega)] at this
        rw [Option.some.inj this]
        have hjb' : j < bs.length := by have := O.len; omega
        have hlt := List.pairwise_iff_getElem.1 O.up k j hkb hjb' hk
        have hbj : bs[j]'hjb' = b := by
          rw [List.getElem?_eq_getElem hjb'] at hjb; exact Option.some.inj hjb
        simp [ent]; omega
    have hrun : (execOp ρ o).run e.P w = .ok .skip { w with heap := w.heap.setIfInBounds g (.map (es.modify j fun e => { e with val := V y' }) clock) } := by
      simp only [execOp, ho, hρ _ _ hx, hρ _ _ hy, hρ _ _ hu, Instr.entryStore, Sem.run_bind, Result.andThen_ok, getObj, Sem.run_pure, asInt]
      simp [Sem.run, hgw, hfind, Result.andThen, setObj, asInt, asIntOf]
    unfold OpRes; rw [hrun]
    refine ⟨h, _, Ends.turn hw hm, _, ?_, rfl, rfl⟩
    refine ⟨⟨_, _, rfl, ?_, hb⟩, ?_, O.up, setT_keys O.keys a y', fun p hp => ?_⟩
    · rw [setT_at O.keys hj, zip_set T bs j _ b hjb, List.map_set, ← he]
      refine List.ext_getElem? fun k => ?_
      rw [Array.getElem?_toList, Array.getElem?_modify, List.getElem?_set]
      by_cases hjk : j = k
      · subst hjk
        rw [if_pos rfl, if_pos rfl, hej]
        have : j < es.toList.length := by simpa using (Array.getElem?_eq_some_iff.1 hej).1
        rw [if_pos this]; rfl
      · rw [if_neg hjk, if_neg hjk, Array.getElem?_toList]
    · rw [setT_at O.keys hj, List.length_set]; exact O.len
    · rw [setT_at O.keys hj] at hp
      rcases List.mem_or_eq_of_mem_set hp with hp | hp
      · exact O.ok p hp
      · subst hp; exact O.ok (a, x0) (List.mem_of_getElem? hj)) hd hg fun v h' ms' ⟨m', e1, e2, e3⟩ => by subst e2 e3; exact k m' e1
end
end Go.Eng

/- The engine, part 20: ranging over a map of one's own. -/
set_option linter.unusedSimpArgs false
set_option linter.unusedVariables false
set_option linter.unusedSectionVars false
namespace Go.Eng
open Go.RowKit
/-- A loop over the map m: the places that have been visited. -/
structure IterM (gi g : Nat) (m mi : Hp) (bs vis : List Nat) : Prop where
  ex : ∃ es clock since seen last, m = Hp.one g (.map es clock) ∧ mi = Hp.one gi (.mapIter (some g) since seen last) ∧ (∀ b ∈ bs, b < since) ∧ since ≤ last ∧ since ≤ clock ∧ seen.toList = vis.map (fun j => bs[j]?.getD 0) ∧ (vis ≠ [] → last = clock)
  lt : ∀ j ∈ vis, j < bs.length
  nodup : vis.Nodup
theorem one_inj {g : Nat} {o o' : Obj} (h : Hp.one g o = Hp.one g o') : o = o' := by
  have := congrFun h g
  rw [Hp.one_self, Hp.one_self] at this
  exact Option.some.inj this
section
variable {κ ν : Type} [DecidableEq κ] {K : κ → Value} {V : ν → Value} {Ok : κ → Prop} {P : Program} {t : TypeId} {gi g : Nat} {m mi : Hp} {T : List (κ × ν)} {bs vis : List Nat}
variable {o : Oper} {s : Slots} {h : Hp} {ms : List Hp} {e : Entry} {Q : Exit → Act → World → Prop} {ops : Array Oper} {rest : List Oper}
theorem wl_range {x : Operand} {d : Nat} {kt et : TypeId} (O : OwnM K V g Ok m T bs) (hm : m ∈ ms) (ho : o.op = .range t x) (ht : e.P.underlying t = some (.map kt et)) (hx : ev s x = some (.map (some g))) (hd : o.dst = some d) (hn : Nat.blt d e.n = true) (hg : o.guard = none)
    (k : ∀ gi mi, IterM gi g m mi bs [] → WL e ops Q rest ((d, .pointer (some ⟨gi, 0, none⟩)) :: s) h (mi :: ms)) : WL e ops Q (o :: rest) s h ms :=
  wl_t (post := fun v h' ms' => ∃ gi mi, IterM gi g m mi bs [] ∧ v = .pointer (some ⟨gi, 0, none⟩) ∧ h' = h ∧ ms' = mi :: ms) (fun ρ w hρ hw => by
    obtain ⟨es, clock, rfl, he, hb⟩ := O.ex
    have hgw : w.heap[g]? = some (.map es clock) := hw.st.own _ hm g _ (Hp.one_self _ _)
    have hrun : (execOp ρ o).run e.P w = .ok (.value (.pointer (some ⟨w.heap.size, 0, none⟩))) (w.alloc (.mapIter (some g) clock #[] clock)) := by
      simp only [execOp, ho, hρ _ _ hx, Instr.range, Sem.run_bind, run_underlying ht, Result.andThen_ok, getObj, Sem.run_pure]
      simp [Sem.run, hgw, Result.andThen, newObj]
    unfold OpRes; rw [hrun]
    exact ⟨h, _, Ends.alloc hw _, _, _, ⟨⟨es, clock, clock, #[], clock, rfl, rfl, hb, Nat.le_refl _, Nat.le_refl _, rfl, fun h => absurd rfl h⟩, by simp, List.Pairwise.nil⟩, rfl, rfl, rfl⟩) hd hn hg fun v h' ms' ⟨gi, mi, e1, e2, e3, e4⟩ => by subst e2 e3 e4; exact k gi mi e1
theorem up_inj {bs : List Nat} (h : bs.Pairwise (· < ·)) {i j : Nat} {b : Nat} (hi : bs[i]? = some b) (hj : bs[j]? = some b) : i = j :=
  nodup_idx (h.imp fun h => Nat.ne_of_lt h) hi hj
theorem wl_next {x : Operand} {d : Nat} (i : Nat) (O : OwnM K V g Ok m T bs) (I : IterM gi g m mi bs vis) (hm : m ∈ ms) (hi : ms[i]? = some mi) (ho : o.op = .next x false) (hx : ev s x = some (.pointer (some ⟨gi, 0, none⟩))) (hd : o.dst = some d) (hn : Nat.blt d e.n = true) (hg : o.guard = none)
    (k0 : (∀ j, j < T.length → j ∈ vis) → WL e ops Q rest ((d, .tuple #[.bool false]) :: s) h ms)
    (k1 : ∀ (j : Nat) (hj : j < T.length) (mi' : Hp), j ∉ vis → IterM gi g m mi' bs (vis ++ [j]) → WL e ops Q rest ((d, .tuple #[.bool true, K T[j].1, V T[j].2]) :: s) h (ms.set i mi')) : WL e ops Q (o :: rest) s h ms :=
  wl_t (post := fun v h' ms' => (v = .tuple #[.bool false] ∧ h' = h ∧ ms' = ms ∧ ∀ j, j < T.length → j ∈ vis) ∨ ∃ (j : Nat) (hj : j < T.length) (mi' : Hp), j ∉ vis ∧ IterM gi g m mi' bs (vis ++ [j]) ∧ v = .tuple #[.bool true, K T[j].1, V T[j].2] ∧ h' = h ∧ ms' = ms.set i mi') (fun ρ w hρ hw => by
    obtain ⟨es, clock, rfl, he, hb⟩ := O.ex
    obtain ⟨es', clock', since, seen, last, e1, rfl, i1, i2, i3, i4, i5⟩ := I.ex
    have e1 := one_inj e1
    cases e1
    have hgw : w.heap[g]? = some (.map es clock) := hw.st.own _ hm g _ (Hp.one_self _ _)
    have hiw : w.heap[gi]? = some (.mapIter (some g) since seen last) := hw.st.own _ (List.mem_of_getElem? hi) gi _ (Hp.one_self _ _)
    have hent : ∀ x ∈ es.toList, ∃ (j : Nat) (hj : j < T.length) (hjb : j < bs.length), x = ent K V (T[j], bs[j]) := fun x hx => by
      rw [he] at hx
      obtain ⟨p, hp, rfl⟩ := List.mem_map.1 hx
      obtain ⟨j, hj⟩ := List.getElem?_of_mem hp
      obtain ⟨z1, z2⟩ := List.getElem?_zip_eq_some.1 hj
      obtain ⟨j1, j2⟩ := List.getElem?_eq_some_iff.1 z1
      obtain ⟨k1, k2⟩ := List.getElem?_eq_some_iff.1 z2
      exact ⟨j, j1, k1, by rw [j2, k2]⟩
    have hin : ∀ (j : Nat) (hj : j < T.length) (hjb : j < bs.length), ent K V (T[j], bs[j]) ∈ es.toList := fun j hj hjb => by
      rw [he]
      exact List.mem_map.2 ⟨(T[j], bs[j]), List.mem_of_getElem? (i := j) (List.getElem?_zip_eq_some.2 ⟨List.getElem?_eq_getElem hj, List.getElem?_eq_getElem hjb⟩), rfl⟩
    have hseen : ∀ b, seen.contains b = true ↔ ∃ j ∈ vis, bs[j]?.getD 0 = b := fun b => by
      rw [Array.contains_iff_mem, ← Array.mem_toList_iff, i4, List.mem_map]
    rcases run_next_at (P := e.P) w o.type gi g since last seen es clock hiw hgw (fun x hx => by
      obtain ⟨j, hj, hjb, rfl⟩ := hent x hx
      exact i1 _ (List.getElem_mem hjb)) i2 with ⟨h1, h2⟩ | ⟨x, h1, w1, h2, h3⟩
    · have hrun : (execOp ρ o).run e.P w = .ok (.value (.tuple #[.bool false])) w := by
        simp only [execOp, ho, hρ _ _ hx, Sem.run_bind, h2, Result.andThen_ok, Sem.run_pure]
      unfold OpRes; rw [hrun]
      refine ⟨h, ms, hw, .inl ⟨rfl, rfl, rfl, fun j hj => ?_⟩⟩
      have hjb : j < bs.length := by rw [O.len]; exact hj
      have hmem := hin j hj hjb
      have hc : seen.contains bs[j] = true := by
        cases hcc : seen.contains bs[j] with
        | true => rfl
        | false =>
          have : ent K V (T[j], bs[j]) ∈ leftOf es seen := by
            unfold leftOf
            rw [Array.mem_filter]
            exact ⟨Array.mem_toList_iff.1 hmem, by show (!seen.contains bs[j]) = true; rw [hcc]; rfl⟩
          rw [Array.size_eq_zero_iff.1 h1] at this
          simp at this
      obtain ⟨j', hj', e2⟩ := (hseen _).1 hc
      have hj'b := I.lt j' hj'
      rw [List.getElem?_eq_getElem hj'b] at e2
      have : j' = j := up_inj O.up (List.getElem?_eq_getElem hj'b) (by rw [List.getElem?_eq_getElem hjb]; exact congrArg some e2.symm)
      subst this; exact hj'
    · unfold leftOf at h1
      have h1 := Array.mem_filter.1 (Array.mem_toList_iff.1 h1)
      obtain ⟨j, hj, hjb, rfl⟩ := hent x (Array.mem_toList_iff.2 h1.1)
      have hjv : j ∉ vis := fun hv => by
        have : seen.contains bs[j] = true := (hseen _).2 ⟨j, hv, by rw [List.getElem?_eq_getElem hjb]; rfl⟩
        have h4 := h1.2
        simp only [ent] at h4
        rw [this] at h4; cases h4
      have hrun : (execOp ρ o).run e.P w = .ok (.value (.tuple #[.bool true, K T[j].1, V T[j].2])) (ChangeMaps.setBlock w1 gi (.mapIter (some g) since (seen.push bs[j]) clock)) := by
        simp only [execOp, ho, hρ _ _ hx, Sem.run_bind, h3, Result.andThen_ok, Sem.run_pure, ent]
      unfold OpRes; rw [hrun]
      have hw1 : e.Ends w1 h ms := by
        rcases h2 with rfl | rfl
        · exact hw
        · exact Ends.drew hw
      refine ⟨h, _, Ends.turn hw1 hi, .inr ⟨j, hj, _, hjv, ⟨⟨es, clock, since, seen.push bs[j], clock, rfl, rfl, i1, i3, i3, ?_, fun _ => rfl⟩, fun i hi => ?_, ?_⟩, rfl, rfl, rfl⟩⟩
      · rw [Array.toList_push, i4, List.map_append]
        simp [List.getElem?_eq_getElem hjb]
      · rcases List.mem_append.1 hi with hi | hi
        · exact I.lt i hi
        · simp at hi; subst hi; exact hjb
      · exact List.nodup_append.2 ⟨I.nodup, by simp, fun a ha b hb e => by simp at hb; subst hb; subst e; exact hjv ha⟩) hd hn hg fun v h' ms' hp => by
    rcases hp with ⟨e1, e2, e3, e4⟩ | ⟨j, hj, mi', e1, e2, e3, e4, e5⟩
    · subst e1 e2 e3; exact k0 e4
    · subst e3 e4 e5; exact k1 j hj mi' e1 e2
theorem ox_entry {x : Operand} {j : Nat} (O : OwnM K V g Ok m T bs) (I : IterM gi g m mi bs (vis ++ [j])) (hm : m ∈ ms) (hi : mi ∈ ms) (hj : j < T.length) (ho : o.op = .entry x) (hx : ev s x = some (.pointer (some ⟨gi, 0, none⟩))) : OX P o s h ms (.tuple #[K T[j].1, V T[j].2]) :=
  ox_of fun ρ w hρ hw => by
    obtain ⟨es, clock, rfl, he, hb⟩ := O.ex
    obtain ⟨es', clock', since, seen, last, e1, rfl, i1, i2, i3, i4, i5⟩ := I.ex
    have e1 := one_inj e1
    cases e1
    have hl : last = clock := i5 (by simp)
    subst hl
    have hgw : w.heap[g]? = some (.map es last) := hw.own _ hm g _ (Hp.one_self _ _)
    have hjb : j < bs.length := by rw [O.len]; exact hj
    have hs : seen = (vis.map fun j => bs[j]?.getD 0).toArray.push bs[j] := by
      apply Array.toList_inj.1
      rw [i4, Array.toList_push, List.map_append]
      simp [List.getElem?_eq_getElem hjb]
    have hiw : w.heap[gi]? = some (.mapIter (some g) since ((vis.map fun j => bs[j]?.getD 0).toArray.push (ent K V (T[j], bs[j])).born) last) := by
      have := hw.own _ hi gi _ (Hp.one_self _ _)
      rw [hs] at this; exact this
    have hmem : ent K V (T[j], bs[j]) ∈ es.toList := by
      rw [he]
      exact List.mem_map.2 ⟨(T[j], bs[j]), List.mem_of_getElem? (i := j) (List.getElem?_zip_eq_some.2 ⟨List.getElem?_eq_getElem hj, List.getElem?_eq_getElem hjb⟩), rfl⟩
    have hn : (es.toList.map (·.born)).Nodup := by
      rw [he, List.map_map]
      have : (MapEntry.born ∘ ent K V) = (Prod.snd : (κ × ν) × Nat → Nat) := rfl
      rw [this, List.map_snd_zip (by rw [O.len]; exact Nat.le_refl _)]
      exact O.up.imp fun h => Nat.ne_of_lt h
    have := run_entry_at (P := P) w gi g since _ es last _ hiw hgw hmem hn
    simp only [execOp, ho, hρ _ _ hx, Sem.run_bind, this, Result.andThen_ok, Sem.run_pure, ent]
end
end Go.Eng

/- The engine, part 21: order by order, pure operations first. -/
set_option linter.unusedSimpArgs false
set_option linter.unusedVariables false
namespace Go.Eng
open Go.RowKit
theorem ws_anyP {e : Entry} {id : Nat} {l : List Oper} {Q : Exit → Act → World → Prop} {s : Slots} {h : Hp} {ms : List Hp} {n : Nat} {bs : List Bool} (m : List Bool) (hm : e.P.follows .mixedOrders = true) (hlow : ((ixs m 0).all fun i => Nat.blt i l.length) = true) (hpu : pureOK (ixs m 0) l.toArray = true) (hbk : backsOK l.toArray = true) (hn : l.length = n)
    (hbs : (List.range n).map (fun i => (ixs m 0).contains i) = bs) (k : PZ e.P l e.n s (fun z => WA e (zapL m l).toArray (Q0 Q) n bs.toArray (z ++ s) h ms) (ixs m 0) []) : WS e (.region id l.toArray true) Q s h ms := by
  intro a w ha hw
  obtain ⟨z, kw, hz1, hz2⟩ := pz_spec _ [] [] (by simp) (fun t v hv => by cases hv) k
  have PO := pureOK_spec hpu
  have HB := backsOK_spec hbk
  have hlen : (zapL m l).length = l.length := zapL_length m l
  have hmem : ∀ i, (ixs m 0).contains i = true ↔ i ∈ ixs m 0 := fun i => List.contains_iff_mem
  have hZ : ZOK e.P (ixs m 0) l.toArray s z e.n := ⟨fun i o d hi ho hd => hz1 i (.inr ((hmem i).1 hi)) o d (by simpa using ho) hd, fun t v hv => by
    obtain ⟨g1, i, g2, g3⟩ := hz2 t v hv
    exact ⟨g1, i, (hmem i).2 (g2.resolve_left (by simp)), g3⟩⟩
  have hsz : l.toArray.size = n := by simpa using hn
  refine wp_region_any hm (Q := Q) (any_q0 _ _ _ _ ?_)
  refine sim_any ha PO HB hZ _ l.toArray.size _ a _ ⟨fun i _ hi => (by rw [getD_replicate_false] at hi; cases hi), fun _ _ => rfl, rfl, fun i o hi => (by rw [getD_replicate_false] at hi; cases hi)⟩ (by simp) (by
    unfold left; rw [Array.toList_replicate]; exact Nat.le_trans (List.countP_le_length) (by simp)) ?_
  have hug : ∀ i, (un (ixs m 0) (Array.replicate l.toArray.size false)).getD i false = (ixs m 0).contains i := fun i => by
    rcases Nat.lt_or_ge i l.length with hi | hi
    · rw [un_get _ _ _ _ (by simpa using hi), getD_replicate_false]; rfl
    · rw [Array.getD_eq_getD_getElem?, Array.getElem?_eq_none (by simpa [un] using hi)]
      cases hc : (ixs m 0).contains i with
      | false => rfl
      | true =>
        have h1 := List.all_eq_true.1 hlow i ((hmem i).1 hc)
        have := Nat.le_of_ble_eq_true h1
        omega
  refine any_same (ops' := (zapL m l).toArray) (ixs m 0) (by simp [hlen]) (fun i hi => ?_) PO.guard _ _ _ _ (fun i hi hc => by rw [hug]; exact hc) ?_
  · have : ¬ m[i]? = some true := fun h' => by rw [(ixs_contains m i).2 h'] at hi; cases hi
    simp only [List.getElem?_toArray]
    rw [zapL_get, if_neg this]
  · have e1 : un (ixs m 0) (Array.replicate l.toArray.size false) = bs.toArray := by
      apply Array.ext_getElem?
      intro i
      rcases Nat.lt_or_ge i n with hi | hi
      · have h1 := hug i
        rw [Array.getD_eq_getD_getElem?] at h1
        have h2 : i < (un (ixs m 0) (Array.replicate l.toArray.size false)).size := by simp [un]; simpa using (by omega : i < l.length)
        rw [Array.getElem?_eq_getElem h2] at h1 ⊢
        rw [← hbs]
        simp only [Option.getD_some] at h1
        rw [h1]
        simp [hi]
      · rw [Array.getElem?_eq_none (by simp [un]; simpa using (by omega : l.length ≤ i)), Array.getElem?_eq_none (by rw [← hbs]; simp; omega)]
    rw [e1, hsz]
    refine kw (zA z a) _ ⟨ha.defers, by simp [zA, ha.size], fun t u hu => ?_⟩ (Ends.drew hw)
    rw [zA_get]
    rw [lk_append] at hu
    cases hl : lk z t with
    | some v =>
      rw [hl] at hu; cases hu
      have hlt : t < a.tmps.size := by rw [ha.size]; exact (hz2 t _ hl).1
      simp [hlt]
    | none => rw [hl] at hu; rw [ha.slots t u hu]; rfl
theorem ox_lookupV {κ ν : Type} [DecidableEq κ] {K : κ → Value} {V : ν → Value} {Ok : κ → Prop} {P : Program} {kt et t : TypeId} {g : Nat} {m : Hp} {T : List (κ × ν)} {bs : List Nat} {o : Oper} {s : Slots} {h : Hp} {ms : List Hp} {x y : Operand} {z : ν} (a : κ) (u : ν) (hu : (getK T a).getD z = u) (L : Keys P kt K Ok) (O : OwnM K V g Ok m T bs) (hm : m ∈ ms) (ho : o.op = .lookup t x y false) (ht : P.underlying t = some (.map kt et)) (hz : ∀ w, (zeroValue et).run P w = .ok (V z) w) (hx : ev s x = some (.map (some g))) (hy : ev s y = some (K a)) (ha : Ok a) :
    OX P o s h ms (V u) := by
  have := ox_lookup (z := z) (h := h) a L O hm ho ht hz hx hy ha
  rwa [hu] at this
end Go.Eng
