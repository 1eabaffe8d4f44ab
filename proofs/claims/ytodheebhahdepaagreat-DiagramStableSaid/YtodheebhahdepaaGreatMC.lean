/- A part of the proof. -/
import Derived.Test.YtodheebhahdepaaGreatMB
import Derived.Shelf.GgSortFunc.InsertionK
import Derived.Test.YtodheebhahdepaaGreatChecked
import Derived.KernelRfl
import Derived.WalkArith
set_option linter.unusedSimpArgs false
set_option linter.unusedVariables false
set_option linter.unusedSectionVars false
set_option maxRecDepth 100000
set_option maxHeartbeats 4000000
namespace Go.Eng
open Go.RowKit
variable {f : Nat → Hp} {N l : Nat} {m : Hp} {R : Nat → Hp → Prop}
def CJ (f : Nat → Hp) : Nat → Hp
  | 0 => Hp.emp
  | n + 1 => (CJ f n).join (f n)
def Gi (f : Nat → Hp) (l : Nat) (m : Hp) : Nat → Hp := fun k => if k = l then m else f k
theorem BO (f : Nat → Hp) (l : Nat) (m : Hp) : Gi f l m l = m := if_pos rfl
theorem BJ (f : Nat → Hp) {k : Nat} (m : Hp) (h : k ≠ l) : Gi f l m k = f k := if_neg h
theorem joinN_none {g : Nat} : ∀ {n : Nat}, CJ f n g = none ↔ ∀ i, i < n → f i g = none
  | 0 => ⟨fun _ i h => by omega, fun _ => rfl⟩
  | n + 1 => by
    show (match CJ f n g with | some o => some o | none => f n g) = none ↔ _
    cases h : CJ f n g with
    | some o =>
      constructor
      · intro e; cases e
      · intro e
        have := (joinN_none (n := n)).2 fun i hi => e i (by omega)
        rw [h] at this; cases this
    | none =>
      constructor
      · intro e i hi
        rcases (by omega : i < n ∨ i = n) with h2 | rfl
        · exact joinN_none.1 h i h2
        · exact e
      · intro e; exact e n (by omega)
def Dj (N : Nat) (f : Nat → Hp) : Prop := ∀ i j, i < N → j < N → i ≠ j → (f i).disj (f j)
theorem DR {g : Nat} {o : Obj} : ∀ {n : Nat}, Dj n f → ∀ {l : Nat}, l < n → f l g = some o → CJ f n g = some o
  | n + 1, hd, l, hl, e => by
    show (match CJ f n g with | some o => some o | none => f n g) = some o
    rcases (by omega : l < n ∨ l = n) with h | rfl
    · rw [DR (fun i j hi hj => hd i j (by omega) (by omega)) h e]
    · have : CJ f l g = none := joinN_none.2 fun i hi => by
        rcases hd i l (by omega) (by omega) (by omega) g with h | h
        · exact h
        · rw [h] at e; cases e
      rw [this]; exact e
theorem Dj.upd (h : Dj N f) (l : Nat) : Dj N (Gi f l Hp.emp) := fun i j hi hj hne g => by
  by_cases h1 : i = l
  · subst h1; left; rw [BO]; rfl
  · by_cases h2 : j = l
    · subst h2; right; rw [BO]; rfl
    · rw [BJ f _ h1, BJ f _ h2]; exact h i j hi hj hne g
theorem Kv (hd : Dj N f) (hl : l < N) : CJ f N = (f l).join (CJ (Gi f l Hp.emp) N) ∧ (f l).disj (CJ (Gi f l Hp.emp) N) := by
  have key : ∀ g, f l g ≠ none → CJ (Gi f l Hp.emp) N g = none := fun g hg => joinN_none.2 fun i hi => by
    by_cases h : i = l
    · subst h; rw [BO]; rfl
    · rw [BJ f _ h]
      rcases hd i l hi hl h g with h2 | h2
      · exact h2
      · exact absurd h2 hg
  constructor
  · funext g
    show _ = match f l g with | some o => some o | none => CJ (Gi f l Hp.emp) N g
    cases h : f l g with
    | some o => exact DR hd hl h
    | none =>
      show CJ f N g = CJ (Gi f l Hp.emp) N g
      cases h2 : CJ (Gi f l Hp.emp) N g with
      | none =>
        refine joinN_none.2 fun i hi => ?_
        by_cases h3 : i = l
        · subst h3; exact h
        · have := joinN_none.1 h2 i hi
          rwa [BJ f _ h3] at this
      | some o =>
        have : ∃ i, i < N ∧ Gi f l Hp.emp i g ≠ none := Classical.byContradiction fun hc => by
          have := (joinN_none (f := Gi f l Hp.emp) (g := g) (n := N)).2 fun i hi => Classical.byContradiction fun hn => hc ⟨i, hi, hn⟩
          rw [h2] at this; cases this
        obtain ⟨i, hi, hne⟩ := this
        obtain ⟨o', ho'⟩ := Hp.ne_none hne
        have := DR (hd.upd l) hi ho'
        rw [h2] at this; cases this
        have hil : i ≠ l := fun he => by subst he; rw [BO] at ho'; cases ho'
        rw [BJ f _ hil] at ho'
        exact DR hd hi ho'
  · intro g
    by_cases h : f l g = none
    · exact .inl h
    · exact .inr (key g h)
def Bag (N : Nat) (R : Nat → Hp → Prop) (m : Hp) : Prop := ∃ f : Nat → Hp, Dj N f ∧ m = CJ f N ∧ ∀ l, l < N → R l (f l)
theorem Bag.zero (R : Nat → Hp → Prop) : Bag 0 R Hp.emp := ⟨fun _ => Hp.emp, fun i j h => by omega, rfl, fun l h => by omega⟩
theorem Bag.mono {R' : Nat → Hp → Prop} (B : Bag N R m) (h : ∀ l, l < N → ∀ x, R l x → R' l x) : Bag N R' m :=
  let ⟨f, h1, h2, h3⟩ := B
  ⟨f, h1, h2, fun l hl => h l hl _ (h3 l hl)⟩
theorem disj_joinN {n : Nat} : m.disj (CJ f n) ↔ ∀ i, i < n → m.disj (f i) := by
  constructor
  · intro h i hi g
    rcases h g with h1 | h1
    · exact .inl h1
    · exact .inr (joinN_none.1 h1 i hi)
  · intro h g
    by_cases hg : m g = none
    · exact .inl hg
    · refine .inr (joinN_none.2 fun i hi => ?_)
      rcases h i hi g with h1 | h1
      · exact absurd h1 hg
      · exact h1
theorem F8 {f' : Nat → Hp} : ∀ {n : Nat}, (∀ i, i < n → f i = f' i) → CJ f n = CJ f' n
  | 0, _ => rfl
  | n + 1, h => by
    show (CJ f n).join (f n) = (CJ f' n).join (f' n)
    rw [F8 fun i hi => h i (by omega), h n (by omega)]
theorem Bag.snoc {x : Hp} (B : Bag N R m) (hx : R N x) (hd : m.disj x) : Bag (N + 1) R (m.join x) := by
  obtain ⟨f, h1, rfl, h3⟩ := B
  have hc : CJ (Gi f N x) N = CJ f N := F8 fun i hi => BJ f x (by omega)
  refine ⟨Gi f N x, fun i j hi hj hne => ?_, ?_, fun l hl => ?_⟩
  · have hd' := disj_joinN.1 (Hp.disj_symm hd)
    rcases (by omega : i < N ∨ i = N) with h | rfl
    · rw [BJ f x (by omega : i ≠ N)]
      rcases (by omega : j < N ∨ j = N) with h2 | rfl
      · rw [BJ f x (by omega : j ≠ N)]; exact h1 i j h h2 hne
      · rw [BO]; exact Hp.disj_symm (hd' i h)
    · rw [BO, BJ f x (by omega : j ≠ i)]
      exact hd' j (by omega)
  · show _ = (CJ (Gi f N x) N).join (Gi f N x N)
    rw [hc, BO]
  · rcases (by omega : l < N ∨ l = N) with h | rfl
    · rw [BJ f x (by omega)]; exact h3 l h
    · rw [BO]; exact hx
theorem Bag.open (B : Bag N R m) (hl : l < N) : ∃ m1 m2, m = m1.join m2 ∧ m1.disj m2 ∧ R l m1 ∧ (∀ k, k < N → k ≠ l → ∃ x, x.le m2 ∧ R k x) ∧
    ∀ (R' : Nat → Hp → Prop) m1', m1'.disj m2 → R' l m1' → (∀ k, k < N → k ≠ l → ∀ x, R k x → R' k x) → Bag N R' (m1'.join m2) := by
  obtain ⟨f, h1, rfl, h3⟩ := B
  obtain ⟨e1, e2⟩ := Kv h1 hl
  refine ⟨f l, _, e1, e2, h3 l hl, fun k hk hne => ⟨f k, fun g o ho => ?_, h3 k hk⟩, fun R' m1' hd hR hk => ⟨Gi f l m1', ?_, ?_, fun k hkN => ?_⟩⟩
  · exact DR (h1.upd l) hk (by rw [BJ f _ hne]; exact ho)
  · have hd' := disj_joinN.1 hd
    intro i j hi hj hne
    by_cases hil : i = l
    · subst hil
      rw [BO, BJ f _ (Ne.symm hne)]
      have := hd' j hj
      rwa [BJ f _ (Ne.symm hne)] at this
    · rw [BJ f _ hil]
      by_cases hjl : j = l
      · subst hjl
        rw [BO]
        have := hd' i hi
        rw [BJ f _ hil] at this
        exact Hp.disj_symm this
      · rw [BJ f _ hjl]; exact h1 i j hi hj hne
  · have hD : Dj N (Gi f l m1') := by
      have hd' := disj_joinN.1 hd
      intro i j hi hj hne
      by_cases hil : i = l
      · subst hil
        rw [BO, BJ f _ (Ne.symm hne)]
        have := hd' j hj
        rwa [BJ f _ (Ne.symm hne)] at this
      · rw [BJ f _ hil]
        by_cases hjl : j = l
        · subst hjl
          rw [BO]
          have := hd' i hi
          rw [BJ f _ hil] at this
          exact Hp.disj_symm this
        · rw [BJ f _ hjl]; exact h1 i j hi hj hne
    have := (Kv hD hl).1
    rw [BO] at this
    rw [this]
    congr 1
    refine F8 fun i _ => ?_
    by_cases hil : i = l
    · subst hil; rw [BO, BO]
    · rw [BJ _ _ hil, BJ _ _ hil, BJ _ _ hil]
  · by_cases hkl : k = l
    · subst hkl; rw [BO]; exact hR
    · rw [BJ f _ hkl]; exact hk k hkN hkl _ (h3 k hkN)
theorem Bag.all (B : Bag N R m) : ∀ k, k < N → ∃ x, x.le m ∧ R k x := fun k hk => by
  obtain ⟨f, h1, rfl, h3⟩ := B
  exact ⟨f k, fun g o ho => DR h1 hk ho, h3 k hk⟩
theorem Hp.join_emp (a : Hp) : a.join Hp.emp = a := by
  funext g
  show (match a g with | some o => some o | none => none) = a g
  cases a g <;> rfl
theorem Hp.emp_join (a : Hp) : Hp.emp.join a = a := rfl
theorem Hp.join_assoc (a b c : Hp) : (a.join b).join c = a.join (b.join c) := by
  funext g
  show (match (match a g with | some o => some o | none => b g) with | some o => some o | none => c g) = (match a g with | some o => some o | none => (match b g with | some o => some o | none => c g))
  cases a g <;> rfl
theorem Hp.join_comm {a b : Hp} (h : a.disj b) : a.join b = b.join a := by
  funext g
  show (match a g with | some o => some o | none => b g) = (match b g with | some o => some o | none => a g)
  rcases h g with h | h <;> rw [h]
  · cases b g <;> rfl
  · cases a g <;> rfl
theorem Bh {α : Type} {F : α → List Value} {e : Entry} {Q : Exit → Act → World → Prop} {ops : Array Oper} {rest : List Oper} {o : Oper} {s : Ar} {h : Hp} {ms : List Hp} {t el : TypeId} {sz d : Nat} {z : Value} {bytes : Nat} {x y : Operand} {v u : Value} {l r : List α} (i : Nat) (O : OwnL F sz el m v l) (R : RdL F sz h ms u r) (ho : o.op = .call { callee := .builtin .append, args := #[x, y], argTypes := #[t, t] }) (ht : e.P.underlying t = some (.slice el)) (hs : Elem e.P el sz z bytes) (hzs : z.cells.size = sz) (hsz : 0 < sz)
    (hx : ev s x = some v) (hy : ev s y = some u) (hm : ms[i]? = some m) (h1 : ∀ a ∈ r, ∀ c ∈ F a, c.oneCell' = true) (hb : (l.length + r.length) * bytes ≤ 140737488355328) (hb63 : l.length + r.length ≤ 9223372036854775807) (hd : o.dst = some d) (hn : Nat.blt d e.n = true) (hg : o.guard = none)
    (K : ∀ v' m', OwnL F sz el m' v' (l ++ r) → WL e ops Q rest ((d, v') :: s) h (ms.set i m')) : WL e ops Q (o :: rest) s h ms :=
  KQ i ho ht hs hzs hsz hx hy hm O.own R.rd (fun c hc => by obtain ⟨a, hm', ha⟩ := List.mem_flatMap.1 hc; exact h1 a hm' c ha) hb hb63 hd hn hg fun v' m' O' => K v' m' ⟨by rw [List.length_append, List.flatMap_append]; exact O', O.len⟩
end Go.Eng

namespace Go.Eng
open Go.RowKit
def Goes (ms ms' : List Hp) : Prop := ∀ w0 h0 ms0 w h, Ends w0 h0 ms0 w h ms → Ends w0 h0 ms0 w h ms'
theorem Goes.perm {a b : List Hp} (h : a.Perm b) : Goes a b := fun _ _ _ _ _ x => x.perm h
variable {c : Code}
def Hp.minus (h m : Hp) : Hp := fun g => match m g with | some _ => none | none => h g
theorem Hp.minus_le (h m : Hp) : (h.minus m).le h := fun g o e => by
  unfold Hp.minus at e
  split at e
  · cases e
  · exact e
theorem Hp.le_minus {a h m : Hp} (hl : a.le h) (hd : a.disj m) : a.le (h.minus m) := fun g o e => by
  unfold Hp.minus
  rcases hd g with h1 | h1
  · rw [h1] at e; cases e
  · rw [h1]; exact hl g o e
theorem Hp.minus_disj (h m : Hp) : m.disj (h.minus m) := fun g => by
  unfold Hp.minus
  cases hm : m g with
  | none => exact .inl rfl
  | some o => exact .inr rfl
def Uv (e : Entry) (m : Hp) : Prop := e.h0.disj m ∧ ∀ k, k < e.w0.heap.size → m k ≠ none → ∃ m0 ∈ e.ms0, m0 k ≠ none
theorem Yz {e : Entry} {w : World} {h : Hp} {ms : List Hp} {m : Hp} (H : e.Ends w h (m :: ms)) : m.disj h ∧ Uv e m :=
  ⟨H.st.off m List.mem_cons_self, And.intro (fun g => by
    rcases H.st.off m List.mem_cons_self g with h1 | h1
    · exact .inr h1
    · left
      cases h2 : e.h0 g with
      | none => rfl
      | some o => have := H.le g o h2; rw [h1] at this; cases this) fun k hk hne => H.mnew m List.mem_cons_self k hk hne⟩
theorem back {e : Entry} {w : World} {h : Hp} {ms : List Hp} {m : Hp} (L : Uv e m) (hm : m.le h) (H : e.Ends w h ms) : e.Ends w (h.minus m) (m :: ms) := by
  refine ⟨⟨fun g o ho => H.st.imm g o (Hp.minus_le h m g o ho), fun x hx => ?_, fun x hx => ?_, ?_⟩, H.os, H.tape, H.output, H.size, H.block, Hp.le_minus H.le L.1, fun k hk hn => ?_, fun x hx k hk hne => ?_⟩
  · rcases List.mem_cons.1 hx with rfl | hx
    · exact fun g o ho => H.st.imm g o (hm g o ho)
    · exact H.st.own x hx
  · rcases List.mem_cons.1 hx with rfl | hx
    · exact Hp.minus_disj h x
    · intro g
      rcases H.st.off x hx g with h1 | h1
      · exact .inl h1
      · right
        cases h2 : h.minus m g with
        | none => rfl
        | some o => rw [Hp.minus_le h m g o h2] at h1; cases h1
  · refine List.pairwise_cons.2 ⟨fun x hx g => ?_, H.st.apart⟩
    rcases H.st.off x hx g with h1 | h1
    · exact .inr h1
    · left
      cases h2 : m g with
      | none => rfl
      | some o => rw [hm g o h2] at h1; cases h1
  · have h1 := H.hnew k hk hn
    unfold Hp.minus
    cases h2 : m k with
    | none => exact h1
    | some o =>
      obtain ⟨m0, hm0, hne⟩ := L.2 k hk (by rw [h2]; simp)
      exact absurd (hn m0 hm0) hne
  · rcases List.mem_cons.1 hx with rfl | hx
    · exact L.2 k hk hne
    · exact H.mnew x hx k hk hne
section
variable {e : Entry} {Q : Exit → Act → World → Prop} {s : Ar} {h : Hp} {ms : List Hp} {m : Hp}
theorem EE (i : Nat) {m : Hp} (hm : ms[i]? = some m) (k : WS e c Q s h (m :: ms.eraseIdx i)) : WS e c Q s h ms := Jq (Cq hm) k
theorem OZ {ops : Array Oper} {r : List Oper} (i : Nat) {m : Hp} (hm : ms[i]? = some m) (k : WL e ops Q r s h (m :: ms.eraseIdx i)) : WL e ops Q r s h ms := Mp (Cq hm) k
theorem CQ {x : Exit} (i : Nat) {m : Hp} (hm : ms[i]? = some m) (k : NX e Q x s h (m :: ms.eraseIdx i)) : NX e Q x s h ms := Gx (Cq hm) k
theorem FB (k : ∀ h1, h.le h1 → m.le h1 → h.disj m → Uv e m → WS e c Q s h1 ms) : WS e c Q s h (m :: ms) := fun a w ha hw =>
  let l := Yz hw
  k _ (Hp.le_join h m) (Hp.join_le_right l.1) (Hp.disj_symm l.1) l.2 a w ha (Ends.freeze hw)
theorem EP (L : Uv e m) (hm : m.le h) (k : ∀ h2, h2.le h → (∀ a : Hp, a.le h → a.disj m → a.le h2) → WS e c Q s h2 (m :: ms)) : WS e c Q s h ms := fun a w ha hw =>
  k _ (Hp.minus_le h m) (fun _ h1 h2 => Hp.le_minus h1 h2) a w ha (back L hm hw)
theorem Qd {x : Exit} (L : Uv e m) (hm : m.le h) (k : ∀ h2, h2.le h → (∀ a : Hp, a.le h → a.disj m → a.le h2) → NX e Q x s h2 (m :: ms)) : NX e Q x s h ms := fun a w ha hw =>
  k _ (Hp.minus_le h m) (fun _ h1 h2 => Hp.le_minus h1 h2) a w ha (back L hm hw)
end
end Go.Eng
namespace Go.Eng
open Go.RowKit
section
variable {κ ν : Type} [DecidableEq κ] {K : κ → Value} {V : ν → Value} {Ok : κ → Prop} {kt et t : TypeId} {g : Nat} {m : Hp} {T : List (κ × ν)} {bs : List Nat}
variable {e : Entry} {Q : Exit → Act → World → Prop} {ops : Array Oper} {rest : List Oper} {o : Oper} {s : Ar} {h : Hp} {ms : List Hp}
theorem Bp {x y u : Operand} {z : Value} (i : Nat) (a : κ) (y' : ν) (L : JS e.P kt K Ok) (O : BK K V g Ok m T bs) (hm : ms[i]? = some m) (ho : o.op = .mapUpdate t x y u) (ht : e.P.underlying t = some (.map kt et)) (hx : ev s x = some (.map (some g))) (hy : ev s y = some (K a)) (hu : ev s u = some (V y')) (ha : Ok a)
    (hd : o.dst = none) (hg : o.guard = none) (k : ∀ m' bs', BK K V g Ok m' (Cr T a y') bs' → WL e ops Q rest s h (ms.set i m')) : WL e ops Q (o :: rest) s h ms :=
  KY (post := fun _ h' ms' => ∃ m' bs', BK K V g Ok m' (Cr T a y') bs' ∧ h' = h ∧ ms' = ms.set i m') (fun ρ w hρ hw => by
    obtain ⟨es, clock, rfl, he, hb⟩ := O.ex
    have hgw : w.heap[g]? = some (.map es clock) := hw.st.own _ (List.mem_of_getElem? hm) g _ (Hp.one_self _ _)
    obtain ⟨l, hk⟩ := L.key a ha
    have hc := L.law.check w false hk
    have hs := L.law.stays w hk
    rcases Fm L O.keys O.ok O.len he w a ha with ⟨h1, h2⟩ | ⟨j, v, b, h1, h2, h3, h4⟩
    · have hT : Cr T a y' = T ++ [(a, y')] := by unfold Cr; rw [if_neg h2]
      have hrun : (execOp ρ o).run e.P w = .ok .skip { w with heap := w.heap.setIfInBounds g (.map (es.push ⟨K a, V y', clock⟩) (clock + 1)) } := by
        simp only [execOp, ho, hρ _ _ hx, hρ _ _ hy, hρ _ _ hu, Instr.mapUpdate, Sem.run_bind, run_underlying ht, Result.andThen_ok, getObj, Sem.run_pure]
        simp [Sem.run, hgw, hc, h1, Result.andThen, setObj]
      unfold OpRes; rw [hrun]
      refine ⟨h, _, Ends.turn hw hm, _, bs ++ [clock], ?_, rfl, rfl⟩
      rw [hT]
      refine ⟨⟨_, _, rfl, ?_, fun b hb' => ?_⟩, by simp [O.len], UW O.up hb, ?_, fun p hp => ?_⟩
      · rw [Array.toList_push, he, Ts T bs O.len, List.map_append]; rfl
      · rcases List.mem_append.1 hb' with hb' | hb'
        · have := hb b hb'; omega
        · simp at hb'; omega
      · have := Gq O.keys a y'; rw [hT] at this; exact this
      · rcases List.mem_append.1 hp with hp | hp
        · exact O.ok p hp
        · simp at hp; subst hp; exact ha
    · have hj4 := (Array.getElem?_eq_some_iff.1 h4)
      have hrun : (execOp ρ o).run e.P w = .ok .skip { w with heap := w.heap.setIfInBounds g (.map (es.modify j fun e => { e with key := K a, val := V y' }) clock) } := by
        simp only [execOp, ho, hρ _ _ hx, hρ _ _ hy, hρ _ _ hu, Instr.mapUpdate, Sem.run_bind, run_underlying ht, Result.andThen_ok, getObj, Sem.run_pure]
        simp [Sem.run, hgw, hc, h1, Result.andThen, setObj, h4, hs]
      unfold OpRes; rw [hrun]
      refine ⟨h, _, Ends.turn hw hm, _, bs, ?_, rfl, rfl⟩
      refine ⟨⟨_, _, rfl, ?_, hb⟩, ?_, O.up, Gq O.keys a y', fun p hp => ?_⟩
      · rw [Ie O.keys h2, Vc T bs j _ b h3, List.map_set, ← he]
        refine List.ext_getElem? fun k => ?_
        rw [Array.getElem?_toList, Array.getElem?_modify, List.getElem?_set]
        by_cases hjk : j = k
        · subst hjk
          rw [if_pos rfl, if_pos rfl, h4]
          have : j < es.toList.length := by simpa using (Array.getElem?_eq_some_iff.1 h4).1
          rw [if_pos this]; rfl
        · rw [if_neg hjk, if_neg hjk, Array.getElem?_toList]
      · rw [Ie O.keys h2, List.length_set]; exact O.len
      · rw [Ie O.keys h2] at hp
        rcases List.mem_or_eq_of_mem_set hp with hp | hp
        · exact O.ok p hp
        · subst hp; exact ha) hd hg fun v h' ms' ⟨m', bs', e1, e2, e3⟩ => by subst e2 e3; exact k m' bs' e1
end
end Go.Eng
namespace Go.Eng
open Go.RowKit
variable {s : Ar} {o : Oper} {h : Hp} {P : Program} {ms : List Hp}
def YD (ops : Array Oper) (listed : Array Bool) (j d : Nat) (oj : Oper) : Prop :=
  ∀ i oi, i ≠ j → listed[i]? = some false → ops[i]? = some oi → oi.dst ≠ some d ∧ (∀ t, oi.dst = some t → t ∉ oj.looksAt ops) ∧ (d ∈ oi.looksAt ops → ∃ e ∈ oi.after, Region.binds .any e = true ∧ e.on = j) ∧ ∀ cs b, oi.op ≠ .select cs b
def SN : Op → Bool
  | .select .. => false
  | _ => true
theorem J7 {o : Op} (h : SN o = true) : ∀ cs b, o ≠ .select cs b := fun cs b e => by rw [e] at h; cases h
def Xx (ops : Array Oper) (L : List Nat) (j d : Nat) (oi : Oper) : Bool :=
  (match oi.dst with | none => true | some t => !(t == d) && !(L.contains t)) && (!((oi.looksAt ops).contains d) || oi.after.any (fun e => Region.binds .any e && e.on == j)) && SN oi.op
def Yy (ops : Array Oper) (listed : Array Bool) (j d : Nat) : Bool :=
  match ops[j]? with
  | none => false
  | some oj => (oj.dst == some d) && SN oj.op && (Region.ready .any ops listed).contains j && (List.range ops.size).all fun i => i == j || listed.getD i true || match ops[i]? with
    | none => true
    | some oi => Xx ops (oj.looksAt ops) j d oi
theorem Sq {ops : Array Oper} {listed : Array Bool} {j d : Nat} (h : Yy ops listed j d = true) : ∃ oj, ops[j]? = some oj ∧ oj.dst = some d ∧ (∀ cs b, oj.op ≠ .select cs b) ∧ j ∈ Region.ready .any ops listed ∧ YD ops listed j d oj := by
  unfold Yy at h
  split at h
  · cases h
  · rename_i oj hoj
    simp only [Bool.and_eq_true, List.all_eq_true, List.contains_iff_mem, beq_iff_eq] at h
    obtain ⟨⟨⟨h2, h3⟩, h4⟩, h5⟩ := h
    refine ⟨oj, hoj, h2, J7 h3, h4, fun i oi hi hl ho => ?_⟩
    have := h5 i (List.mem_range.2 (Array.getElem?_eq_some_iff.1 ho).1)
    simp only [ho, Bool.or_eq_true, beq_iff_eq] at this
    rcases this with (h6 | h6) | h6
    · exact absurd h6 hi
    · rw [Array.getD_eq_getD_getElem?, hl] at h6; cases h6
    · unfold Xx at h6
      simp only [Bool.and_eq_true] at h6
      obtain ⟨⟨h7, h8⟩, h9⟩ := h6
      refine ⟨fun e => ?_, fun t ht hm => ?_, fun hm => ?_, J7 h9⟩
      · rw [e] at h7; simp at h7
      · rw [ht] at h7; simp at h7; exact h7.2 hm
      · simp only [Bool.or_eq_true] at h8
        rcases h8 with h8 | h8
        · simp at h8; exact absurd hm h8
        · simp only [Array.any_eq_true', List.any_eq_true, Bool.and_eq_true, beq_iff_eq] at h8
          obtain ⟨e, he, h10, h11⟩ := h8
          exact ⟨e, he, h10, h11⟩
theorem Sy {ops : Array Oper} {s' : Ar} {v : Value} (hsel : ∀ cs b, o.op ≠ .select cs b) (hs : ∀ t ∈ o.looksAt ops, ∀ u, lk s t = some u → lk s' t = some u) (k : OX P o s h [] v) : OX P o s' h [] v := fun ρ w hρ hw => by
  classical
  unfold OpRes
  rw [execOp_congr (ρ := ρ) (ρ' := fun x => if x ∈ o.op.operands then ρ x else (ev s x).getD undef) o hsel (fun x hx => (if_pos hx).symm)]
  refine k _ w (fun x u hu => ?_) hw
  show (if x ∈ o.op.operands then ρ x else (ev s x).getD undef) = u
  split
  · rename_i hx
    cases x with
    | tmp t => exact hρ _ _ (hs t (List.mem_append_left _ (List.mem_filterMap.2 ⟨.tmp t, by simpa using hx, rfl⟩)) u hu)
    | const v => exact hρ _ _ hu
    | global g => exact hρ _ _ hu
    | func f => exact hρ _ _ hu
  · rw [hu]; rfl
theorem Oper.wp_sim2 {z : Ar} {a : Act} {w : World} {K K' : Act → World → Prop} {Qb Qc : Exit → Act → World → Prop} (hq : ∀ x a w, Qb x a w → x = .normal) (hlo : ¬ LetsOut Qb) (hx : execOp (zA z a).eval o = execOp a.eval o) (hd : ∀ t, o.dst = some t → lk z t = none) (hK : ∀ b w v, b.tmps = (a.put o.dst v).tmps → K' (zA z b) w → K b w)
    (h : o.wp P (zA z a) w K' Qb) : o.wp P a w K Qc := by
  unfold Oper.wp at *
  rw [hx] at h
  generalize (execOp a.eval o).run P w = r at *
  have hv : ∀ v w, K' ((zA z a).put o.dst v) w → K (a.put o.dst v) w := fun v w hh => hK _ _ v rfl (by rw [Fs hd]; exact hh)
  cases r with
  | ok n w' =>
    cases n <;> simp only [Oper.upon] at h ⊢ <;>
      first
        | exact hv _ _ h
        | exact Calls.mono h (fun e w'' he => by
            cases e
            · exact hv _ _ he
            · exact absurd (hq _ _ _ he) (by simp)
            · exact absurd he hlo)
        | exact Rows.mono h (fun _ _ he => hv _ _ he)
        | exact hK _ _ undef (by cases o.dst <;> rfl) (by rw [Fs hd]; exact h)
  | halt x w' => cases x <;> simp only [Oper.upon] at h ⊢ <;> first | exact h | exact absurd (hq _ _ _ h) (by simp)
theorem OX.at {h0 : Hp} {v : Value} (k : OX P o s h0 [] v) (hl : h0.le h) : OX P o s h ms v := fun ρ w hρ hw =>
  k ρ w hρ ⟨fun g o e => hw.imm g o (hl g o e), fun m hm => by simp at hm, fun m hm => by simp at hm, List.Pairwise.nil⟩
def GK (ops : Array Oper) (oj : Oper) (s : Ar) : Prop := oj.guard = none ∨ ∃ k b ok dk, oj.guard = some (k, b) ∧ ops[k]? = some ok ∧ ok.dst = some dk ∧ lk s dk = some (.bool b)
theorem GK.mono {ops : Array Oper} {oj : Oper} {s' : Ar} (h : GK ops oj s) (hs : ∀ t ∈ oj.looksAt ops, ∀ u, lk s t = some u → lk s' t = some u) : GK ops oj s' := by
  rcases h with h | ⟨k, b, ok, dk, h1, h2, h3, h4⟩
  · exact .inl h
  · refine .inr ⟨k, b, ok, dk, h1, h2, h3, hs dk ?_ _ h4⟩
    unfold Oper.looksAt
    refine List.mem_append_right _ ?_
    simp [h1, h2, h3]
section
variable {e : Entry} {ops : Array Oper} {Q : Exit → Act → World → Prop} {h0 : Hp} {j d : Nat} {v : Value} {oj : Oper}
theorem V7 {rest : List Oper} {Q : Exit → Act → World → Prop} (hG : GK ops oj s) (hx : OX e.P oj s h ms v) (hd : oj.dst = some d) (hn : Nat.blt d e.n = true) (k : WL e ops Q rest ((d, v) :: s) h ms) : WL e ops Q (oj :: rest) s h ms := by
  rcases hG with h | ⟨q, b, ok, dk, h1, h2, h3, h4⟩
  · exact XH hx hd hn h k
  · exact VX hx hd hn h1 h2 h3 h4 k
theorem XQ (hoj : ops[j]? = some oj) (hdj : oj.dst = some d) (hd : d < e.n) (hsel : ∀ cs b, oj.op ≠ .select cs b) :
    ∀ n listed s s1 h ms, h0.le h → j ∈ Region.ready .any ops listed → YD ops listed j d oj → (∀ t u, lk s1 t = some u → lk ((d, v) :: s) t = some u) → GK ops oj s → OX e.P oj s h0 [] v → WB e ops Q h0 n (listed.setIfInBounds j true) s1 h ms → WB e ops Q h0 (n + 1) listed s h ms := by
  intro n
  induction n with
  | zero =>
    intro listed s s1 h ms hle hj hF hs hG hx H
    refine ⟨fun hr => (by rw [hr] at hj; cases hj), fun i hi => ?_⟩
    by_cases hij : i = j
    · subst hij
      exact ⟨oj, hoj, V7 hG (hx.at hle) hdj (Nat.ble_eq_true_of_le hd) (Ak fun a w ha hw => ⟨rfl, s1, h, ms, ⟨ha.defers, ha.size, fun t u hu => ha.slots t u (hs t u hu)⟩, hw, hle, H⟩)⟩
    · obtain ⟨h1', o, ho, BQ⟩ := mem_ready.1 hi
      have h1 := AY h1'
      have : i ∈ Region.ready .any ops (listed.setIfInBounds j true) := mem_ready.2 ⟨by rw [getD_set_ne _ (Ne.symm hij)]; exact h1', o, ho, fun e he hb => by
        have := BQ e he hb
        by_cases hej : j = e.on
        · rw [← hej]; have hlt := (Array.getElem?_eq_some_iff.1 (AY (mem_ready.1 hj).1)).1; simp [hlt]
        · rw [getD_set_ne _ hej]; exact this⟩
      rw [H.1] at this; cases this
  | succ n ih =>
    intro listed s s1 h ms hle hj hF hs hG hx H
    refine ⟨fun hr => (by rw [hr] at hj; cases hj), fun i hi => ?_⟩
    by_cases hij : i = j
    · subst hij
      exact ⟨oj, hoj, V7 hG (hx.at hle) hdj (Nat.ble_eq_true_of_le hd) (Ak fun a w ha hw => ⟨rfl, s1, h, ms, ⟨ha.defers, ha.size, fun t u hu => ha.slots t u (hs t u hu)⟩, hw, hle, H⟩)⟩
    · obtain ⟨h1', o, ho, BQ⟩ := mem_ready.1 hi
      have h1 := AY h1'
      have hjl := AY (mem_ready.1 hj).1
      have hjlt := (Array.getElem?_eq_some_iff.1 hjl).1
      have hr' : i ∈ Region.ready .any ops (listed.setIfInBounds j true) := mem_ready.2 ⟨by rw [getD_set_ne _ (Ne.symm hij)]; exact h1', o, ho, fun e he hb => by
        have := BQ e he hb
        by_cases hej : j = e.on
        · rw [← hej]; simp [hjlt]
        · rw [getD_set_ne _ hej]; exact this⟩
      obtain ⟨f1, f2, f3, f4⟩ := hF i o hij h1 ho
      have f3' : d ∉ o.looksAt ops := fun hm => by
        obtain ⟨e, he, hb, hon⟩ := f3 hm
        have := BQ e he hb
        rw [hon, Array.getD_eq_getD_getElem?, hjl] at this; cases this
      obtain ⟨o', ho', HW⟩ := H.2 i hr'
      rw [ho] at ho'; cases ho'
      refine ⟨o, ho, fun a w ha hw => ?_⟩
      have hza : ∀ (b : Act) t, t ≠ d → (zA [(d, v)] b).tmps[t]? = b.tmps[t]? := fun b t ht => by
        rw [D9, Bd _ _ (Ne.symm ht)]; cases b.tmps[t]? <;> rfl
      have hzd : ∀ (b : Act), d < b.tmps.size → (zA [(d, v)] b).tmps[d]? = some v := fun b hb => by
        rw [D9, Bj]; simp [hb]
      have haz : Has e.n e.ds (zA [(d, v)] a) s1 := ⟨ha.defers, by simp [zA, ha.size], fun t u hu => by
        have := hs t u hu
        by_cases htd : d = t
        · subst htd; rw [Bj] at this; cases this; exact hzd a (by rw [ha.size]; exact hd)
        · rw [Bd _ _ htd] at this; rw [hza a t (Ne.symm htd)]; exact ha.slots t u this⟩
      have H' := HW (zA [(d, v)] a) w haz hw
      unfold wpList at H' ⊢
      have hsame : ∀ t ∈ o.looksAt ops, (zA [(d, v)] a).tmps[t]? = a.tmps[t]? := fun t ht => hza a t (fun e' => f3' (e' ▸ ht))
      have hx' : execOp (zA [(d, v)] a).eval o = execOp a.eval o := execOp_congr o f4 fun x hx => by
        cases x with
        | tmp t =>
          have := hsame t (List.mem_append_left _ (List.mem_filterMap.2 ⟨.tmp t, by simpa using hx, rfl⟩))
          simp only [Act.eval]
          rw [Array.getD_eq_getD_getElem?, this, ← Array.getD_eq_getD_getElem?]
        | const v => rfl
        | global g => rfl
        | func f => rfl
      have hwant : Region.wanted o (yielded ops (zA [(d, v)] a).tmps) = Region.wanted o (yielded ops a.tmps) := by
        unfold Region.wanted
        cases hg : o.guard with
        | none => rfl
        | some p =>
          obtain ⟨k, b⟩ := p
          have : yielded ops (zA [(d, v)] a).tmps k = yielded ops a.tmps k := by
            unfold yielded
            cases hd : (ops[k]?).bind (·.dst) with
            | none => rfl
            | some t =>
              have ht : t ∈ o.looksAt ops := by
                unfold Oper.looksAt
                refine List.mem_append_right _ ?_
                simp only [hg]
                rw [hd]; simp
              simp [hd, hsame t ht]
          simp only [this]
      rw [hwant] at H'
      have hdz : ∀ t, o.dst = some t → lk [(d, v)] t = none := fun t ht => by
        rw [Bd _ _ (fun e' => f1 (by rw [ht, e']))]; rfl
      have hnext : ∀ b w v', b.tmps = (a.put o.dst v').tmps → (QB e ops Q h0 n ((listed.setIfInBounds j true).setIfInBounds i true)) .normal (zA [(d, v)] b) w → (QB e ops Q h0 (n + 1) (listed.setIfInBounds i true)) .normal b w := fun b w v' hbt hh => by
        obtain ⟨-, s', h', ms', g1, g2, g3, g4⟩ := hh
        have hbget : ∀ t, o.dst ≠ some t → b.tmps[t]? = a.tmps[t]? := fun t ht => by
          rw [hbt]
          cases hd : o.dst with
          | none => rfl
          | some d' =>
            have : d' ≠ t := fun e' => ht (by rw [hd, e'])
            simp only [Act.put, Array.getElem?_setIfInBounds_ne this]
        have hbs : b.tmps.size = a.tmps.size := by rw [hbt]; cases o.dst <;> simp [Act.put]
        have hbn : b.tmps.size = e.n := by rw [hbs, ha.size]
        let L := oj.looksAt ops
        have hlf : ∀ (p : Nat → Bool) (s : Ar) t, lk (s.filter (fun x => p x.1)) t = if p t = true then lk s t else none := by
          intro p s t
          induction s with
          | nil => simp [lk]
          | cons x s ih =>
            obtain ⟨y, u⟩ := x
            by_cases hy : p y = true
            · rw [List.filter_cons_of_pos (by exact hy)]
              by_cases hyt : y = t
              · subst hyt; rw [Bj, Bj, if_pos hy]
              · rw [Bd _ _ hyt, Bd _ _ hyt, ih]
            · rw [List.filter_cons_of_neg (by exact hy), ih]
              by_cases hyt : y = t
              · subst hyt; rw [if_neg hy, if_neg hy]
              · rw [Bd _ _ hyt]
        let sL := s.filter (fun x => L.contains x.1)
        let sR := s'.filter (fun x => !(x.1 == d))
        have hL : ∀ t u, lk sL t = some u → t ∈ L ∧ lk s t = some u := fun t u hu => by
          rw [hlf (fun t => L.contains t)] at hu
          split at hu
          · rename_i hc; exact ⟨List.contains_iff_mem.1 hc, hu⟩
          · cases hu
        have hLb : ∀ t u, lk sL t = some u → b.tmps[t]? = some u := fun t u hu => by
          obtain ⟨k1, k2⟩ := hL t u hu
          rw [hbget t (fun e' => f2 t e' k1)]
          exact ha.slots t u k2
        have hR : ∀ t, t ≠ d → lk sR t = lk s' t := fun t ht => by
          rw [hlf (fun t => !(t == d))]; simp [ht]
        have hRd : lk sR d = none := by rw [hlf (fun t => !(t == d))]; simp
        have hb' : ∀ t u, t ≠ d → lk s' t = some u → b.tmps[t]? = some u := fun t u ht hu => by
          rw [← hza b t ht]; exact g1.slots t u hu
        refine ⟨rfl, sL ++ sR, h', ms', ⟨g1.defers, hbn, fun t u hu => ?_⟩, g2, g3, ?_⟩
        · rw [BT] at hu
          cases hl : lk sL t with
          | some u' => rw [hl] at hu; cases hu; exact hLb t _ hl
          | none =>
            rw [hl] at hu
            have htd : t ≠ d := fun e' => by subst e'; simp only [Option.none_or] at hu; rw [hRd] at hu; cases hu
            simp only [Option.none_or] at hu
            rw [hR t htd] at hu; exact hb' t u htd hu
        · refine ih (listed.setIfInBounds i true) (sL ++ sR) s' h' ms' g3 ?_ ?_ ?_ ?_ ?_ (by rw [Array.setIfInBounds_comm _ _ hij]; exact g4)
          · obtain ⟨_, oj', hoj', Nh⟩ := mem_ready.1 hj
            refine mem_ready.2 ⟨by rw [getD_set_ne _ hij]; exact (mem_ready.1 hj).1, oj', hoj', fun ed he hb => ?_⟩
            have := Nh ed he hb
            by_cases hei : i = ed.on
            · rw [← hei]; have := (Array.getElem?_eq_some_iff.1 h1).1; simp [this]
            · rw [getD_set_ne _ hei]; exact this
          · intro k ok hk hl hok
            refine hF k ok hk ?_ hok
            by_cases hki : i = k
            · subst hki; have := (Array.getElem?_eq_some_iff.1 h1).1; simp [this] at hl
            · rw [Array.getElem?_setIfInBounds_ne hki] at hl; exact hl
          · intro t u hu
            by_cases htd : d = t
            · subst htd
              have k1 := g1.slots _ u hu
              rw [hzd b (by rw [hbn]; exact hd)] at k1
              rw [Bj]; exact k1
            · rw [Bd _ _ htd, BT]
              cases hl : lk sL t with
              | some u' =>
                have k1 := hLb t u' hl
                rw [hb' t u (Ne.symm htd) hu] at k1
                simpa using k1.symm
              | none => rw [hR t (Ne.symm htd)]; simpa using hu
          · have hlk : ∀ t ∈ oj.looksAt ops, ∀ u, lk s t = some u → lk (sL ++ sR) t = some u := fun t ht u hu => by
              rw [BT]
              have : lk sL t = some u := by rw [hlf (fun t => L.contains t), if_pos (List.contains_iff_mem.2 ht)]; exact hu
              rw [this]; rfl
            exact hG.mono hlk
          · refine Sy (ops := ops) hsel (fun t ht u hu => ?_) hx
            rw [BT]
            have : lk sL t = some u := by rw [hlf (fun t => L.contains t), if_pos (List.contains_iff_mem.2 ht)]; exact hu
            rw [this]; rfl
      split
      · rename_i hw'
        rw [if_pos hw'] at H'
        rcases H' with H' | ⟨_, H'⟩
        · exact .inl (Oper.wp_sim2 (fun x a w h => h.1) LW hx' hdz (fun b w v hb hh => hnext b w v hb hh) H')
        · exact absurd H' LW
      · rename_i hw'
        rw [if_neg hw'] at H'
        exact hnext _ _ undef rfl (by rw [Fs hdz]; exact H')
theorem F7 {n : Nat} {listed : Array Bool} (j d : Nat) (hF : Yy ops listed j d = true) (hoj : ops[j]? = some o) (hle : h0.le h) (hn : Nat.blt d e.n = true) (hx : OX e.P o s h0 [] v) (k : WB e ops Q h0 n (listed.setIfInBounds j true) ((d, v) :: s) h ms) (hg : o.guard = none := by rfl) : WB e ops Q h0 (n + 1) listed s h ms := by
  obtain ⟨oj, g1, g3, g4, g5, g6⟩ := Sq hF
  rw [hoj] at g1; cases g1
  exact XQ hoj g3 (Nat.le_of_ble_eq_true hn) g4 n listed s _ h ms hle g5 g6 (fun t u hu => hu) (.inl hg) hx k
end
end Go.Eng
namespace Go.Eng
open Go.RowKit
theorem Ua (g k : Nat) : (⟨g, 0, none⟩ : Addr).add k = ⟨g, k, none⟩ := by
  unfold Addr.add; split <;> simp_all
theorem Me {α : Type} {F : α → List Value} {sz : Nat} (hF : ∀ x, (F x).length = sz) {l : List α} {j : Nat} (hj : j < l.length) (a : α) : (l.flatMap F).take (j * sz) ++ F a ++ (l.flatMap F).drop (j * sz + sz) = (l.set j a).flatMap F := by
  have e : j * sz + sz = (j + 1) * sz := by rw [Nat.add_mul, Nat.one_mul]
  rw [e, FK hF, Ej hF, List.set_eq_take_append_cons_drop, if_pos hj, List.flatMap_append, List.flatMap_cons, List.append_assoc]
section
variable {e : Entry} {Q : Exit → Act → World → Prop} {ops : Array Oper} {rest : List Oper} {o : Oper} {s : Ar} {h : Hp} {ms : List Hp} {α : Type} {F : α → List Value} {l : List α} {v : Value} {m : Hp} {el : TypeId} {sz : Nat}
theorem JZ {t : TypeId} {x y : Operand} {u z : Value} {bytes : Nat} (i j : Nat) (a : α) (O : OwnL F sz el m v l) (ho : o.op = .store t x y) (hs : Elem e.P t sz z bytes) (hx : ev s x = some (.pointer (some ((AI v).add (j * sz))))) (hy : ev s y = some u) (hv : u.cells = (F a).toArray) (h1 : ∀ c ∈ F a, c.oneCell' = true)
    (hm : ms[i]? = some m) (hj : j < l.length) (hd : o.dst = none) (hg : o.guard = none)
    (K : ∀ m', OwnL F sz el m' v (l.set j a) → WL e ops Q rest s h (ms.set i m')) : WL e ops Q (o :: rest) s h ms := by
  obtain ⟨⟨h2, h3⟩, hF⟩ := O
  rcases h3 with ⟨rfl, h4, rfl⟩ | ⟨g, cap, spare, rfl, rfl, e1, e2, e3⟩
  · rw [h4] at hj; simp at hj
  · have hle : (j + 1) * sz ≤ l.length * sz := Nat.mul_le_mul_right sz hj
    have hjs : j * sz + sz = (j + 1) * sz := by rw [Nat.add_mul, Nat.one_mul]
    have hFa := hF a
    refine KY (post := fun _ h' ms' => h' = h ∧ ms' = ms.set i (Bf g el ((l.set j a).flatMap F ++ spare))) (fun ρ w hρ hw => ?_) hd hg fun _ _ _ ⟨e4, e5⟩ => ?_
    · have hgw : w.heap[g]? = some (.cells (l.flatMap F ++ spare).toArray el (0, 0)) := hw.st.own _ (List.mem_of_getElem? hm) g _ (Hp.one_self _ _)
      have hst := run_storeCells_at (P := e.P) g (j * sz) el (F a) 0 _ w hgw (by simp only [List.size_toArray, List.length_append]; omega) h1
      have hadd : (AI (.slice (some ⟨g, 0, none⟩) l.length cap)).add (j * sz) = ⟨g, j * sz, none⟩ := by
        show (⟨g, 0, none⟩ : Addr).add (j * sz) = _
        exact Ua g (j * sz)
      have hrow : (l.flatMap F ++ spare).take (j * sz) ++ F a ++ (l.flatMap F ++ spare).drop (j * sz + sz) = (l.set j a).flatMap F ++ spare := by
        rw [List.take_append_of_le_length (by omega), List.drop_append_of_le_length (by omega), ← List.append_assoc, Me hF hj]
      have : (execOp ρ o).run e.P w = .ok .skip (w.setRow g ((l.set j a).flatMap F ++ spare).toArray) := by
        simp [execOp, ho, hρ _ _ hx, hρ _ _ hy, Instr.storeAt, Instr.sureAddr, storeVar, hs.sizeOf, hv, hFa, hadd]
        simp at hst
        rw [hFa] at hst
        rw [hst, ← List.append_assoc, hrow]; rfl
      unfold OpRes; rw [this]
      exact ⟨h, _, Ends.put hw hm rfl ⟨rfl, Nat.le_refl _⟩ rfl (by simp) (setRow_heap w g _ _ _ _ hgw) (fun k hk hne => setRow_other w g k _ hne), rfl, rfl⟩
    · subst e4 e5
      refine K _ ⟨⟨?_, .inr ⟨g, cap, spare, by rw [List.length_set], rfl, ?_, by rw [List.length_set]; omega, e3⟩⟩, hF⟩
      · rw [Be hF, List.length_set]
      · rw [List.length_append, Be hF, List.length_set, ← Be hF l, ← List.length_append]; exact e1
end
end Go.Eng
namespace Go.Eng
open Go.RowKit
def Xw {ι : Type} (P : Program) (gf : FuncId) (lb : List Value) (h : Hp) (R : ι → List Value → ι → Prop) (i0 : ι) (fin : ι → Prop) : Prop :=
  ∀ (lp : Nat) (X : ι → Hp → List Hp → Prop) (h1 : Hp) (ms : List Hp), h.le h1 → (∀ i vs i' h2 ms2, R i vs i' → h1.le h2 → X i h2 ms2 → Yd P lp vs.toArray h2 ms2 (fun r h' ms' => r = .bool true ∧ X i' h' ms')) → X i0 h1 ms →
    FnT P gf ([Value.func (.yield lp) #[] #[]] ++ lb).toArray h1 ms (fun _ h' ms' => ∃ i, fin i ∧ X i h' ms')
theorem Sg {e : Entry} {Q : Exit → Act → World → Prop} {s : Ar} {h : Hp} {ms pre fr : List Hp} {ops : Array Oper} {o : Oper} {rest : List Oper} {x : Operand} {lp : Nat} {l : List Operand} {ts : Array TypeId} {vs : List Value} {d : Nat} {post : Value → Hp → List Hp → Prop} (hp : ms.Perm (pre ++ fr)) (ho : o.op = .call { callee := .value x, args := l.toArray, argTypes := ts }) (hx : ev s x = some (.func (.yield lp) #[] #[])) (ha : MI s l = some vs) (k : Yd e.P lp vs.toArray h pre post) (hd : o.dst = some d) (hn : Nat.blt d e.n = true) (hg : o.guard = none)
    (K : ∀ v h' ms', h.le h' → post v h' ms' → IL e ops Q rest ((d, v) :: s) h' (ms' ++ fr)) : IL e ops Q (o :: rest) s h ms := fun a w hA hw0 => by
  have hw := Ends.perm hw0 hp
  unfold wpListIn
  rw [if_pos (by simp [Region.wanted, hg])]
  obtain ⟨fn, tmps, assign, body, hy, hr⟩ := k w hw.st.pre
  have hrun : (execOp a.eval o).run e.P w = .ok (.round lp fn tmps assign body) w := by
    simp [execOp, ho, resolve, hA.eval _ _ hx, Deferred.ofValue, invoke, (show Evs s a.eval from hA.eval).map l vs ha, hy]
  refine ⟨fun _ _ => trivial, ?_⟩
  rw [Oper.semAt_eq _ _ _ (fun c e => by rw [ho] at e; cases e), hrun]
  refine ⟨(fun h => by cases h), hr.mono fun x w' ⟨r, h', ms', e1, e2, e3⟩ => ?_⟩
  subst e1
  show wpListIn _ _ _ _ _ _ (a.put o.dst r) w'
  rw [hd]
  exact K r h' ms' e2.le e3 _ _ (hA.put (Nat.le_of_ble_eq_true hn) _) (Ends.call hw e2)
theorem KH {ι : Type} {e : Entry} {Q : Exit → Act → World → Prop} {s : Ar} {h : Hp} {ms : List Hp} {t gf : Nat} {lb : List Value} {ps : List Nat} {assign body : Code} (J : ι → Hp → List Hp → Prop) (A : ι → List Value → ι → Ar → Hp → List Hp → Prop) {R : ι → List Value → ι → Prop} {i0 : ι} {fin : ι → Prop}
    (hg : lk s t = some (.func (.func gf) #[] lb.toArray)) (hc : ∀ az w, (callFunc gf az).run e.P w = .ok (.enter gf az) w) (hit : Xw e.P gf lb h R i0 fin) (hps : ∀ k vs k', R k vs k' → vs.length = ps.length) (hpn : ps.all (fun p => Nat.blt p e.n) = true)
    (h0 : J i0 h ms)
    (hA : ∀ w0 k vs k' h1 ms1, R k vs k' → h.le h1 → J k h1 ms1 → RS ⟨e.P, w0, h1, ms1, e.n, []⟩ assign (UN ⟨e.P, w0, h1, ms1, e.n, []⟩ (A k vs k')) (OS ps vs s) h1 ms1)
    (hB : ∀ w0 k vs k' s1 h1 ms1, R k vs k' → h.le h1 → A k vs k' s1 h1 ms1 → RS ⟨e.P, w0, h1, ms1, e.n, []⟩ body (UN ⟨e.P, w0, h1, ms1, e.n, []⟩ (fun _ => J k')) s1 h1 ms1)
    (hK : ∀ D k h1 ms1, fin k → h.le h1 → J k h1 ms1 → NX ⟨e.P, e.w0, e.h0, e.ms0, e.n, D :: e.ds⟩ Q .normal s h1 (ms1 ++ [Mk D])) :
    WS e (.rangeFunc (.tmp t) ps.toArray assign body) Q s h ms := by
  intro a w ha hw
  refine (wpIn_wide (n := 0)).1 (wpIn_rangeFunc fun fn _ => ?_)
  have hge : a.eval (.tmp t) = .func (.func gf) #[] lb.toArray := ha.eval (.tmp t) _ hg
  obtain ⟨rec, hrec⟩ : ∃ rec : LoopState → Loop, rec = fun st => { state := st, pending := none, fn, tmps := a.tmps, params := ps.toArray, assign, body, defers := w.heap.size } := ⟨_, rfl⟩
  obtain ⟨l, hl⟩ : ∃ l, l = w.heap.size + 1 := ⟨_, rfl⟩
  obtain ⟨W1, hW1⟩ : ∃ W1, (w.alloc (.deferred (some []))).alloc (.loop (rec .ready)) = W1 := ⟨_, rfl⟩
  have hE1 : e.Ends W1 h (ms ++ [Hp.one l (.loop (rec .ready)), Mk w.heap.size]) := by
    have h2 := (hw.alloc (.deferred (some []))).alloc (.loop (rec .ready))
    rw [World.size_alloc, ← hl, hW1] at h2
    exact h2.perm (by
      refine List.Perm.trans ?_ List.perm_append_comm
      exact List.Perm.refl _)
  have hN : w.heap.size = w.heap.size := rfl
  refine ⟨l, [{ target := .collected w.heap.size, args := #[] }], W1, { target := .fn (.func gf) lb.toArray, args := #[.func (.yield l) #[] #[]] }, W1, gf, ([Value.func (.yield l) #[] #[]] ++ lb).toArray, W1, ?_, ?_, fun _ _ => trivial, ?_, (fun h => by cases h), ?_⟩
  · rw [← hW1, hrec, hl]; exact run_enterLoop_outer _ _ _ _ _
  · simp only [resolve, hge]
    simp [go_sem]
  · simp [invoke, go_sem, hc]
  · refine (callsIn_wide (n := 0)).2 ((hit l (fun k h1 ms1 => h.le h1 ∧ ∃ ms2, ms1 = ms2 ++ [Hp.one l (.loop (rec .ready)), Mk w.heap.size] ∧ J k h1 ms2) h _ (Hp.le_refl _) ?_ ⟨Hp.le_refl _, ms, rfl, h0⟩ W1 hE1.st).mono ?_)
    · -- a round
      rintro k vs k' h2 ms2 hkN hl2 ⟨_, ms2, rfl, hJ⟩ w2 hS2
      have hlo : w2.heap[l]? = some (.loop (rec .ready)) := hS2.own _ (by simp) l _ (Hp.one_self _ _)
      have hy := run_yield (P := e.P) (args := vs.toArray) hlo (by rw [hrec]; simpa using hps k vs k' hkN)
      refine ⟨_, _, _, _, hy, ?_⟩
      have r1 : (rec .ready).params = ps.toArray := by rw [hrec]
      have r2 : (rec .ready).tmps = a.tmps := by rw [hrec]
      have r3 : (rec .ready).assign = assign := by rw [hrec]
      have r4 : (rec .ready).body = body := by rw [hrec]
      rw [r1, r2, r3, r4]
      refine roundIn_of_wpIn trivial ?_
      have hSp : St w2 h2 ms2 := hS2.pre
      have hHas : Has e.n [] { tmps := (ps.toArray.zip vs.toArray).foldl (fun t (p, v) => t.setIfInBounds p v) a.tmps, defers := [] } (OS ps vs s) := by
        have e1 : (ps.toArray.zip vs.toArray).foldl (fun t (p, v) => t.setIfInBounds p v) a.tmps = (ps.zip vs).foldl (fun t (p, v) => t.setIfInBounds p v) a.tmps := by simp
        rw [e1]
        exact MG rfl ps vs s a.tmps (fun p hp => Nat.le_of_ble_eq_true (List.all_eq_true.1 hpn p hp)) ⟨rfl, ha.size, ha.slots⟩
      refine wpIn_mono (hA w2 k vs k' h2 ms2 hkN hl2 hJ l _ w2 hHas (Ends.refl hSp) LO) ?_
      intro x a1 w3 hx
      cases x with
      | normal =>
        obtain ⟨s3, h3, ms3, hA3, hHas3, hE3⟩ := hx
        have hEf : Ends w2 h2 (ms2 ++ [Hp.one l (.loop (rec .ready)), Mk w.heap.size]) w3 h3 (ms3 ++ [Hp.one l (.loop (rec .ready)), Mk w.heap.size]) := Ends.call (Ends.refl hS2) hE3
        have hEp := hEf.perm (ms' := Hp.one l (.loop (rec .ready)) :: Mk w.heap.size :: ms3) List.perm_append_comm
        have hl3 : w3.heap[l]? = some (.loop (rec .ready)) := hEp.st.own _ (List.mem_cons_self) l _ (Hp.one_self _ _)
        have hE4 := Ends.putL (.loop (rec .busy)) hEp
        refine ⟨_, run_beginRound hl3 (by rw [hrec]), ?_⟩
        have e2 : ({ rec .ready with state := .busy } : Loop) = rec .busy := by rw [hrec]
        rw [e2]
        have hE4' := hE4.perm (ms' := ms3 ++ [Hp.one l (.loop (rec .busy)), Mk w.heap.size]) (List.perm_append_comm (l₁ := [_, _]))
        refine wpIn_mono (hB _ k vs k' s3 h3 ms3 hkN (Hp.le_trans hl2 hE3.le) hA3 l a1 _ hHas3 (Ends.refl hE4'.st.pre) LO) ?_
        intro y a2 w5 hy5
        cases y with
        | normal =>
          obtain ⟨s5, h5, ms5, hJ5, _, hE5⟩ := hy5
          have hE6 := Ends.call hE4' hE5
          have hE6p := hE6.perm (ms' := Hp.one l (.loop (rec .busy)) :: Mk w.heap.size :: ms5) List.perm_append_comm
          have hl6 : w5.heap[l]? = some (.loop (rec .busy)) := hE6p.st.own _ (List.mem_cons_self) l _ (Hp.one_self _ _)
          refine ⟨_, _, run_endRound none hl6, ?_⟩
          have e3 : ({ rec .busy with state := if (none : Option Code).isNone then .ready else .done, pending := none } : Loop) = rec .ready := by rw [hrec]; rfl
          rw [e3]
          exact ⟨_, h5, _, rfl, (Ends.putL (.loop (rec .ready)) hE6p).perm (List.perm_append_comm (l₁ := [_, _])), rfl, Hp.le_trans hl2 (Hp.le_trans hE3.le hE5.le), ms5, rfl, hJ5⟩
        | _ => exact hy5.elim
      | _ => exact hx
    · rintro x w3 ⟨r, h3, ms3, rfl, hE3, kf, hfin, hl3, ms4, rfl, hJ⟩
      have hE4 := Ends.call (fr := []) (by rw [List.append_nil]; exact hE1) hE3
      rw [List.append_nil] at hE4
      have hE5 := hE4.perm (ms' := Hp.one l (.loop (rec .ready)) :: Mk w.heap.size :: ms4) List.perm_append_comm
      have hl5 : w3.heap[l]? = some (.loop (rec .ready)) := hE5.st.own _ (List.mem_cons_self) l _ (Hp.one_self _ _)
      refine ⟨_, _, run_endLoop hl5 (by rw [hrec]; simp), ?_⟩
      have e4 : (rec .ready).pending = none := by rw [hrec]
      rw [e4]
      exact hK w.heap.size kf h3 ms4 hfin hl3 hJ { a with defers := [{ target := .collected w.heap.size, args := #[] }] ++ a.defers } _ ⟨by show [_] ++ a.defers = _; rw [ha.defers]; rfl, ha.size, ha.slots⟩ ((Ends.putL _ hE5).drop.perm (List.perm_append_comm (l₁ := [_])))
section
variable {κ ν : Type} [DecidableEq κ] {K : κ → Value} {V : ν → Value} {Ok : κ → Prop} {P : Program} {t : TypeId} {gi g : Nat} {m mi : Hp} {T : List (κ × ν)} {bs vis : List Nat}
variable {o : Oper} {s : Ar} {h : Hp} {ms : List Hp} {e : Entry} {Q : Exit → Act → World → Prop} {ops : Array Oper} {rest : List Oper}
theorem Ir {x : Operand} {d : Nat} {kt et : TypeId} (O : BK K V g Ok m T bs) (hm : m.le h) (ho : o.op = .range t x) (ht : e.P.underlying t = some (.map kt et)) (hx : ev s x = some (.map (some g))) (hd : o.dst = some d) (hn : Nat.blt d e.n = true) (hg : o.guard = none)
    (k : ∀ gi mi, GQ gi g m mi bs [] → WL e ops Q rest ((d, .pointer (some ⟨gi, 0, none⟩)) :: s) h (mi :: ms)) : WL e ops Q (o :: rest) s h ms :=
  II (post := fun v h' ms' => ∃ gi mi, GQ gi g m mi bs [] ∧ v = .pointer (some ⟨gi, 0, none⟩) ∧ h' = h ∧ ms' = mi :: ms) (fun ρ w hρ hw => by
    obtain ⟨es, clock, rfl, he, hb⟩ := O.ex
    have hgw : w.heap[g]? = some (.map es clock) := hw.st.imm g _ (hm g _ (Hp.one_self _ _))
    have hrun : (execOp ρ o).run e.P w = .ok (.value (.pointer (some ⟨w.heap.size, 0, none⟩))) (w.alloc (.mapIter (some g) clock #[] clock)) := by
      simp only [execOp, ho, hρ _ _ hx, Instr.range, Sem.run_bind, run_underlying ht, Result.andThen_ok, getObj, Sem.run_pure]
      simp [Sem.run, hgw, Result.andThen, newObj]
    unfold OpRes; rw [hrun]
    exact ⟨h, _, Ends.alloc hw _, _, _, ⟨⟨es, clock, clock, #[], clock, rfl, rfl, hb, Nat.le_refl _, Nat.le_refl _, rfl, fun h => absurd rfl h⟩, by simp, List.Pairwise.nil⟩, rfl, rfl, rfl⟩) hd hn hg fun v h' ms' ⟨gi, mi, e1, e2, e3, e4⟩ => by subst e2 e3 e4; exact k gi mi e1
theorem JT {x : Operand} {d : Nat} (i : Nat) (O : BK K V g Ok m T bs) (I : GQ gi g m mi bs vis) (hm : m.le h) (hi : ms[i]? = some mi) (ho : o.op = .next x false) (hx : ev s x = some (.pointer (some ⟨gi, 0, none⟩))) (hd : o.dst = some d) (hn : Nat.blt d e.n = true) (hg : o.guard = none)
    (k0 : (∀ j, j < T.length → j ∈ vis) → WL e ops Q rest ((d, .tuple #[.bool false]) :: s) h ms)
    (k1 : ∀ (j : Nat) (hj : j < T.length) (mi' : Hp), j ∉ vis → GQ gi g m mi' bs (vis ++ [j]) → WL e ops Q rest ((d, .tuple #[.bool true, K T[j].1, V T[j].2]) :: s) h (ms.set i mi')) : WL e ops Q (o :: rest) s h ms :=
  II (post := fun v h' ms' => (v = .tuple #[.bool false] ∧ h' = h ∧ ms' = ms ∧ ∀ j, j < T.length → j ∈ vis) ∨ ∃ (j : Nat) (hj : j < T.length) (mi' : Hp), j ∉ vis ∧ GQ gi g m mi' bs (vis ++ [j]) ∧ v = .tuple #[.bool true, K T[j].1, V T[j].2] ∧ h' = h ∧ ms' = ms.set i mi') (fun ρ w hρ hw => by
    obtain ⟨es, clock, rfl, he, hb⟩ := O.ex
    obtain ⟨es', clock', since, seen, last, e1, rfl, i1, i2, i3, i4, i5⟩ := I.ex
    have e1 := P5 e1
    cases e1
    have hgw : w.heap[g]? = some (.map es clock) := hw.st.imm g _ (hm g _ (Hp.one_self _ _))
    have hiw : w.heap[gi]? = some (.mapIter (some g) since seen last) := hw.st.own _ (List.mem_of_getElem? hi) gi _ (Hp.one_self _ _)
    have hent : ∀ x ∈ es.toList, ∃ (j : Nat) (hj : j < T.length) (hjb : j < bs.length), x = Sk K V (T[j], bs[j]) := fun x hx => by
      rw [he] at hx
      obtain ⟨p, hp, rfl⟩ := List.mem_map.1 hx
      obtain ⟨j, hj⟩ := List.getElem?_of_mem hp
      obtain ⟨z1, z2⟩ := List.getElem?_zip_eq_some.1 hj
      obtain ⟨j1, j2⟩ := List.getElem?_eq_some_iff.1 z1
      obtain ⟨k1, k2⟩ := List.getElem?_eq_some_iff.1 z2
      exact ⟨j, j1, k1, by rw [j2, k2]⟩
    have hin : ∀ (j : Nat) (hj : j < T.length) (hjb : j < bs.length), Sk K V (T[j], bs[j]) ∈ es.toList := fun j hj hjb => by
      rw [he]
      exact List.mem_map.2 ⟨(T[j], bs[j]), List.mem_of_getElem? (i := j) (List.getElem?_zip_eq_some.2 ⟨List.getElem?_eq_getElem hj, List.getElem?_eq_getElem hjb⟩), rfl⟩
    have hseen : ∀ b, seen.contains b = true ↔ ∃ j ∈ vis, bs[j]?.getD 0 = b := fun b => by
      rw [Array.contains_iff_mem, ← Array.mem_toList_iff, i4, List.mem_map]
    rcases run_next_at (P := e.P) w o.type gi g since last seen es clock hiw hgw (fun x hx => by
      obtain ⟨j, hj, hjb, rfl⟩ := hent x hx
      exact i1 _ (List.getElem_mem hjb)) i2 with ⟨h1, h2⟩ | ⟨x, h1, w1, h2, h3⟩
    · have hrun : (execOp ρ o).run e.P w = .ok (.value (.tuple #[.bool false])) w := by
        simp only [execOp, ho, hρ _ _ hx, Sem.run_bind, h2, Result.andThen_ok, Sem.run_pure]
      unfold OpRes; rw [hrun]
      refine ⟨h, ms, hw, .inl ⟨rfl, rfl, rfl, fun j hj => ?_⟩⟩
      have hjb : j < bs.length := by rw [O.len]; exact hj
      have hmem := hin j hj hjb
      have hc : seen.contains bs[j] = true := by
        cases hcc : seen.contains bs[j] with
        | true => rfl
        | false =>
          have : Sk K V (T[j], bs[j]) ∈ leftOf es seen := by
            unfold leftOf
            rw [Array.mem_filter]
            exact ⟨Array.mem_toList_iff.1 hmem, by show (!seen.contains bs[j]) = true; rw [hcc]; rfl⟩
          rw [Array.size_eq_zero_iff.1 h1] at this
          simp at this
      obtain ⟨j', hj', e2⟩ := (hseen _).1 hc
      have hj'b := I.lt j' hj'
      rw [List.getElem?_eq_getElem hj'b] at e2
      have : j' = j := WJ O.up (List.getElem?_eq_getElem hj'b) (by rw [List.getElem?_eq_getElem hjb]; exact congrArg some e2.symm)
      subst this; exact hj'
    · unfold leftOf at h1
      have h1 := Array.mem_filter.1 (Array.mem_toList_iff.1 h1)
      obtain ⟨j, hj, hjb, rfl⟩ := hent x (Array.mem_toList_iff.2 h1.1)
      have hjv : j ∉ vis := fun hv => by
        have : seen.contains bs[j] = true := (hseen _).2 ⟨j, hv, by rw [List.getElem?_eq_getElem hjb]; rfl⟩
        have h4 := h1.2
        simp only [Sk] at h4
        rw [this] at h4; cases h4
      have hrun : (execOp ρ o).run e.P w = .ok (.value (.tuple #[.bool true, K T[j].1, V T[j].2])) (ChangeMaps.setBlock w1 gi (.mapIter (some g) since (seen.push bs[j]) clock)) := by
        simp only [execOp, ho, hρ _ _ hx, Sem.run_bind, h3, Result.andThen_ok, Sem.run_pure, Sk]
      unfold OpRes; rw [hrun]
      have hw1 : e.Ends w1 h ms := by
        rcases h2 with rfl | rfl
        · exact hw
        · exact Ends.drew hw
      refine ⟨h, _, Ends.turn hw1 hi, .inr ⟨j, hj, _, hjv, ⟨⟨es, clock, since, seen.push bs[j], clock, rfl, rfl, i1, i3, i3, ?_, fun _ => rfl⟩, fun i hi => ?_, ?_⟩, rfl, rfl, rfl⟩⟩
      · rw [Array.toList_push, i4, List.map_append]
        simp [List.getElem?_eq_getElem hjb]
      · rcases List.mem_append.1 hi with hi | hi
        · exact I.lt i hi
        · simp at hi; subst hi; exact hjb
      · exact List.nodup_append.2 ⟨I.nodup, by simp, fun a ha b hb e => by simp at hb; subst hb; subst e; exact hjv ha⟩) hd hn hg fun v h' ms' hp => by
    rcases hp with ⟨e1, e2, e3, e4⟩ | ⟨j, hj, mi', e1, e2, e3, e4, e5⟩
    · subst e1 e2 e3; exact k0 e4
    · subst e3 e4 e5; exact k1 j hj mi' e1 e2
theorem Ix {x : Operand} {j : Nat} (O : BK K V g Ok m T bs) (I : GQ gi g m mi bs (vis ++ [j])) (hm : m.le h) (hi : mi ∈ ms) (hj : j < T.length) (ho : o.op = .entry x) (hx : ev s x = some (.pointer (some ⟨gi, 0, none⟩))) : OX P o s h ms (.tuple #[K T[j].1, V T[j].2]) :=
  By fun ρ w hρ hw => by
    obtain ⟨es, clock, rfl, he, hb⟩ := O.ex
    obtain ⟨es', clock', since, seen, last, e1, rfl, i1, i2, i3, i4, i5⟩ := I.ex
    have e1 := P5 e1
    cases e1
    have hl : last = clock := i5 (by simp)
    subst hl
    have hgw : w.heap[g]? = some (.map es last) := hw.imm g _ (hm g _ (Hp.one_self _ _))
    have hjb : j < bs.length := by rw [O.len]; exact hj
    have hs : seen = (vis.map fun j => bs[j]?.getD 0).toArray.push bs[j] := by
      apply Array.toList_inj.1
      rw [i4, Array.toList_push, List.map_append]
      simp [List.getElem?_eq_getElem hjb]
    have hiw : w.heap[gi]? = some (.mapIter (some g) since ((vis.map fun j => bs[j]?.getD 0).toArray.push (Sk K V (T[j], bs[j])).born) last) := by
      have := hw.own _ hi gi _ (Hp.one_self _ _)
      rw [hs] at this; exact this
    have hmem : Sk K V (T[j], bs[j]) ∈ es.toList := by
      rw [he]
      exact List.mem_map.2 ⟨(T[j], bs[j]), List.mem_of_getElem? (i := j) (List.getElem?_zip_eq_some.2 ⟨List.getElem?_eq_getElem hj, List.getElem?_eq_getElem hjb⟩), rfl⟩
    have hn : (es.toList.map (·.born)).Nodup := by
      rw [he, List.map_map]
      have : (MapEntry.born ∘ Sk K V) = (Prod.snd : (κ × ν) × Nat → Nat) := rfl
      rw [this, List.map_snd_zip (by rw [O.len]; exact Nat.le_refl _)]
      exact O.up.imp fun h => Nat.ne_of_lt h
    have := run_entry_at (P := P) w gi g since _ es last _ hiw hgw hmem hn
    simp only [execOp, ho, hρ _ _ hx, Sem.run_bind, this, Result.andThen_ok, Sem.run_pure, Sk]
theorem JV {kt et : TypeId} {x y : Operand} {z : ν} (a : κ) (L : JS P kt K Ok) (O : BK K V g Ok m T bs) (hm : m.le h) (ho : o.op = .lookup t x y false) (ht : P.underlying t = some (.map kt et)) (hz : ∀ w, (zeroValue et).run P w = .ok (V z) w) (hx : ev s x = some (.map (some g))) (hy : ev s y = some (K a)) (ha : Ok a) :
    OX P o s h ms (V ((AZ T a).getD z)) :=
  By fun ρ w hρ hw => by
    obtain ⟨es, clock, rfl, he, hb⟩ := O.ex
    have hgw : w.heap[g]? = some (.map es clock) := hw.imm g _ (hm g _ (Hp.one_self _ _))
    obtain ⟨l, hk⟩ := L.key a ha
    have hc := L.law.check w es.isEmpty hk
    rcases Fm L O.keys O.ok O.len he w a ha with ⟨h1, h2⟩ | ⟨j, u, b, h1, h2, _, _⟩
    · rw [Ck h2]
      simp only [execOp, ho, hρ _ _ hx, hρ _ _ hy, Instr.lookup, Sem.run_bind, run_underlying ht, Result.andThen_ok, getObj, Sem.run_pure, h1, hz]
      simp [Sem.run, hgw, hc, h1, hz, Result.andThen]
    · rw [Di O.keys h2]
      simp only [execOp, ho, hρ _ _ hx, hρ _ _ hy, Instr.lookup, Sem.run_bind, run_underlying ht, Result.andThen_ok, getObj, Sem.run_pure, h1, hz]
      simp [Sem.run, hgw, hc, h1, hz, Result.andThen]
end
end Go.Eng
namespace Go.Eng
open Go.RowKit Go.Sort
variable {w : World}
theorem Ext.grown {w' : World} (e : Ext w w') : ∃ q os', w' = grow (w.drewN q) os' := by
  refine ⟨w'.drawn - w.drawn, w'.heap.extract w.heap.size w'.heap.size, ?_⟩
  have hh : w'.heap = w.heap ++ w'.heap.extract w.heap.size w'.heap.size := by
    apply Array.ext_getElem?
    intro i
    rcases Nat.lt_or_ge i w.heap.size with h | h
    · rw [Array.getElem?_append_left h, e.block i h]
    · rw [Array.getElem?_append_right h]
      rcases Nat.lt_or_ge i w'.heap.size with h2 | h2
      · simp [Array.getElem?_extract]
        rw [if_pos (by omega)]
        congr 1; omega
      · rw [Array.getElem?_eq_none h2]
        symm
        apply Array.getElem?_eq_none
        simp; omega
  have hd : w'.drawn = w.drawn + (w'.drawn - w.drawn) := by have := e.tape.drawn; omega
  have h1 := e.os
  have h2 := e.tape.tape
  have h3 := e.output
  obtain ⟨heap, tape, drawn, os, output⟩ := w'
  obtain ⟨heap', tape', drawn', os', output'⟩ := w
  simp only at *
  subst h1 h2 h3
  simp only [grow, World.drewN, World.mk.injEq, true_and, and_true]
  exact ⟨hh, hd⟩
section
variable {α : Type} [Inhabited α] {enc : α → List Value} {k : Nat}
theorem IG (hk : ∀ x, (enc x).length = k) (hk0 : 0 < k) (d : Array α) {t : Nat} (ht : t < d.size * k) : (d.toList.flatMap enc)[t]? = some (flatK enc k d)[t]! := by
  have hj : t / k < d.size := Nat.div_lt_of_lt_mul (by rw [Nat.mul_comm]; exact ht)
  have hm := Nat.mod_lt t hk0
  rw [get_flatK enc k d t ht]
  have h1 := F9 hk d.toList (t / k) (by simpa using hj) (t % k) ((enc d[t / k]!)[t % k]!) (by
    have e : d.toList[t / k]'(by simpa using hj) = d[t / k]! := by simp [hj]
    rw [e]
    have : t % k < (enc d[t / k]!).length := by rw [hk]; exact hm
    simp [this])
  rwa [Nat.mul_comm, Nat.div_add_mod] at h1
theorem SI (hk : ∀ x, (enc x).length = k) (hk0 : 0 < k) (d d' : Array α) (hs : d'.size = d.size) (spare : List Value) : putCells id 0 (flatK enc k d') (d.toList.flatMap enc ++ spare).toArray = (d'.toList.flatMap enc ++ spare).toArray := by
  have l1 : (d.toList.flatMap enc).length = d.size * k := by rw [Be hk]; simp
  have l2 : (d'.toList.flatMap enc).length = d.size * k := by rw [Be hk]; simp [hs]
  apply Array.ext_getElem?
  intro t
  unfold putCells
  rw [Array.getElem?_mapIdx, List.getElem?_toArray, List.getElem?_toArray]
  rcases Nat.lt_or_ge t (d.size * k) with h | h
  · rw [List.getElem?_append_left (by omega), List.getElem?_append_left (by omega), IG hk hk0 d h, IG hk hk0 d' (by rw [hs]; exact h)]
    simp only [Option.map_some]
    rw [if_pos ⟨Nat.zero_le _, by rw [size_flatK, hs]; omega⟩]
    rfl
  · rw [List.getElem?_append_right (by omega), List.getElem?_append_right (by omega), l1, l2]
    cases spare[t - d.size * k]? with
    | none => rfl
    | some u =>
      simp only [Option.map_some]
      rw [if_neg]
      rw [size_flatK, hs]; omega
theorem RL {g : Nat} {el : TypeId} (hk : ∀ x, (enc x).length = k) (hk0 : 0 < k) (d : Array α) (spare : List Value) (hg : w.heap[g]? = some (.cells (d.toList.flatMap enc ++ spare).toArray el (0, 0))) : HoldsK enc k w g 0 d := by
  intro j hj
  rw [size_flatK] at hj
  have l1 : (d.toList.flatMap enc).length = d.size * k := by rw [Be hk]; simp
  have h1 := IG hk hk0 d hj
  constructor
  · have : (d.toList.flatMap enc ++ spare)[j]? = some (flatK enc k d)[j]! := by rw [List.getElem?_append_left (by omega)]; exact h1
    simp [World.cell?, hg, this]
  · simp [World.frozen?, hg]
end
theorem K4 {α : Type} [Inhabited α] {enc : α → List Value} {k : Nat} {h : Hp} {g n : Nat} {el : TypeId} (hk : ∀ x, (enc x).length = k) (hk0 : 0 < k) (d d' : Array α) (hs : d'.size = d.size) (spare : List Value) (os : Array Obj) (hS : St w h [Bf g el (d.toList.flatMap enc ++ spare)]) :
    Ends w h [Bf g el (d.toList.flatMap enc ++ spare)] (Go.Proofs.sortWorldK enc k w g 0 n d' os) h [Bf g el (d'.toList.flatMap enc ++ spare)] := by
  have hg : w.heap[g]? = some (.cells (d.toList.flatMap enc ++ spare).toArray el (0, 0)) := hS.own _ (List.mem_singleton.2 rfl) g _ (Hp.one_self _ _)
  have hlt := (Array.getElem?_eq_some_iff.1 hg).1
  have hv := (Array.getElem?_eq_some_iff.1 hg).2
  have hsz : (putRowK enc k (Go.Sort.ahead w n) g 0 d').heap.size = w.heap.size := by simp [putRowK, putRow, mapBlock, ahead]
  have hg' : (putRowK enc k (Go.Sort.ahead w n) g 0 d').heap[g]? = some (.cells (d'.toList.flatMap enc ++ spare).toArray el (0, 0)) := by
    show (w.heap.modify g (onCells (putCells id 0 (flatK enc k d'))))[g]? = _
    rw [Array.getElem?_eq_getElem (by simpa using hlt), Array.getElem_modify]
    simp [hv, onCells, SI hk hk0 d d' hs spare]
  have ho' : ∀ j, j < w.heap.size → j ≠ g → (putRowK enc k (Go.Sort.ahead w n) g 0 d').heap[j]? = w.heap[j]? := fun j _ hne => by
    show (w.heap.modify g (onCells (putCells id 0 (flatK enc k d'))))[j]? = _
    simp [Array.getElem?_modify, Ne.symm hne]
  refine Ends.change (Ends.refl hS) rfl ⟨rfl, ?_⟩ rfl ?_ ?_ ?_
  · show w.drawn ≤ w.drawn + n
    omega
  · show w.heap.size ≤ ((putRowK enc k (Go.Sort.ahead w n) g 0 d').heap ++ os).size
    rw [Array.size_append, hsz]; omega
  · show ((putRowK enc k (Go.Sort.ahead w n) g 0 d').heap ++ os)[g]? = _
    rw [Array.getElem?_append_left (by rw [hsz]; exact hlt), hg']
  · intro j hj hne
    show ((putRowK enc k (Go.Sort.ahead w n) g 0 d').heap ++ os)[j]? = _
    rw [Array.getElem?_append_left (by rw [hsz]; exact hj), ho' j hj hne]
end Go.Eng
namespace Go.Eng
open Go.RowKit
variable {m : Hp}
section
variable {e : Entry} {Q : Exit → Act → World → Prop} {ops : Array Oper} {rest : List Oper} {o : Oper} {s : Ar} {h : Hp} {ms : List Hp}
theorem NQ {t el : TypeId} {x y : Operand} {v z : Value} {sz bytes g : Nat} {l : List Value} (i k : Nat) (vl : List Value) (ho : o.op = .store t x y) (hs : Elem e.P t sz z bytes) (hx : ev s x = some (.pointer (some ((⟨g, 0, none⟩ : Addr).add k)))) (hy : ev s y = some v) (hv : v.cells = vl.toArray) (hl : vl.length = sz) (h1 : ∀ u ∈ vl, u.oneCell' = true)
    (hm : ms[i]? = some (Bf g el l)) (hk : k + sz ≤ l.length) (hd : o.dst = none) (hg : o.guard = none)
    (K : WL e ops Q rest s h (ms.set i (Bf g el (l.take k ++ vl ++ l.drop (k + sz))))) : WL e ops Q (o :: rest) s h ms := by
  refine KY (post := fun _ h' ms' => h' = h ∧ ms' = ms.set i (Bf g el (l.take k ++ vl ++ l.drop (k + sz)))) (fun ρ w hρ hw => ?_) hd hg fun _ _ _ ⟨e4, e5⟩ => by subst e4 e5; exact K
  subst hl
  have hgw : w.heap[g]? = some (.cells l.toArray el (0, 0)) := hw.st.own _ (List.mem_of_getElem? hm) g _ (Hp.one_self _ _)
  have hst := run_storeCells_at (P := e.P) g k el vl 0 _ w hgw (by simp only [List.size_toArray]; omega) h1
  have : (execOp ρ o).run e.P w = .ok .skip (w.setRow g (l.take k ++ vl ++ l.drop (k + vl.length)).toArray) := by
    simp [execOp, ho, hρ _ _ hx, hρ _ _ hy, Instr.storeAt, Instr.sureAddr, storeVar, hs.sizeOf, hv, Ua]
    simp at hst
    rw [hst]; rfl
  unfold OpRes; rw [this]
  exact ⟨h, _, Ends.put hw hm rfl ⟨rfl, Nat.le_refl _⟩ rfl (by simp) (setRow_heap w g _ _ _ _ hgw) (fun k hk hne => setRow_other w g k _ hne), rfl, rfl⟩
theorem BA {c : Code} (k : ∀ h', h.le h' → m.le h' → WS e c Q s h' ms) : WS e c Q s h (m :: ms) :=
  fun a w ha hw => k _ (Hp.le_join _ _) (Hp.join_le_right (hw.st.off m List.mem_cons_self)) a w ha (Ends.freeze hw)
theorem AN {r : List Oper} (k : ∀ h', h.le h' → m.le h' → WL e ops Q r s h' ms) : WL e ops Q r s h (m :: ms) :=
  fun a w ha hw => k _ (Hp.le_join _ _) (Hp.join_le_right (hw.st.off m List.mem_cons_self)) a w ha (Ends.freeze hw)
theorem G6 {x : Exit} (k : ∀ h', h.le h' → m.le h' → NX e Q x s h' ms) : NX e Q x s h (m :: ms) :=
  fun a w ha hw => k _ (Hp.le_join _ _) (Hp.join_le_right (hw.st.off m List.mem_cons_self)) a w ha (Ends.freeze hw)
end
end Go.Eng
namespace Go.Eng
open Go.RowKit
section
variable {P : Program} {o : Oper} {s : Ar} {h : Hp} {ms : List Hp} {t u : TypeId} {x y : Operand} {a n : Nat}
end
end Go.Eng

namespace Go.Eng
open Go.RowKit
theorem Pw {κ ν : Type} [BEq κ] [LawfulBEq κ] {K : κ → Value} {V : ν → Value} {P : Program} {o : Oper} {s : Ar} {h : Hp} {ms : List Hp} {t kt et : TypeId} {x : Operand} {g : Nat} {Ok : κ → Prop} {m : Hp} {T : List (κ × ν)} {bs : List Nat} (O : BK K V g Ok m T bs) (hm : m ∈ ms) (ho : o.op = .call { callee := .builtin .len, args := #[x], argTypes := #[t] }) (ht : P.underlying t = some (.map kt et)) (hx : ev s x = some (.map (some g))) : OX P o s h ms (.int .i64 T.length) :=
  By fun ρ w hρ hw => by
    obtain ⟨es, clock, rfl, he, hb⟩ := O.ex
    have hgw : w.heap[g]? = some (.map es clock) := hw.own _ hm g _ (Hp.one_self _ _)
    have hs : es.size = T.length := by
      have := congrArg List.length he
      rw [List.length_map, List.length_zip, O.len, Nat.min_self, Array.length_toList] at this
      exact this
    simp [execOp, ho, hρ _ _ hx, resolve, invoke, builtin, Builtin.len_, run_underlying ht, goInt, getObj, Sem.run, hgw, Result.andThen, hs]
section
variable {P : Program} {o : Oper} {s : Ar} {h : Hp} {ms : List Hp} {e : Entry} {Q : Exit → Act → World → Prop} {ops : Array Oper} {rest : List Oper}
end
end Go.Eng
namespace Go.Eng
open Go.RowKit Go.Lin
section
variable {e : Entry} {Q : Exit → Act → World → Prop} {ops : Array Oper} {rest : List Oper} {o : Oper} {s : Ar} {h : Hp} {ms : List Hp}
end
end Go.Eng
namespace Go.Eng
open Go.RowKit
theorem SF {α : Type} {P E S vl : List α} {p off n : Nat} (hP : P.length = p) (hn : vl.length = n) (hE : off + n ≤ E.length) : (P ++ (E ++ S)).take (p + off) ++ vl ++ (P ++ (E ++ S)).drop (p + off + n) = P ++ ((E.take off ++ vl ++ E.drop (off + n)) ++ S) := by
  subst hP
  rw [Nat.add_assoc, List.take_length_add_append, List.drop_length_add_append, List.take_append_of_le_length (by omega), List.drop_append_of_le_length (by omega)]
  simp only [List.append_assoc]
section
variable {e : Entry} {Q : Exit → Act → World → Prop} {ops : Array Oper} {rest : List Oper} {o : Oper} {s : Ar} {h : Hp} {ms : List Hp} {α : Type} {F : α → List Value} {l : List α} {v : Value} {m : Hp} {el : TypeId} {sz : Nat}
theorem L4 {t : TypeId} {x y : Operand} {u z : Value} {bytes n : Nat} (i j off : Nat) (a : α) (vl : List Value) (O : OwnL F sz el m v l) (ho : o.op = .store t x y) (hs : Elem e.P t n z bytes) (hx : ev s x = some (.pointer (some (((AI v).add (j * sz)).add off)))) (hy : ev s y = some u) (hv : u.cells = vl.toArray) (hl : vl.length = n) (h1 : ∀ c ∈ vl, c.oneCell' = true)
    (hm : ms[i]? = some m) (hj : j < l.length) (hoff : off + n ≤ sz) (hFa : F a = (F l[j]).take off ++ vl ++ (F l[j]).drop (off + n)) (hd : o.dst = none) (hg : o.guard = none)
    (K : ∀ m', OwnL F sz el m' v (l.set j a) → WL e ops Q rest s h (ms.set i m')) : WL e ops Q (o :: rest) s h ms := by
  obtain ⟨⟨h2, h3⟩, hF⟩ := O
  rcases h3 with ⟨rfl, h4, rfl⟩ | ⟨g, cap, spare, rfl, rfl, e1, e2, e3⟩
  · rw [h4] at hj; simp at hj
  · have hle : (j + 1) * sz ≤ l.length * sz := Nat.mul_le_mul_right sz hj
    have hjs : (j + 1) * sz = j * sz + sz := by rw [Nat.add_mul, Nat.one_mul]
    have hx' : ev s x = some (.pointer (some ((⟨g, 0, none⟩ : Addr).add (j * sz + off)))) := by
      rw [hx]
      show some (Value.pointer (some (((⟨g, 0, none⟩ : Addr).add (j * sz)).add off))) = _
      rw [C5]
    have hP : ((l.take j).flatMap F).length = j * sz := by rw [Be hF, List.length_take, Nat.min_eq_left (Nat.le_of_lt hj)]
    have hsp : l.flatMap F ++ spare = (l.take j).flatMap F ++ (F l[j] ++ ((l.drop (j + 1)).flatMap F ++ spare)) := by
      have e0 : l.flatMap F = (l.take j).flatMap F ++ (F l[j] ++ (l.drop (j + 1)).flatMap F) := by
        have e1 : l = l.take j ++ l[j] :: l.drop (j + 1) := by rw [← List.drop_eq_getElem_cons hj, List.take_append_drop]
        have e2 := congrArg (fun q => q.flatMap F) e1
        simp only [List.flatMap_append, List.flatMap_cons] at e2
        exact e2
      rw [e0]; simp only [List.append_assoc]
    have hst : (l.set j a).flatMap F ++ spare = (l.take j).flatMap F ++ (F a ++ ((l.drop (j + 1)).flatMap F ++ spare)) := by
      rw [List.set_eq_take_append_cons_drop, if_pos hj, List.flatMap_append, List.flatMap_cons]; simp only [List.append_assoc]
    have hlen : (l.flatMap F ++ spare).length = l.length * sz + spare.length := by rw [List.length_append, Be hF]
    refine NQ i (j * sz + off) vl ho hs hx' hy hv hl h1 hm (by omega) hd hg ?_
    have key : (l.flatMap F ++ spare).take (j * sz + off) ++ vl ++ (l.flatMap F ++ spare).drop (j * sz + off + n) = (l.set j a).flatMap F ++ spare := by
      rw [hsp, hst, hFa]
      exact SF hP hl (by rw [hF]; exact hoff)
    rw [key]
    refine K _ ⟨⟨?_, .inr ⟨g, cap, spare, by rw [List.length_set], rfl, ?_, by rw [List.length_set]; omega, e3⟩⟩, hF⟩
    · rw [Be hF, List.length_set]
    · rw [List.length_append, Be hF, List.length_set, ← Be hF l, ← List.length_append]; exact e1
end
end Go.Eng
namespace Go.Eng
open Go.RowKit
theorem V8 {e : Entry} {Q : Exit → Act → World → Prop} {s : Ar} {h : Hp} {ms ms' : List Hp} {c : Code} (g : Goes ms ms') (k : WS e c Q s h ms') : WS e c Q s h ms := fun a w ha hw => k a w ha (g _ _ _ _ _ hw)
section
variable {e : Entry} {Q : Exit → Act → World → Prop} {ops : Array Oper} {rest : List Oper} {o : Oper} {s : Ar} {h : Hp} {ms : List Hp}
end
theorem Goes.drp (a : Hp) (ms : List Hp) : Goes (a :: ms) ms := fun _ _ _ _ _ x => x.drop
theorem Uc {e : Entry} {Q : Exit → Act → World → Prop} {s : Ar} {h : Hp} {ms : List Hp} {c : Code} {m : Hp} (k : WS e c Q s h ms) : WS e c Q s h (m :: ms) := V8 (Goes.drp m ms) k
end Go.Eng
namespace Go.Eng
open Go.RowKit
section
variable {e : Entry} {Q : Exit → Act → World → Prop} {ops : Array Oper} {rest : List Oper} {o : Oper} {s : Ar} {h : Hp} {ms : List Hp}
end
end Go.Eng
namespace Go.Eng
open Go.RowKit
section
variable {P : Program} {o : Oper} {s : Ar} {h : Hp} {ms : List Hp} {t u : TypeId} {x y : Operand} {n : Nat} {k : IntKind}
theorem Vj (ho : o.op = .binOp .shl t x y u) (hx : ev s x = some (.int .i64 1)) (hy : ev s y = some (.int k n)) (hn : n ≤ 60) : OX P o s h ms (.int .i64 ((2 ^ n : Nat) : Int)) :=
  By fun ρ w hρ _ => by
    have h1 : ¬ ((n : Int) < 0) := by omega
    have h2 : min n 64 = n := Nat.min_eq_left (by omega)
    have h4 : 2 ^ n ≤ 2 ^ 60 := Nat.pow_le_pow_right (by decide) hn
    have h3 : IntKind.i64.wrap ((1 : Int) * 2 ^ n) = ((2 ^ n : Nat) : Int) := by
      rw [Int.one_mul, show (2 : Int) ^ n = ((2 ^ n : Nat) : Int) by simp]
      generalize 2 ^ n = N at h4
      exact Dd (by omega)
    simp only [Int.one_mul] at h3
    simp [execOp, ho, hρ _ _ hx, hρ _ _ hy, Op.shift, h1, IntKind.bits, h2, h3, go_sem]
end
end Go.Eng
namespace Go.Eng
open Go.RowKit
variable {kt et : TypeId} {x y : Operand}
section
variable {κ ν : Type} [DecidableEq κ] {K : κ → Value} {V : ν → Value} {Ok : κ → Prop} {t : TypeId} {g : Nat} {m : Hp} {T : List (κ × ν)} {bs : List Nat} {P : Program}
variable {o : Oper} {s : Ar} {h : Hp} {ms : List Hp}
theorem Lz {z : ν} (a : κ) (L : JS P kt K Ok) (O : BK K V g Ok m T bs) (hm : m.le h) (ho : o.op = .lookup t x y true) (ht : P.underlying t = some (.map kt et)) (hz : ∀ w, (zeroValue et).run P w = .ok (V z) w) (hx : ev s x = some (.map (some g))) (hy : ev s y = some (K a)) (ha : Ok a) :
    OX P o s h ms (.tuple #[V ((AZ T a).getD z), .bool (AZ T a).isSome]) :=
  By fun ρ w hρ hw => by
    obtain ⟨es, clock, rfl, he, hb⟩ := O.ex
    have hgw : w.heap[g]? = some (.map es clock) := hw.imm g _ (hm g _ (Hp.one_self _ _))
    obtain ⟨l, hk⟩ := L.key a ha
    have hc := L.law.check w es.isEmpty hk
    rcases Fm L O.keys O.ok O.len he w a ha with ⟨h1, h2⟩ | ⟨j, u, b, h1, h2, _, _⟩
    · rw [Ck h2]
      simp only [execOp, ho, hρ _ _ hx, hρ _ _ hy, Instr.lookup, Sem.run_bind, run_underlying ht, Result.andThen_ok, getObj, Sem.run_pure, h1, hz]
      simp [Sem.run, hgw, hc, h1, hz, Result.andThen]
    · rw [Di O.keys h2]
      simp only [execOp, ho, hρ _ _ hx, hρ _ _ hy, Instr.lookup, Sem.run_bind, run_underlying ht, Result.andThen_ok, getObj, Sem.run_pure, h1, hz]
      simp [Sem.run, hgw, hc, h1, hz, Result.andThen]
theorem DG {z u : ν} {b : Bool} (a : κ) (hu : (AZ T a).getD z = u) (hb : (AZ T a).isSome = b) (L : JS P kt K Ok) (O : BK K V g Ok m T bs) (hm : m.le h) (ho : o.op = .lookup t x y true) (ht : P.underlying t = some (.map kt et)) (hz : ∀ w, (zeroValue et).run P w = .ok (V z) w) (hx : ev s x = some (.map (some g))) (hy : ev s y = some (K a)) (ha : Ok a) :
    OX P o s h ms (.tuple #[V u, .bool b]) := by rw [← hu, ← hb]; exact Lz a L O hm ho ht hz hx hy ha
theorem CA {z u : ν} (a : κ) (hu : (AZ T a).getD z = u) (L : JS P kt K Ok) (O : BK K V g Ok m T bs) (hm : m.le h) (ho : o.op = .lookup t x y false) (ht : P.underlying t = some (.map kt et)) (hz : ∀ w, (zeroValue et).run P w = .ok (V z) w) (hx : ev s x = some (.map (some g))) (hy : ev s y = some (K a)) (ha : Ok a) :
    OX P o s h ms (V u) := by rw [← hu]; exact JV a L O hm ho ht hz hx hy ha
theorem Dp {z u : ν} (a : κ) (hu : (AZ T a).getD z = u) (L : JS P kt K Ok) (O : BK K V g Ok m T bs) (hm : m ∈ ms) (ho : o.op = .lookup t x y false) (ht : P.underlying t = some (.map kt et)) (hz : ∀ w, (zeroValue et).run P w = .ok (V z) w) (hx : ev s x = some (.map (some g))) (hy : ev s y = some (K a)) (ha : Ok a) :
    OX P o s h ms (V u) := by rw [← hu]; exact Fp a L O hm ho ht hz hx hy ha
end
end Go.Eng
namespace Go.Eng
open Go.RowKit
variable {s : Ar} {h : Hp} {ms : List Hp} {e : Entry} {t : Nat}
def X1 (P : Program) (gf : FuncId) (lb : List Value) (h : Hp) (N : Nat) (enc : Nat → List Value) : Prop :=
  ∀ (lp : Nat) (X Y : Nat → Hp → List Hp → Prop) (h1 : Hp) (ms : List Hp), h.le h1 → (∀ k h2 ms2, k < N → h1.le h2 → X k h2 ms2 → Yd P lp (enc k).toArray h2 ms2 (fun r h' ms' => (r = .bool true ∧ X (k + 1) h' ms') ∨ (r = .bool false ∧ Y k h' ms'))) → X 0 h1 ms →
    FnT P gf ([Value.func (.yield lp) #[] #[]] ++ lb).toArray h1 ms (fun _ h' ms' => X N h' ms' ∨ ∃ k, k < N ∧ Y k h' ms')
abbrev Wn (e : Entry) (I I2 : Ar → Hp → List Hp → Prop) : Exit → Act → World → Prop := Exit.then (Inv e I) (fun x a w => x = .ret ∧ Inv e I2 a w)
theorem UV {I I2 : Ar → Hp → List Hp → Prop} : ¬ LetsOut (Wn e I I2) := fun ⟨_, _, h, _⟩ => by cases h
theorem Vw {I I2 : Ar → Hp → List Hp → Prop} (s' : Ar) (hI : I2 s' h ms) (hs : Sub s' s) : NX e (Wn e I I2) .ret s h ms :=
  fun a w ha hw => ⟨rfl, s', h, ms, hI, ha.sub hs, hw⟩
theorem KK {Q : Exit → Act → World → Prop} {gf : Nat} {lb : List Value} {ps : List Nat} {assign body : Code} (J Jr : Nat → Hp → List Hp → Prop) (A : Nat → Ar → Hp → List Hp → Prop) {N : Nat} {enc : Nat → List Value}
    (hg : lk s t = some (.func (.func gf) #[] lb.toArray)) (hc : ∀ az w, (callFunc gf az).run e.P w = .ok (.enter gf az) w) (hit : X1 e.P gf lb h N enc) (hps : ∀ k, (enc k).length = ps.length) (hpn : ps.all (fun p => Nat.blt p e.n) = true)
    (h0 : J 0 h ms)
    (hA : ∀ w0 k h1 ms1, k < N → h.le h1 → J k h1 ms1 → RS ⟨e.P, w0, h1, ms1, e.n, []⟩ assign (UN ⟨e.P, w0, h1, ms1, e.n, []⟩ (A k)) (OS ps (enc k) s) h1 ms1)
    (hB : ∀ w0 k s1 h1 ms1, k < N → h.le h1 → A k s1 h1 ms1 → RS ⟨e.P, w0, h1, ms1, e.n, []⟩ body (Wn ⟨e.P, w0, h1, ms1, e.n, []⟩ (fun _ => J (k + 1)) (fun _ => Jr k)) s1 h1 ms1)
    (hK : ∀ D h1 ms1, h.le h1 → J N h1 ms1 → NX ⟨e.P, e.w0, e.h0, e.ms0, e.n, D :: e.ds⟩ Q .normal s h1 (ms1 ++ [Mk D]))
    (hR : ∀ D k h1 ms1, k < N → h.le h1 → Jr k h1 ms1 → NX ⟨e.P, e.w0, e.h0, e.ms0, e.n, D :: e.ds⟩ Q .ret s h1 (ms1 ++ [Mk D])) :
    WS e (.rangeFunc (.tmp t) ps.toArray assign body) Q s h ms := by
  intro a w ha hw
  refine (wpIn_wide (n := 0)).1 (wpIn_rangeFunc fun fn _ => ?_)
  have hge : a.eval (.tmp t) = .func (.func gf) #[] lb.toArray := ha.eval (.tmp t) _ hg
  obtain ⟨rec, hrec⟩ : ∃ rec : LoopState → Loop, rec = fun st => { state := st, pending := none, fn, tmps := a.tmps, params := ps.toArray, assign, body, defers := w.heap.size } := ⟨_, rfl⟩
  obtain ⟨recD, hrecD⟩ : ∃ recD : Loop, recD = { state := .done, pending := some .ret, fn, tmps := a.tmps, params := ps.toArray, assign, body, defers := w.heap.size } := ⟨_, rfl⟩
  obtain ⟨l, hl⟩ : ∃ l, l = w.heap.size + 1 := ⟨_, rfl⟩
  obtain ⟨W1, hW1⟩ : ∃ W1, (w.alloc (.deferred (some []))).alloc (.loop (rec .ready)) = W1 := ⟨_, rfl⟩
  have hE1 : e.Ends W1 h (ms ++ [Hp.one l (.loop (rec .ready)), Mk w.heap.size]) := by
    have h2 := (hw.alloc (.deferred (some []))).alloc (.loop (rec .ready))
    rw [World.size_alloc, ← hl, hW1] at h2
    exact h2.perm (by
      refine List.Perm.trans ?_ List.perm_append_comm
      exact List.Perm.refl _)
  refine ⟨l, [{ target := .collected w.heap.size, args := #[] }], W1, { target := .fn (.func gf) lb.toArray, args := #[.func (.yield l) #[] #[]] }, W1, gf, ([Value.func (.yield l) #[] #[]] ++ lb).toArray, W1, ?_, ?_, fun _ _ => trivial, ?_, (fun h => by cases h), ?_⟩
  · rw [← hW1, hrec, hl]; exact run_enterLoop_outer _ _ _ _ _
  · simp only [resolve, hge]
    simp [go_sem]
  · simp [invoke, go_sem, hc]
  · refine (callsIn_wide (n := 0)).2 ((hit l (fun k h1 ms1 => h.le h1 ∧ ∃ ms2, ms1 = ms2 ++ [Hp.one l (.loop (rec .ready)), Mk w.heap.size] ∧ J k h1 ms2) (fun k h1 ms1 => h.le h1 ∧ ∃ ms2, ms1 = ms2 ++ [Hp.one l (.loop recD), Mk w.heap.size] ∧ Jr k h1 ms2) h _ (Hp.le_refl _) ?_ ⟨Hp.le_refl _, ms, rfl, h0⟩ W1 hE1.st).mono ?_)
    · -- a round
      rintro k h2 ms2 hkN hl2 ⟨_, ms2, rfl, hJ⟩ w2 hS2
      have hlo : w2.heap[l]? = some (.loop (rec .ready)) := hS2.own _ (by simp) l _ (Hp.one_self _ _)
      have hy := run_yield (P := e.P) (args := (enc k).toArray) hlo (by rw [hrec]; simpa using hps k)
      refine ⟨_, _, _, _, hy, ?_⟩
      have r1 : (rec .ready).params = ps.toArray := by rw [hrec]
      have r2 : (rec .ready).tmps = a.tmps := by rw [hrec]
      have r3 : (rec .ready).assign = assign := by rw [hrec]
      have r4 : (rec .ready).body = body := by rw [hrec]
      rw [r1, r2, r3, r4]
      refine roundIn_of_wpIn trivial ?_
      have hSp : St w2 h2 ms2 := hS2.pre
      have hHas : Has e.n [] { tmps := (ps.toArray.zip (enc k).toArray).foldl (fun t (p, v) => t.setIfInBounds p v) a.tmps, defers := [] } (OS ps (enc k) s) := by
        have e1 : (ps.toArray.zip (enc k).toArray).foldl (fun t (p, v) => t.setIfInBounds p v) a.tmps = (ps.zip (enc k)).foldl (fun t (p, v) => t.setIfInBounds p v) a.tmps := by simp
        rw [e1]
        exact MG rfl ps (enc k) s a.tmps (fun p hp => Nat.le_of_ble_eq_true (List.all_eq_true.1 hpn p hp)) ⟨rfl, ha.size, ha.slots⟩
      refine wpIn_mono (hA w2 k h2 ms2 hkN hl2 hJ l _ w2 hHas (Ends.refl hSp) LO) ?_
      intro x a1 w3 hx
      cases x with
      | normal =>
        obtain ⟨s3, h3, ms3, hA3, hHas3, hE3⟩ := hx
        have hEf : Ends w2 h2 (ms2 ++ [Hp.one l (.loop (rec .ready)), Mk w.heap.size]) w3 h3 (ms3 ++ [Hp.one l (.loop (rec .ready)), Mk w.heap.size]) := Ends.call (Ends.refl hS2) hE3
        have hEp := hEf.perm (ms' := Hp.one l (.loop (rec .ready)) :: Mk w.heap.size :: ms3) List.perm_append_comm
        have hl3 : w3.heap[l]? = some (.loop (rec .ready)) := hEp.st.own _ (List.mem_cons_self) l _ (Hp.one_self _ _)
        have hE4 := Ends.putL (.loop (rec .busy)) hEp
        refine ⟨_, run_beginRound hl3 (by rw [hrec]), ?_⟩
        have e2 : ({ rec .ready with state := .busy } : Loop) = rec .busy := by rw [hrec]
        rw [e2]
        have hE4' := hE4.perm (ms' := ms3 ++ [Hp.one l (.loop (rec .busy)), Mk w.heap.size]) (List.perm_append_comm (l₁ := [_, _]))
        refine wpIn_mono (hB _ k s3 h3 ms3 hkN (Hp.le_trans hl2 hE3.le) hA3 l a1 _ hHas3 (Ends.refl hE4'.st.pre) UV) ?_
        intro y a2 w5 hy5
        cases y with
        | normal =>
          obtain ⟨s5, h5, ms5, hJ5, _, hE5⟩ := hy5
          have hE6 := Ends.call hE4' hE5
          have hE6p := hE6.perm (ms' := Hp.one l (.loop (rec .busy)) :: Mk w.heap.size :: ms5) List.perm_append_comm
          have hl6 : w5.heap[l]? = some (.loop (rec .busy)) := hE6p.st.own _ (List.mem_cons_self) l _ (Hp.one_self _ _)
          refine ⟨_, _, run_endRound none hl6, ?_⟩
          have e3 : ({ rec .busy with state := if (none : Option Code).isNone then .ready else .done, pending := none } : Loop) = rec .ready := by rw [hrec]; rfl
          rw [e3]
          exact ⟨_, h5, _, rfl, (Ends.putL (.loop (rec .ready)) hE6p).perm (List.perm_append_comm (l₁ := [_, _])), .inl ⟨rfl, Hp.le_trans hl2 (Hp.le_trans hE3.le hE5.le), ms5, rfl, hJ5⟩⟩
        | ret =>
          obtain ⟨_, s5, h5, ms5, hJ5, _, hE5⟩ := hy5
          have hE6 := Ends.call hE4' hE5
          have hE6p := hE6.perm (ms' := Hp.one l (.loop (rec .busy)) :: Mk w.heap.size :: ms5) List.perm_append_comm
          have hl6 : w5.heap[l]? = some (.loop (rec .busy)) := hE6p.st.own _ (List.mem_cons_self) l _ (Hp.one_self _ _)
          refine ⟨_, _, run_endRound (some .ret) hl6, ?_⟩
          have e3 : ({ rec .busy with state := if (some Code.ret : Option Code).isNone then .ready else .done, pending := some .ret } : Loop) = recD := by rw [hrec, hrecD]; rfl
          rw [e3]
          exact ⟨_, h5, _, rfl, (Ends.putL (.loop recD) hE6p).perm (List.perm_append_comm (l₁ := [_, _])), .inr ⟨rfl, Hp.le_trans hl2 (Hp.le_trans hE3.le hE5.le), ms5, rfl, hJ5⟩⟩
        | _ => exact absurd hy5.1 (by simp)
      | _ => exact hx
    · rintro x w3 ⟨r, h3, ms3, rfl, hE3, ⟨hl3, ms4, rfl, hJ⟩ | ⟨k, hkN, hl3, ms4, rfl, hJ⟩⟩
      · have hE4 := Ends.call (fr := []) (by rw [List.append_nil]; exact hE1) hE3
        rw [List.append_nil] at hE4
        have hE5 := hE4.perm (ms' := Hp.one l (.loop (rec .ready)) :: Mk w.heap.size :: ms4) List.perm_append_comm
        have hl5 : w3.heap[l]? = some (.loop (rec .ready)) := hE5.st.own _ (List.mem_cons_self) l _ (Hp.one_self _ _)
        refine ⟨_, _, run_endLoop hl5 (by rw [hrec]; simp), ?_⟩
        have e4 : (rec .ready).pending = none := by rw [hrec]
        rw [e4]
        exact hK w.heap.size h3 ms4 hl3 hJ { a with defers := [{ target := .collected w.heap.size, args := #[] }] ++ a.defers } _ ⟨by show [_] ++ a.defers = _; rw [ha.defers]; rfl, ha.size, ha.slots⟩ ((Ends.putL _ hE5).drop.perm (List.perm_append_comm (l₁ := [_])))
      · have hE4 := Ends.call (fr := []) (by rw [List.append_nil]; exact hE1) hE3
        rw [List.append_nil] at hE4
        have hE5 := hE4.perm (ms' := Hp.one l (.loop recD) :: Mk w.heap.size :: ms4) List.perm_append_comm
        have hl5 : w3.heap[l]? = some (.loop recD) := hE5.st.own _ (List.mem_cons_self) l _ (Hp.one_self _ _)
        refine ⟨_, _, run_endLoop hl5 (by rw [hrecD]; simp), ?_⟩
        have e4 : recD.pending = some .ret := by rw [hrecD]
        rw [e4]
        exact wpIn_ret (hR w.heap.size k h3 ms4 hkN hl3 hJ { a with defers := [{ target := .collected w.heap.size, args := #[] }] ++ a.defers } _ ⟨by show [_] ++ a.defers = _; rw [ha.defers]; rfl, ha.size, ha.slots⟩ ((Ends.putL _ hE5).drop.perm (List.perm_append_comm (l₁ := [_]))))
theorem K6 {P : Program} {w0 : World} {h0 : Hp} {ms0 : List Hp} {n : Nat} {fn : Func} {post : Value → Hp → List Hp → Prop} {g : Nat} {ty el : TypeId} {d : TypeDesc} {v : Value}
    (hr : fn.results = #[.cell t ty]) (hv : lk s t = some (.pointer (some ⟨g, 0, none⟩))) (ht : P.underlying ty = some d) (hd : Hw d = false) (i : Nat) (hm : ms[i]? = some (Bf g el [v])) (hp : post v h ms) :
    NX ⟨P, w0, h0, ms0, n, []⟩ (bodyPost P fn (RP w0 h0 ms0 post)) .ret s h ms :=
  SE hr hv ht hd (Cell.blk0 i hm rfl) hp
theorem VV {P : Program} {w0 : World} {h0 : Hp} {ms0 : List Hp} {n : Nat} {fn : Func} {post : Value → Hp → List Hp → Prop} {u r : Nat} {v v' v2 : Value} (hr : fn.results = #[.tmp t, .tmp u, .tmp r]) (hv : lk s t = some v) (hv' : lk s u = some v') (hv2 : lk s r = some v2) (hp : post (.tuple #[v, v', v2]) h ms) :
    NX ⟨P, w0, h0, ms0, n, []⟩ (bodyPost P fn (RP w0 h0 ms0 post)) .ret s h ms := fun a w ha hw =>
  bodyPost_ret (v := .tuple #[v, v', v2]) (by
    have h1 := ha.eval (.tmp t) v hv
    have h2 := ha.eval (.tmp u) v' hv'
    have h3 := ha.eval (.tmp r) v2 hv2
    simp only [Act.eval] at h1 h2 h3
    rw [Array.getD_eq_getD_getElem?] at h1 h2 h3
    simp [results, hr, h1, h2, h3]) ha.defers ⟨_, h, ms, rfl, hw, hp⟩
end Go.Eng
namespace Go.Eng
open Go.RowKit
section
variable {κ ν : Type} [DecidableEq κ] {K : κ → Value} {V : ν → Value} {Ok : κ → Prop} {kt et t t2 : TypeId} {g : Nat} {m : Hp} {T : List (κ × ν)} {bs : List Nat}
variable {e : Entry} {Q : Exit → Act → World → Prop} {ops : Array Oper} {rest : List Oper} {o : Oper} {s : Ar} {h : Hp} {ms : List Hp}
theorem La {α β : Type} : ∀ (T : List α) (bs : List β) (j : Nat), (T.eraseIdx j).zip (bs.eraseIdx j) = (T.zip bs).eraseIdx j
  | [], bs, j => by simp
  | a :: T, [], j => by simp
  | a :: T, b :: bs, 0 => rfl
  | a :: T, b :: bs, j + 1 => by simp [La T bs j]
theorem Lh {α β : Type} (f : α → β) : ∀ (l : List α) (j : Nat), (l.eraseIdx j).map f = (l.map f).eraseIdx j
  | [], j => by simp
  | a :: l, 0 => rfl
  | a :: l, j + 1 => by simp [Lh f l j]
def MY (T : List (κ × ν)) (a : κ) : List (κ × ν) := T.filter fun p => !decide (p.1 = a)
theorem Qi {a : κ} {x : ν} : ∀ {T : List (κ × ν)} {j : Nat}, (T.map Prod.fst).Nodup → T[j]? = some (a, x) → T.eraseIdx j = MY T a
  | [], j, _, h => by simp at h
  | p :: T, 0, hn, h => by
    simp at h
    subst h
    rw [List.map_cons, List.nodup_cons] at hn
    unfold MY
    rw [List.filter_cons_of_neg (by simp)]
    refine (List.filter_eq_self.2 fun q hq => ?_).symm
    have : q.1 ≠ a := fun e => hn.1 (by rw [← e]; exact List.mem_map.2 ⟨q, hq, rfl⟩)
    simp [this]
  | p :: T, j + 1, hn, h => by
    rw [List.map_cons, List.nodup_cons] at hn
    have h' : T[j]? = some (a, x) := by simpa using h
    have hne : p.1 ≠ a := fun e => hn.1 (by rw [e]; exact List.mem_map.2 ⟨_, List.mem_of_getElem? h', rfl⟩)
    unfold MY
    rw [List.eraseIdx_cons_succ, Qi hn.2 h', List.filter_cons_of_pos (by simp [hne])]
    rfl
theorem QZ {a : κ} {T : List (κ × ν)} (h : a ∉ T.map Prod.fst) : MY T a = T := List.filter_eq_self.2 fun q hq => by
  have : q.1 ≠ a := fun e => h (by rw [← e]; exact List.mem_map.2 ⟨q, hq, rfl⟩)
  simp [this]
theorem Rv {a : κ} (T : List (κ × ν)) (b : κ) : AZ (MY T a) b = if b = a then none else AZ T b := by
  split
  · rename_i e
    subst e
    refine Ck fun hm => ?_
    obtain ⟨p, hp, e⟩ := List.mem_map.1 hm
    have := (List.mem_filter.1 hp).2
    simp [e] at this
  · rename_i hne
    unfold AZ MY
    rw [List.find?_filter]
    congr 2
    funext p
    by_cases e : p.1 = b
    · simp [e, hne]
    · simp [e]
theorem L3 {x y : Operand} (i : Nat) (a : κ) (L : JS e.P kt K Ok) (O : BK K V g Ok m T bs) (hm : ms[i]? = some m) (ho : o.op = .call { callee := .builtin .delete, args := #[x, y], argTypes := #[t, t2] }) (ht : e.P.underlying t = some (.map kt et)) (hx : ev s x = some (.map (some g))) (hy : ev s y = some (K a)) (ha : Ok a)
    (hd : o.dst = none) (hg : o.guard = none) (k : ∀ m' bs', BK K V g Ok m' (MY T a) bs' → WL e ops Q rest s h (ms.set i m')) : WL e ops Q (o :: rest) s h ms :=
  KY (post := fun _ h' ms' => ∃ m' bs', BK K V g Ok m' (MY T a) bs' ∧ h' = h ∧ ms' = ms.set i m') (fun ρ w hρ hw => by
    obtain ⟨es, clock, rfl, he, hb⟩ := O.ex
    have hgw : w.heap[g]? = some (.map es clock) := hw.st.own _ (List.mem_of_getElem? hm) g _ (Hp.one_self _ _)
    obtain ⟨l, hk⟩ := L.key a ha
    have hc := L.law.check w es.isEmpty hk
    rcases Fm L O.keys O.ok O.len he w a ha with ⟨h1, h2⟩ | ⟨j, v, b, h1, h2, h3, h4⟩
    · have hrun : (execOp ρ o).run e.P w = .ok (.value (.tuple #[])) { w with heap := w.heap.setIfInBounds g (.map es clock) } := by
        simp only [execOp, ho, Sem.run_bind]
        simp [resolve, invoke, builtin, Builtin.delete_, hρ _ _ hx, hρ _ _ hy, run_underlying ht, getObj, Sem.run, hgw, hc, h1, Result.andThen, setObj]
      unfold OpRes; rw [hrun]
      refine ⟨h, _, Ends.turn hw hm, _, bs, ?_, rfl, rfl⟩
      rw [QZ h2]
      exact ⟨⟨_, _, rfl, he, hb⟩, O.len, O.up, O.keys, O.ok⟩
    · have hrun : (execOp ρ o).run e.P w = .ok (.value (.tuple #[])) { w with heap := w.heap.setIfInBounds g (.map (es.eraseIdxIfInBounds j) clock) } := by
        simp only [execOp, ho, Sem.run_bind]
        simp [resolve, invoke, builtin, Builtin.delete_, hρ _ _ hx, hρ _ _ hy, run_underlying ht, getObj, Sem.run, hgw, hc, h1, Result.andThen, setObj]
      unfold OpRes; rw [hrun]
      refine ⟨h, _, Ends.turn hw hm, _, bs.eraseIdx j, ?_, rfl, rfl⟩
      rw [← Qi O.keys h2]
      have hj : j < T.length := (List.getElem?_eq_some_iff.1 h2).1
      have hjb : j < bs.length := by rw [O.len]; exact hj
      refine ⟨⟨_, _, rfl, ?_, fun b hb' => hb b (List.mem_of_mem_eraseIdx hb')⟩, ?_, ?_, ?_, fun p hp => O.ok p (List.mem_of_mem_eraseIdx hp)⟩
      · rw [La, Lh, ← he, Array.toList_eraseIdxIfInBounds]
      · rw [List.length_eraseIdx_of_lt hj, List.length_eraseIdx_of_lt hjb, O.len]
      · exact O.up.sublist (List.eraseIdx_sublist _ _)
      · exact O.keys.sublist ((List.eraseIdx_sublist _ _).map _)) hd hg fun v h' ms' ⟨m', bs', e1, e2, e3⟩ => by subst e2 e3; exact k m' bs' e1
end
end Go.Eng
namespace Go.Eng
open Go.RowKit
theorem Qs {s' s : Ar} (h : Eng.Sub s' s := by repeat (first | exact trivial | refine ⟨rfl, ?_⟩)) : Eng.Sub s' s := h
theorem Qt {f : Nat → Option (Nat × Nat)} {n : Nat} {vs : List (Nat × Value)} {ps : List (Nat × List Value)} (h : Fu f n vs ps := by repeat (first | exact trivial | refine ⟨⟨by rfl, rfl, rfl⟩, ?_⟩)) : Fu f n vs ps := h
def dg (n : Nat) (o : Oper) : Option Nat := match o.dst, o.guard with
  | some d, none => match Nat.blt d n with
    | true => some d
    | false => none
  | _, _ => none
theorem Jo {n d : Nat} {o : Oper} (h : dg n o = some d) : o.dst = some d ∧ Nat.blt d n = true ∧ o.guard = none := by
  unfold dg at h
  split at h
  · rename_i d' h1 h2
    split at h
    · rename_i h3; cases h; exact ⟨h1, h3, h2⟩
    · cases h
  · cases h
def mv (s : Ar) (o : Oper) : Option Value := match o.op with
  | .move x => ev s x
  | .assign x => ev s x
  | .nilCheck x => match ev s x with
    | some (.pointer (some p)) => some (.pointer (some p))
    | _ => none
  | .extract x i => match ev s x with
    | some (.tuple vs) => vs[i]?
    | _ => none
  | .pick c x y => match ev s c with
    | some (.bool true) => ev s x
    | some (.bool false) => ev s y
    | _ => none
  | .unOp .not _ x => match ev s x with
    | some (.bool a) => some (.bool (!a))
    | _ => none
  | .binOp b _ x y _ => match b, ev s x, ev s y with
    | .lss, some (.int k a), some (.int k' b) => if k = k' then some (.bool (decide (a < b))) else none
    | .leq, some (.int k a), some (.int k' b) => if k = k' then some (.bool (decide (a ≤ b))) else none
    | .gtr, some (.int k a), some (.int k' b) => if k = k' then some (.bool (decide (b < a))) else none
    | .geq, some (.int k a), some (.int k' b) => if k = k' then some (.bool (decide (b ≤ a))) else none
    | .eql, some (.int k a), some (.int k' b) => if k = k' then some (.bool (decide (a = b))) else none
    | .neq, some (.int k a), some (.int k' b) => if k = k' then some (.bool (decide (a ≠ b))) else none
    | _, _, _ => none
  | _ => none
theorem Tp {P : Program} {s : Ar} {h : Hp} {ms : List Hp} {o : Oper} {v : Value} (hv : mv s o = some v) : OX P o s h ms v := by
  unfold mv at hv
  split at hv
  · rename_i h1; exact Au h1 hv
  · rename_i h1; exact IE h1 hv
  · rename_i h1; split at hv
    · rename_i h2; cases hv; exact MR h1 h2
    · cases hv
  · rename_i h1; split at hv
    · rename_i h2; exact Pv h1 h2 hv
    · cases hv
  · rename_i h1; split at hv
    · rename_i h2; exact B8 h1 h2 hv
    · rename_i h2; exact BS h1 h2 hv
    · cases hv
  · rename_i h1; split at hv
    · rename_i h2; cases hv; exact Ft h1 h2
    · cases hv
  · rename_i h1
    split at hv <;> first | (split at hv <;> first | (rename_i h2 h3 h4; subst h4; cases hv; first | exact C0 h1 h2 h3 | exact Ot h1 h2 h3 | exact BY h1 h2 h3 | exact Up h1 h2 h3 | exact DD h1 h2 h3 | exact DP h1 h2 h3) | cases hv) | cases hv
  · cases hv
def gd (ops : Array Oper) (n : Nat) (s : Ar) (o : Oper) (w : Bool) : Option Nat := match o.dst, o.guard with
  | some d, some (j, b) => match Nat.blt d n, ops[j]? with
    | true, some oj => match oj.dst with
      | some dj => match lk s dj with
        | some (.bool b') => match (b' == b) == w with
          | true => some d
          | false => none
        | _ => none
      | none => none
    | _, _ => none
  | _, _ => none
theorem Qr {ops : Array Oper} {n d : Nat} {s : Ar} {o : Oper} {w : Bool} (h : gd ops n s o w = some d) : ∃ j b oj dj b', o.dst = some d ∧ Nat.blt d n = true ∧ o.guard = some (j, b) ∧ ops[j]? = some oj ∧ oj.dst = some dj ∧ lk s dj = some (.bool b') ∧ (b' == b) = w := by
  unfold gd at h
  split at h
  · rename_i d' j b h1 h2
    split at h
    · rename_i oj h3 h4
      split at h
      · rename_i dj h5
        split at h
        · rename_i b' h6
          split at h
          · rename_i h7; cases h; exact ⟨j, b, oj, dj, b', h1, h3, h2, h4, h5, h6, by simpa using h7⟩
          · cases h
        · cases h
      · cases h
    · cases h
  · cases h
section
variable {e : Entry} {Q : Exit → Act → World → Prop} {s : Ar} {h h0 : Hp} {ms : List Hp} {ops : Array Oper} {listed : Array Bool} {fuel : Nat} {o : Oper} {rest : List Oper} {v : Value} {d : Nat}
theorem Qx (hx : OX e.P o s h ms v) (hd : dg e.n o = some d) (k : WL e ops Q rest ((d, v) :: s) h ms) : WL e ops Q (o :: rest) s h ms :=
  let ⟨h1, h2, h3⟩ := Jo hd
  XH hx h1 h2 h3 k
def YF (n : Nat) (s : Ar) (o : Oper) : Option (Nat × Value) := match dg n o, mv s o with
  | some d, some v => some (d, v)
  | _, _ => none
theorem Qm (hm : YF e.n s o = some (d, v)) (k : WL e ops Q rest ((d, v) :: s) h ms) : WL e ops Q (o :: rest) s h ms := by
  obtain ⟨hd, hv⟩ : dg e.n o = some d ∧ mv s o = some v := by
    unfold YF at hm
    split at hm
    · rename_i h1 h2; cases hm; exact ⟨h1, h2⟩
    · cases hm
  exact Qx (Tp hv) hd k
theorem Qk (hd : gd ops e.n s o false = some d) (k : WL e ops Q rest ((d, undef) :: s) h ms) : WL e ops Q (o :: rest) s h ms :=
  let ⟨_, _, _, _, _, h1, h2, h3, h4, h5, h6, h7⟩ := Qr hd
  U5 h1 h2 h3 h4 h5 h6 h7 k
theorem Qg (hx : OX e.P o s h ms v) (hd : gd ops e.n s o true = some d) (k : WL e ops Q rest ((d, v) :: s) h ms) : WL e ops Q (o :: rest) s h ms :=
  let ⟨_, _, _, _, _, h1, h2, h3, h4, h5, h6, h7⟩ := Qr hd
  VX hx h1 h2 h3 h4 h5 (by rw [h6]; congr 2; simpa using h7) k
theorem Qw (k : WB e ops Q h fuel listed s h ms) : WL e ops (QB e ops Q h fuel listed) [] s h ms := Ak (VY (Hp.le_refl _) k)
theorem Qa (k : WB e ops Q h0 fuel listed s h ms) (hl : h0.le h := by assumption) : WL e ops (QB e ops Q h0 fuel listed) [] s h ms := Ak (VY hl k)
theorem Qo (i : Nat) (ho : ops[i]? = some o) (k : WL e ops (QB e ops Q h0 fuel (listed.setIfInBounds i true)) [o] s h ms) (hr : Region.ready .any ops listed = [i] := by kernel_rfl) : WB e ops Q h0 (fuel + 1) listed s h ms := A0 [i] hr rfl (AB ho k A3)
theorem Qe (k : NX e Q .normal s h ms) (hr : Region.ready .any ops listed = [] := by kernel_rfl) : WB e ops Q h0 fuel listed s h ms := Wp hr k
theorem An {y : Code} (k : WS e y Q s h ms) : WL e ops (Exit.then (fun a w => y.wp e.P Q a w) Q) [] s h ms := Ak (Ad k)
theorem Az {id : Nat} {l : List Oper} {y : Code} (k : WL e l.toArray (Exit.then (fun a w => y.wp e.P Q a w) Q) l s h ms) : WS e (.seq (.region id l.toArray false) y) Q s h ms := Ac (Ab k)
theorem BG {id : Nat} {l : List Oper} {y : Code} (k : WL e l.toArray (Exit.then (fun a w => y.wp e.P Q a w) Q) l s h ms) : WL e ops (Exit.then (fun a w => (Code.seq (.region id l.toArray false) y).wp e.P Q a w) Q) [] s h ms := Ak (Ad (Ac (Ab k)))
theorem GZ {id : Nat} {l : List Oper} (k : WL e l.toArray Q l s h ms) : WL e ops (Exit.then (fun a w => (Code.region id l.toArray false).wp e.P Q a w) Q) [] s h ms := Ak (Ad (Ab k))
theorem C4 {t : TypeId} {sz : Nat} {z : Value} {bytes : Nat} (zl : List Value) (ho : o.op = .alloc t) (hs : Elem e.P t sz z bytes) (hz : z.cells = zl.toArray) (hd : dg e.n o = some d) (k : ∀ g, WL e ops Q rest ((d, .pointer (some ⟨g, 0, none⟩)) :: s) h (Bf g t zl :: ms)) : WL e ops Q (o :: rest) s h ms :=
  let ⟨h1, h2, h3⟩ := Jo hd
  SU zl ho hs hz h1 h2 h3 k
end
def XF (l : List Oper) (n : Nat) (zs : Ar) (i : Nat) : Option (Oper × Nat) := match l[i]? with
  | some o => match dg n o with
    | some d => match lk zs d with
      | none => some (o, d)
      | some _ => none
    | none => none
  | none => none
theorem Qp {P : Program} {l : List Oper} {n : Nat} {s z : Ar} {h0 : Hp} {K : Ar → Prop} {r : List Nat} {i d : Nat} {o : Oper} {v : Value} (ho : XF l n (z ++ s) i = some (o, d)) (hx : OX P o (z ++ s) h0 [] v) (k : GI P l n s h0 K r ((d, v) :: z)) : GI P l n s h0 K (i :: r) z := by
  unfold XF at ho
  split at ho
  · rename_i o' h1
    split at ho
    · rename_i d' h2
      split at ho
      · rename_i h3
        cases ho
        obtain ⟨h4, h5, _⟩ := Jo h2
        exact Xg h1 h4 h5 h3 hx k
      · cases ho
    · cases ho
  · cases ho
def YA (l : List Oper) (n : Nat) (zs : Ar) (i : Nat) : Option (Nat × Value) := match XF l n zs i with
  | some (o, d) => match mv zs o with
    | some v => some (d, v)
    | none => none
  | none => none
def Ww (s : Ar) (o : Oper) : Option (TypeId × Addr) := match o.op with
  | .load t x => match ev s x with
    | some (.pointer (some p)) => some (t, p)
    | _ => none
  | _ => none
theorem NL {s : Ar} {o : Oper} {t : TypeId} {p : Addr} (h : Ww s o = some (t, p)) : ∃ x, o.op = .load t x ∧ ev s x = some (.pointer (some p)) := by
  unfold Ww at h
  split at h
  · rename_i t' x h1; split at h
    · rename_i h2; cases h; exact ⟨x, h1, h2⟩
    · cases h
  · cases h
def Xd (s : Ar) (o : Oper) : Option (TypeId × Nat × Addr) := match o.op with
  | .fieldAddr t x i => match ev s x with
    | some (.pointer (some p)) => some (t, i, p)
    | _ => none
  | _ => none
theorem TA {s : Ar} {o : Oper} {t : TypeId} {i : Nat} {p : Addr} (h : Xd s o = some (t, i, p)) : ∃ x, o.op = .fieldAddr t x i ∧ ev s x = some (.pointer (some p)) := by
  unfold Xd at h
  split at h
  · rename_i t' x i' h1; split at h
    · rename_i h2; cases h; exact ⟨x, h1, h2⟩
    · cases h
  · cases h
def wd (o : Oper) : Option Nat := match o.dst, o.guard with
  | some d, none => some d
  | _, _ => none
theorem Mn {o : Oper} {d : Nat} (h : wd o = some d) : o.dst = some d ∧ o.guard = none := by
  unfold wd at h
  split at h
  · rename_i h1 h2; cases h; exact ⟨h1, h2⟩
  · cases h
section
variable {P : Program} {l : List Oper} {n : Nat} {s z : Ar} {h h0 : Hp} {ms : List Hp} {K : Ar → Prop} {r : List Nat} {i d : Nat} {o : Oper} {v : Value} {t : TypeId} {p : Addr} {D : TypeDesc}
theorem Qq (hm : YA l n (z ++ s) i = some (d, v)) (k : GI P l n s h0 K r ((d, v) :: z)) : GI P l n s h0 K (i :: r) z := by
  unfold YA at hm
  split at hm
  · rename_i h1; split at hm
    · rename_i h2; cases hm; exact Qp h1 (Tp h2) k
    · cases hm
  · cases hm
def Yf {α : Type} (a : Option (Oper × Nat)) (f : Oper → Option α) : Option (α × Nat) := match a with
  | some (o, d) => match f o with
    | some x => some (x, d)
    | none => none
  | none => none
theorem MW {α : Type} {a : Option (Oper × Nat)} {f : Oper → Option α} {x : α} {d : Nat} (h : Yf a f = some (x, d)) : ∃ o, a = some (o, d) ∧ f o = some x := by
  unfold Yf at h
  split at h
  · rename_i o' d'; split at h
    · rename_i h2; cases h; exact ⟨_, rfl, h2⟩
    · cases h
  · cases h
theorem oL (hm : Ww s o = some (t, p)) (ht : P.underlying t = some D) (hc : Cell h ms p v) (ha : Hw D = false := by rfl) : OX P o s h ms v :=
  let ⟨_, h1, h2⟩ := NL hm
  U3 h1 ht ha h2 hc
theorem oG {z : Value} {sz bytes : Nat} {vs : List Value} (hm : Ww s o = some (t, p)) (ht : P.underlying t = some D) (hs : Elem P t sz z bytes) (hc : Seg h ms p vs) (ha : Hw D = true := by rfl) (hl : vs.length = sz := by rfl) : OX P o s h ms (.agg vs.toArray) :=
  let ⟨_, h1, h2⟩ := NL hm
  Tz h1 ht ha hs hl h2 hc
theorem oF {j off : Nat} (F : FY P t j off) (hm : Xd s o = some (t, j, p)) : OX P o s h ms (.pointer (some (p.add off))) :=
  let ⟨_, h1, h2⟩ := TA hm
  Sd F h1 h2
theorem QL (hm : Yf (XF l n (z ++ s) i) (Ww (z ++ s)) = some ((t, p), d)) (ht : P.underlying t = some D) (hc : Cell h0 [] p v) (k : GI P l n s h0 K r ((d, v) :: z)) (ha : Hw D = false := by rfl) : GI P l n s h0 K (i :: r) z :=
  let ⟨_, h1, h2⟩ := MW hm
  Qp h1 (oL h2 ht hc ha) k
theorem QF {j off : Nat} (F : FY P t j off) (hm : Yf (XF l n (z ++ s) i) (Xd (z ++ s)) = some ((t, j, p), d)) (k : GI P l n s h0 K r ((d, .pointer (some (p.add off))) :: z)) : GI P l n s h0 K (i :: r) z :=
  let ⟨_, h1, h2⟩ := MW hm
  Qp h1 (oF F h2) k
end
def bn (s : Ar) (o : Oper) : Option (BinOp × Int × Int) := match o.op with
  | .binOp b _ x y _ => match ev s x, ev s y with
    | some (.int .i64 a), some (.int .i64 c) => some (b, a, c)
    | _, _ => none
  | _ => none
theorem Mt {s : Ar} {o : Oper} {b : BinOp} {a c : Int} (h : bn s o = some (b, a, c)) : ∃ t x y u, o.op = .binOp b t x y u ∧ ev s x = some (.int .i64 a) ∧ ev s y = some (.int .i64 c) := by
  unfold bn at h
  split at h
  · rename_i b' t x y u h1; split at h
    · rename_i h2 h3; cases h; exact ⟨t, x, y, u, h1, h2, h3⟩
    · cases h
  · cases h
section
variable {P : Program} {s : Ar} {h : Hp} {ms : List Hp} {o : Oper} {a b : Int}
theorem oA (hm : bn s o = some (.add, a, b)) (hr : -9223372036854775808 ≤ a + b ∧ a + b ≤ 9223372036854775807 := by omega) : OX P o s h ms (.int .i64 (a + b)) :=
  let ⟨_, _, _, _, h1, h2, h3⟩ := Mt hm
  WI h1 h2 h3 hr
theorem oS (hm : bn s o = some (.sub, a, b)) (hr : -9223372036854775808 ≤ a - b ∧ a - b ≤ 9223372036854775807 := by omega) : OX P o s h ms (.int .i64 (a - b)) :=
  let ⟨_, _, _, _, h1, h2, h3⟩ := Mt hm
  WH h1 h2 h3 hr
theorem oM (hm : bn s o = some (.mul, a, b)) (hr : -9223372036854775808 ≤ a * b ∧ a * b ≤ 9223372036854775807 := by omega) : OX P o s h ms (.int .i64 (a * b)) :=
  let ⟨_, _, _, _, h1, h2, h3⟩ := Mt hm
  Wo h1 h2 h3 hr
end
def Yk (s : Ar) (o : Oper) : Option (TypeId × Addr × Value) := match o.op, o.dst, o.guard with
  | .store t x y, none, none => match ev s x, ev s y with
    | some (.pointer (some p)), some v => some (t, p, v)
    | _, _ => none
  | _, _, _ => none
theorem Sl {s : Ar} {o : Oper} {t : TypeId} {p : Addr} {v : Value} (h : Yk s o = some (t, p, v)) : ∃ x y, o.op = .store t x y ∧ ev s x = some (.pointer (some p)) ∧ ev s y = some v ∧ o.dst = none ∧ o.guard = none := by
  unfold Yk at h
  split at h
  · rename_i t' x y h1 h2 h3; split at h
    · rename_i h4 h5; cases h; exact ⟨x, y, h1, h4, h5, h2, h3⟩
    · cases h
  · cases h
def Yh (s : Ar) (o : Oper) : Option (FuncId × List Value) := match o.op with
  | .call c => match c.callee, MI s c.args.toList with
    | .value (.func f), some vs => some (f, vs)
    | _, _ => none
  | _ => none
theorem Uq {s : Ar} {o : Oper} {f : FuncId} {vs : List Value} (h : Yh s o = some (f, vs)) : ∃ l ts, o.op = .call { callee := .value (.func f), args := List.toArray l, argTypes := ts } ∧ MI s l = some vs := by
  unfold Yh at h
  split at h
  · rename_i c h1; split at h
    · rename_i f' vs' h2 h3; cases h
      obtain ⟨ce, az, ts⟩ := c
      simp only at h2 h3
      subst h2
      exact ⟨az.toList, ts, by rw [h1, Array.toArray_toList], h3⟩
    · cases h
  · cases h
section
variable {e : Entry} {Q : Exit → Act → World → Prop} {s : Ar} {h : Hp} {ms : List Hp} {ops : Array Oper} {o : Oper} {rest l : List Oper} {v : Value} {d : Nat} {t : TypeId} {p : Addr} {D : TypeDesc}
theorem Ql (hm : (Ww s o, dg e.n o) = (some (t, p), some d)) (ht : e.P.underlying t = some D) (hc : Cell h ms p v) (k : WL e ops Q rest ((d, v) :: s) h ms) (ha : Hw D = false := by rfl) : WL e ops Q (o :: rest) s h ms :=
  let ⟨h1, h2⟩ := Prod.mk.inj hm
  Qx (oL h1 ht hc ha) h2 k
theorem Qf {j off : Nat} (F : FY e.P t j off) (hm : (Xd s o, dg e.n o) = (some (t, j, p), some d)) (k : WL e ops Q rest ((d, .pointer (some (p.add off))) :: s) h ms) : WL e ops Q (o :: rest) s h ms :=
  let ⟨h1, h2⟩ := Prod.mk.inj hm
  Qx (oF F h1) h2 k
theorem Sa {el : TypeId} {z : Value} {sz bytes g : Nat} {l : List Value} (i : Nat) (vl : List Value) (hs : Elem e.P t sz z bytes) (hm : (Yk s o, v.cells, ms[i]?, vl.length, l.length) = (some (t, ⟨g, 0, none⟩, v), vl.toArray, some (Bf g el l), sz, sz)) (h1 : ∀ u ∈ vl, u.oneCell' = true) (K : WL e ops Q rest s h (ms.set i (Bf g el vl))) : WL e ops Q (o :: rest) s h ms := by
  simp only [Prod.mk.injEq] at hm
  obtain ⟨q1, q2, q3, q4, q5⟩ := hm
  obtain ⟨x, y, r1, r2, r3, r4, r5⟩ := Sl q1
  exact Dx i vl r1 hs r2 r3 q2 h1 q3 q4 q5 r4 r5 K
theorem Qc {f : FuncId} {vs : List Value} {post : Value → Hp → List Hp → Prop} (hc : ∀ az w, (callFunc f az).run e.P w = .ok (.enter f az) w) (hm : (Yh s o, dg e.n o) = (some (f, vs), some d)) (k : FnT e.P f vs.toArray h [] post) (K : ∀ v h' pre', h.le h' → post v h' pre' → WL e ops Q rest ((d, v) :: s) h' (pre' ++ ms)) : WL e ops Q (o :: rest) s h ms := by
  obtain ⟨h1, h2⟩ := Prod.mk.inj hm
  obtain ⟨l, ts, h3, h4⟩ := Uq h1
  obtain ⟨h5, h6, h7⟩ := Jo h2
  exact UU h3 hc h4 k h5 h6 h7 K
variable {tl : List Oper} {q : List (Nat × VP)} {al : List (Nat × Nb)}
theorem Wm (hm : (wd o, mv s o) = (some d, some v)) (k : WR e ops Q tl h ms l ((d, v) :: s) q al) : WR e ops Q tl h ms (o :: l) s q al :=
  let ⟨h1, h2⟩ := Prod.mk.inj hm
  let ⟨h3, h4⟩ := Mn h1
  AM (Tp h2) h3 h4 k
theorem Wf {j off : Nat} (F : FY e.P t j off) (hm : (wd o, Xd s o) = (some d, some (t, j, p))) (k : WR e ops Q tl h ms l ((d, .pointer (some (p.add off))) :: s) q al) : WR e ops Q tl h ms (o :: l) s q al :=
  let ⟨h1, h2⟩ := Prod.mk.inj hm
  let ⟨h3, h4⟩ := Mn h1
  AM (oF F h2) h3 h4 k
theorem Wl (hm : (wd o, Ww s o) = (some d, some (t, p))) (ht : e.P.underlying t = some D) (hc : Cell h ms p v) (k : WR e ops Q tl h ms l ((d, v) :: s) q al) (ha : Hw D = false := by rfl) : WR e ops Q tl h ms (o :: l) s q al :=
  let ⟨h1, h2⟩ := Prod.mk.inj hm
  let ⟨h3, h4⟩ := Mn h1
  AM (oL h2 ht hc ha) h3 h4 k
end
end Go.Eng
namespace Go.Proofs.YtodheebhahdepaaGreat
open Go.Proofs.Tryz
open Go.Eng
theorem CN : prog.follows .mixedOrders = true := by kernel_rfl
theorem Bm : Elem prog 3 1 (.int .i64 0) 8 := Elem.of (by kernel_rfl)
theorem XL : Elem prog 4 1 (.bool false) 1 := Elem.of (by kernel_rfl)
theorem Um : Elem prog 22 1 (.slice none 0 0) 24 := Elem.of (by kernel_rfl)
theorem Yg : Elem prog 24 3 (.agg #[.int .i64 0, .slice none 0 0, .int .i64 0]) 40 := Elem.of (by kernel_rfl)
theorem Cn : Elem prog 25 1 (.slice none 0 0) 24 := Elem.of (by kernel_rfl)
theorem KL : Elem prog 27 1 (.slice none 0 0) 24 := Elem.of (by kernel_rfl)
theorem Bi : Elem prog 29 1 (.agg #[.slice none 0 0]) 24 := Elem.of (by kernel_rfl)
theorem BI : Elem prog 43 6 (.agg #[.int .i64 0, .int .i64 0, .int .i64 0, .bool false, .int .i64 0, .int .i64 0]) 48 := Elem.of (by kernel_rfl)
theorem Wx : Elem prog 51 3 (.agg #[.slice none 0 0, .slice none 0 0, .slice none 0 0]) 72 := Elem.of (by kernel_rfl)
theorem NW : Elem prog 57 1 (.slice none 0 0) 24 := Elem.of (by kernel_rfl)
theorem AH : Elem prog 59 3 (.agg #[.int .i64 0, .int .i64 0, .slice none 0 0]) 40 := Elem.of (by kernel_rfl)
theorem Fx : Elem prog 61 2 (.agg #[.int .i64 0, .int .i64 0]) 16 := Elem.of (by kernel_rfl)
theorem X2 : Elem prog 62 1 (.pointer none) 8 := Elem.of (by kernel_rfl)
theorem Xu : Elem prog 66 1 (.map none) 8 := Elem.of (by kernel_rfl)
theorem XD : Elem prog 76 1 (.nilFunc) 8 := Elem.of (by kernel_rfl)
theorem AR : Elem prog 81 2 (.agg #[.int .i64 0, .int .i64 0]) 16 := Elem.of (by kernel_rfl)
theorem Xq : Elem prog 87 1 (.nilFunc) 8 := Elem.of (by kernel_rfl)
theorem VO : Elem prog 92 1 (.map none) 8 := Elem.of (by kernel_rfl)
theorem X7 : Elem prog 101 405 (.agg (([.int .i64 0, .slice none 0 0, .map none, .slice none 0 0, .slice none 0 0] : List Value) ++ List.replicate 400 (Value.int .i64 0)).toArray) 3288 := Elem.of (by kernel_rfl)
theorem QN : Elem prog 102 1 (.nilFunc) 8 := Elem.of (by kernel_rfl)
theorem Wa : Elem prog 108 1 (.slice none 0 0) 24 := Elem.of (by kernel_rfl)
theorem Xy : Elem prog 115 2 (.agg #[.map none, .slice none 0 0]) 32 := Elem.of (by kernel_rfl)
theorem V2 : Elem prog 173 1 (.map none) 8 := Elem.of (by kernel_rfl)
theorem Po : IS prog 29 #[(0, 1)] := ⟨_, underlying29, fun w => by kernel_rfl⟩
theorem WY : IS prog 43 #[(0, 1), (1, 1), (2, 1), (3, 1), (4, 1), (5, 1)] := ⟨_, underlying43, fun w => by kernel_rfl⟩
theorem KE : IS prog 59 #[(0, 1), (1, 1), (2, 1)] := ⟨_, underlying59, fun w => by kernel_rfl⟩
theorem Yt : IS prog 61 #[(0, 1), (1, 1)] := ⟨_, underlying61, fun w => by kernel_rfl⟩
theorem Ou : IS prog 81 #[(0, 1), (1, 1)] := ⟨_, underlying81, fun w => by kernel_rfl⟩
theorem Xs : IS prog 101 #[(0, 1), (1, 1), (2, 1), (3, 1), (4, 1), (5, 400)] := ⟨_, underlying101, fun w => by kernel_rfl⟩
theorem XA : IS prog 115 #[(0, 1), (1, 1)] := ⟨_, underlying115, fun w => by kernel_rfl⟩
theorem W2 : FY prog 24 0 0 := ⟨_, _, _, underlying24, rfl, rfl, sizeOf3⟩
theorem TI : FY prog 24 1 1 := ⟨_, _, _, underlying24, rfl, rfl, sizeOf22⟩
theorem Hh : FY prog 24 2 2 := ⟨_, _, _, underlying24, rfl, rfl, sizeOf3⟩
theorem BX : FY prog 29 0 0 := ⟨_, _, _, underlying29, rfl, rfl, sizeOf27⟩
theorem OY : FY prog 43 0 0 := ⟨_, _, _, underlying43, rfl, rfl, sizeOf3⟩
theorem Hm : FY prog 43 1 1 := ⟨_, _, _, underlying43, rfl, rfl, sizeOf3⟩
theorem G5 : FY prog 43 2 2 := ⟨_, _, _, underlying43, rfl, rfl, sizeOf3⟩
theorem Hj : FY prog 43 3 3 := ⟨_, _, _, underlying43, rfl, rfl, sizeOf4⟩
theorem Ui : FY prog 43 5 5 := ⟨_, _, _, underlying43, rfl, rfl, sizeOf3⟩
theorem Bo : FY prog 59 0 0 := ⟨_, _, _, underlying59, rfl, rfl, sizeOf3⟩
theorem BC : FY prog 59 1 1 := ⟨_, _, _, underlying59, rfl, rfl, sizeOf3⟩
theorem Bl : FY prog 59 2 2 := ⟨_, _, _, underlying59, rfl, rfl, sizeOf57⟩
theorem FI : FY prog 61 0 0 := ⟨_, _, _, underlying61, rfl, rfl, sizeOf3⟩
theorem Pt : FY prog 61 1 1 := ⟨_, _, _, underlying61, rfl, rfl, sizeOf3⟩
theorem Cc : FY prog 81 0 0 := ⟨_, _, _, underlying81, rfl, rfl, sizeOf3⟩
theorem Cv : FY prog 81 1 1 := ⟨_, _, _, underlying81, rfl, rfl, sizeOf3⟩
theorem HS : FY prog 101 0 0 := ⟨_, _, _, underlying101, rfl, rfl, sizeOf3⟩
theorem ES : FY prog 101 1 1 := ⟨_, _, _, underlying101, rfl, rfl, sizeOf27⟩
theorem Jp : FY prog 101 2 2 := ⟨_, _, _, underlying101, rfl, rfl, sizeOf66⟩
theorem EV : FY prog 101 3 3 := ⟨_, _, _, underlying101, rfl, rfl, sizeOf22⟩
theorem Jk : FY prog 101 4 4 := ⟨_, _, _, underlying101, rfl, rfl, sizeOf22⟩
theorem Qy : FY prog 101 5 5 := ⟨_, _, _, underlying101, rfl, rfl, sizeOf99⟩
theorem Gz : FY prog 115 0 0 := ⟨_, _, _, underlying115, rfl, rfl, sizeOf113⟩
theorem PL : FY prog 115 1 1 := ⟨_, _, _, underlying115, rfl, rfl, sizeOf25⟩
end Go.Proofs.YtodheebhahdepaaGreat

namespace Go.Proofs.YtodheebhahdepaaGreat
open Go.Eng Go.RowKit
def Bq (n : Int) : Prop := -9223372036854775808 ≤ n ∧ n ≤ 9223372036854775807
instance (n : Int) : Decidable (Bq n) := by unfold Bq; infer_instance
theorem IV {P : Program} {f : FuncId} {args : Array Value} {h : Hp} {v : Value} (k : FnT P f args h [] (fun r _ _ => r = v)) (ms : List Hp) : FnV P f args h ms v := by
 refine fun w hw => (?_ : FnV _ _ _ h [] _) w (hw.weaken (Hp.le_refl _) (List.nil_sublist _))
 exact FnT.toV k
theorem Ci {a b : Nat} (h : (a : Int) < b) : a < b := by omega
open Go.Proofs.Tryz
def cD (s : Int × Int) : List Value := [.int .i64 s.1, .int .i64 s.2]
theorem Cj : ∀ s, (cD s).length = 2 := fun _ => rfl
theorem Do : ∀ a, ∀ c ∈ cD a, c.oneCell' = true := fun a c hc => by
 simp only [cD, List.mem_cons, List.not_mem_nil, or_false] at hc
 rcases hc with rfl | rfl <;> rfl
structure Cl where
 id : Int
 dim : Int
 sd : List (Int × Int)
 deriving DecidableEq, Inhabited
structure Ce where
 c : Cl
 v : Value
instance : Inhabited Ce := ⟨⟨default, .slice none 0 0⟩⟩
def cC (a : Ce) : List Value := [.int .i64 a.c.id, .int .i64 a.c.dim, a.v]
theorem BP : ∀ a, (cC a).length = 3 := fun _ => rfl
structure RdC (h : Hp) (v : Value) (l : List Ce) : Prop where
 q : RdL cC 3 h [] v l
 s : ∀ a ∈ l, RdL cD 2 h [] a.v a.c.sd
theorem RdC.up {h h' : Hp} {v : Value} {l : List Ce} (R : RdC h v l) (hl : h.le h') : RdC h' v l := ⟨R.q.up hl, fun a ha => (R.s a ha).up hl⟩
theorem Db {h : Hp} {l : List Ce} (H : ∀ a ∈ l, RdL cD 2 h [] a.v a.c.sd) : ∀ a ∈ l, ∀ c ∈ cC a, c.oneCell' = true := fun a ha c hc => by
 simp only [cC, List.mem_cons, List.not_mem_nil, or_false] at hc
 rcases hc with rfl | rfl | rfl
 ·rfl
 ·rfl
 ·exact (H a ha).rd.one
def G2 (x : Int × Int) (l : List (Int × Int)) : List (Int × Int) := l.takeWhile (fun y => decide (y.1 ≤ x.1)) ++ x :: l.dropWhile (fun y => decide (y.1 ≤ x.1))
def Cp (l : List (Int × Int)) : List (Int × Int) := l.foldl (fun acc x => G2 x acc) []
theorem DK {α : Type} (p : α → Bool) : ∀ (l : List α) (k : Nat), k ≤ l.length → (∀ j (hj : j < l.length), j < k → p l[j] = true) → (∀ hk : k < l.length, p l[k] = false) → l.takeWhile p = l.take k ∧ l.dropWhile p = l.drop k
 | [], k, hk, _, _ => by simp
 | a :: l, 0, _, _, h => by
  have := h (by simp)
  simp only [List.getElem_cons_zero] at this
  simp [List.takeWhile, List.dropWhile, this]
 | a :: l, k + 1, hk, h1, h2 => by
  have h3 : p a = true := h1 0 (by simp) (by omega)
  have ih := DK p l k (by simpa using hk) (fun j hj hjk => by
   have := h1 (j + 1) (by simpa using hj) (by omega)
   simpa using this) (fun hk => by
   have := h2 (by simpa using hk)
   simpa using this)
  simp [List.takeWhile, List.dropWhile, h3, ih.1, ih.2]
theorem PV {x : Int × Int} {l : List (Int × Int)} {k : Nat} (hk : k ≤ l.length) (h1 : ∀ j (hj : j < l.length), j < k → l[j].1 ≤ x.1) (h2 : ∀ hk : k < l.length, ¬ l[k].1 ≤ x.1) : G2 x l = l.take k ++ x :: l.drop k := by
 obtain ⟨e1, e2⟩ := DK (fun y => decide (y.1 ≤ x.1)) l k hk (fun j hj hjk => decide_eq_true (h1 j hj hjk)) (fun hk => decide_eq_false (h2 hk))
 unfold G2
 rw [e1, e2]
theorem S7 (x : Int × Int) (l : List (Int × Int)) : (G2 x l).length = l.length + 1 := by
 unfold G2
 have := congrArg List.length (List.takeWhile_append_dropWhile (p := fun y : Int × Int => decide (y.1 ≤ x.1)) (l := l))
 rw [List.length_append] at this
 rw [List.length_append, List.length_cons]; omega
theorem Ns (l : List (Int × Int)) (x : Int × Int) : Cp (l ++ [x]) = G2 x (Cp l) := by
 unfold Cp
 rw [List.foldl_append]; rfl
theorem FE (l : List (Int × Int)) : (Cp l).length = l.length := by
 have go : ∀ (l acc : List (Int × Int)), (l.foldl (fun acc x => G2 x acc) acc).length = acc.length + l.length := fun l => by
  induction l with
  | nil => intro acc; rfl
  | cons x l ih => intro acc; rw [List.foldl_cons, ih, S7, List.length_cons]; omega
 have := go l []
 rw [List.length_nil, Nat.zero_add] at this
 exact this
theorem Eg (a b : Int) (ha : Bq a) (hb : 1 ≤ b ∧ b ≤ 1000000) (h : Hp) (ms : List Hp) : FnV Tryz.prog 14 #[.int .i64 a, .int .i64 b] h ms (.int .i64 (a % b)) := by
 refine IV ?_ ms
 have ha1 := ha.1
 have ha2 := ha.2
 have h1 : a.tmod b < b := by have := Int.tmod_lt_of_pos a (show 0 < b by omega); omega
 have h2 : -b < a.tmod b := by have := Int.lt_tmod_of_pos a (show 0 < b by omega); omega
 have h3 : (a.tmod b + b) % b = a % b := by rw [Int.add_emod_right, Int.tmod_def, Int.sub_mul_emod_self_left]
 refine Av func14 ntmps14 rfl rfl (fun w0 hw0 => ?_)
 simp only [A5]
 refine Az (Qm rfl (BG (Qm rfl (Qm rfl (Qx (Pc rfl rfl rfl (by omega)) rfl (Qm rfl (Qx (oA rfl) rfl (Qm rfl (Qx (B5 rfl rfl rfl (by omega) (by omega)) rfl (Qm rfl (An (Aq ?_))))))))))))
 exact As rfl rfl (by rw [h3])
theorem D0 {α : Type} {F : α → List Value} {sz : Nat} {el : TypeId} (g : Nat) (hF : ∀ x, (F x).length = sz) : OwnL F sz el (Bf g el []) (.slice (some ⟨g, 0, none⟩) 0 0) ([] : List α) := OwnL.blk (l := []) 0 hF rfl (by decide)
theorem NV (l : List (Int × Int)) (v : Value) (h : Hp) (hl : l.length ≤ 100000) (hR : RdL cD 2 h [] v l) : FnT Tryz.prog 41 #[v] h [] (fun r h' ms' => h = h' ∧ ∃ m, ms' = [m] ∧ OwnL cD 2 81 m r (Cp l)) := by
 have o1 := hR.rd.one
 refine Av func41 ntmps41 rfl rfl (fun w0 hw0 => ?_)
 simp only [A5]
 refine Az (Qm rfl (BG (Qm rfl (An (Ac (Az (Qm rfl (An (Ah (Bz ?_))))))))))
 refine AD (fun q s h' ms' => ∃ (i : Nat) (vo : Value) (mo : Hp), q = l.length - i ∧ s = [(0, v), (3, vo), (4, .int .i64 i)] ∧ h = h' ∧ ms' = [mo] ∧ i ≤ l.length ∧ OwnL cD 2 81 mo vo (Cp (l.take i)))
  (l.length - 0) _ ⟨0, _, _, rfl, rfl, rfl, rfl, by omega, OwnL.nil Cj⟩ Qs ?_
 rintro q s h' ms' ⟨i, vo, mo, rfl, rfl, rfl, rfl, hi, hO⟩
 have hsl := FE (l.take i)
 rw [List.length_take] at hsl
 refine Ac (Az (Qm rfl (Qm rfl (Qx (AC hR.rd.any rfl underlying57 rfl) rfl (Qm rfl (An ?_))))))
 refine Ax rfl (fun hlt => ?_) (fun hlt => ?_)
 ·have hil : i < l.length := Ci hlt
  have ovo : vo.oneCell' = true := (hO.rd (h := h) (ms := [mo]) (List.Mem.head _)).rd.one
  have hseg : ∀ ms, Seg h ms ((AI v).add (i * 2)) (cD l[i]) := fun ms => (hR.any (ms := ms)).seg hil
  obtain ⟨out, hout⟩ : ∃ out, Cp (l.take i) = out := ⟨_, rfl⟩
  rw [hout] at hO hsl
  refine Ai (Ad (Ac (Ah (Az (Qm rfl (An ?_))))))
  have hcl := hO.rd (h := h) (ms := [mo]) (List.Mem.head _)
  have hout2 := hcl.len_le
  have htk : Cp (l.take (i + 1)) = G2 l[i] out := by rw [List.take_succ_eq_append_getElem hil, Ns, hout]
  refine AV (fun s h' ms' => ∃ (k : Nat), s = [(0, v), (3, vo), (4, .int .i64 i), (5, .int .i64 k)] ∧ h = h' ∧ ms' = [mo] ∧ k ≤ out.length ∧ G2 l[i] out = out.take k ++ l[i] :: out.drop k) ?_ (fun s h ms hI => ?_)
  ·refine Ah ?_
   refine AD (fun q s h' ms' => ∃ (k : Nat), q = out.length - k ∧ s = [(0, v), (3, vo), (4, .int .i64 i), (5, .int .i64 k)] ∧ h = h' ∧ ms' = [mo] ∧ k ≤ out.length ∧ ∀ j (hj : j < out.length), j < k → out[j].1 ≤ l[i].1)
    (out.length - 0) _ ⟨0, rfl, rfl, rfl, rfl, by omega, fun j hj h => by omega⟩ Qs ?_
   rintro q s h' ms' ⟨k, rfl, rfl, rfl, rfl, hk, hlo⟩
   refine Ac (Ac (Bb 15 CN (by kernel_rfl) rfl (Wm rfl (Wm rfl (AM (AC hcl.rd rfl underlying57 rfl) rfl rfl (Wm rfl (Wm rfl ?_)))))))
   refine BV (t := 17) rfl (fun hs1 => ?_) (fun hs1 => ?_)
   ·have hkl : k < out.length := Ci hs1
    have hck : Cell h [mo] ((AI vo).add (k * 2)) (.int .i64 out[k].1) := hcl.cell0 hkl rfl
    have hci : Cell h [mo] ((AI v).add (i * 2)) (.int .i64 l[i].1) := hR.any.cell0 hil rfl
    refine AF (Au rfl rfl) rfl rfl rfl rfl (AF (Au rfl rfl) rfl rfl rfl rfl (AF (Af (k) hcl.rd rfl underlying57 AR rfl rfl (by omega) (by omega)) rfl rfl rfl rfl (AF (oF Cc rfl) rfl rfl rfl rfl (AF (oL rfl underlying3 (hck)) rfl rfl rfl rfl (AF (Au rfl rfl) rfl rfl rfl rfl (AF (Au rfl rfl) rfl rfl rfl rfl (AF (Af (i) hR.rd.any rfl underlying57 AR rfl rfl (by omega) (by omega)) rfl rfl rfl rfl (AF (oF Cc rfl) rfl rfl rfl rfl (AF (oL rfl underlying3 (hci)) rfl rfl rfl rfl (AU (Qg (Ot rfl rfl rfl) rfl (Qm rfl (An ?_)))))))))))))
    refine Ax rfl (fun hs2 => ?_) (fun hs2 => ?_)
    ·refine Ai (Ad (Ah (Ab (Qm rfl (Qx (oA rfl) rfl (Qm rfl (Ak (Aj ?_))))))))
     exact Am (out.length - (k + 1)) _ (by omega) ⟨k + 1, rfl, rfl, rfl, rfl, by omega, fun j hj h => by
      rcases (by omega : j < k ∨ j = k) with h1 | rfl
      ·exact hlo j hj h1
      ·exact hs2⟩ Qs
    ·refine Aw (Aa (Aa (Ag ?_)))
     exact Ay _ ⟨k, rfl, rfl, rfl, hk, PV hk hlo fun _ => hs2⟩ Qs
   ·have hkl : k = out.length := by omega
    refine Ap rfl rfl rfl rfl rfl (Ap rfl rfl rfl rfl rfl (Ap rfl rfl rfl rfl rfl (Ap rfl rfl rfl rfl rfl (Ap rfl rfl rfl rfl rfl (Ap rfl rfl rfl rfl rfl (Ap rfl rfl rfl rfl rfl (Ap rfl rfl rfl rfl rfl (Ap rfl rfl rfl rfl rfl (Ap rfl rfl rfl rfl rfl (AU (Qk rfl (Qm rfl (An (AO rfl (Aw (Aa (Aa (Ag ?_))))))))))))))))))
    exact Ay _ ⟨k, rfl, rfl, rfl, hk, PV hk hlo fun h => absurd h (by omega)⟩ Qs
  ·obtain ⟨k, rfl, rfl, rfl, hk, hins⟩ := hI
   refine Ac (Bb 8 CN (by kernel_rfl) rfl (Wm rfl (Wm rfl (AM (Af (i) hR.rd.any rfl underlying57 AR rfl rfl (by omega) (by omega)) rfl rfl (AM (oG rfl underlying81 AR (hseg _)) rfl rfl ?_)))))
   refine Uw (Ea [_, _] rfl underlying57 AR rfl (by rfl) rfl rfl (by omega)) rfl rfl ?_
   refine Wm rfl (Wm rfl (AM (Du (k) hcl.rd rfl underlying57 AR rfl rfl (by omega) (by omega)) rfl rfl (Hz (fun g36 => ?_))))
   refine AJ 0 (OwnL.blk (g := g36) (el := 81) (F := cD) (l := [l[i]]) 1 Cj rfl (by decide)) ((hO.rd (h := h) (List.Mem.tail _ (List.Mem.head _))).sub_ hk (Nat.le_refl _)) rfl underlying57 AR rfl (by omega) rfl rfl rfl Do (by (try simp only [List.length_singleton, List.length_nil, List.length_append, List.length_take, List.length_drop, List.nil_append]); omega) (by (try simp only [List.length_singleton, List.length_nil, List.length_append, List.length_take, List.length_drop, List.nil_append]); omega) rfl rfl rfl (fun v6 m6 hO6 => ?_)
   have ov6 : v6.oneCell' = true := (hO6.rd (h := h) (ms := [m6]) (List.Mem.head _)).rd.one
   refine Qm rfl (GZ ?_)
   refine AE [] [] [] rfl underlying57 AR rfl (by omega) (by kernel_rfl) (by repeat (first | exact trivial | refine ⟨⟨by first | rfl | exact (hcl.rd).cells | exact Rd.cells ‹_› | exact (RdL.rd ‹_›).cells, rfl, rfl⟩, ?_⟩)) rfl rfl rfl rfl (fun g41 => ?_)
   refine Qm rfl (Qm rfl (Qx (E2 (k) hcl.rd rfl underlying57 AR rfl rfl (by omega) (by omega)) rfl ?_))
   refine AJ 0 (D0 g41 Cj) ((hO.rd (h := h) (List.Mem.tail _ (List.Mem.tail _ (List.Mem.head _)))).sub_ (Nat.zero_le _) hk) rfl underlying57 AR rfl (by omega) rfl rfl rfl Do (by (try simp only [List.length_singleton, List.length_nil, List.length_append, List.length_take, List.length_drop, List.nil_append]); omega) (by (try simp only [List.length_singleton, List.length_nil, List.length_append, List.length_take, List.length_drop, List.nil_append]); omega) rfl rfl rfl (fun v7 m7 hO7 => ?_)
   refine Qm rfl ?_
   refine AJ 0 hO7 (hO6.rd (h := h) (List.Mem.tail _ (List.Mem.head _))) rfl underlying57 AR rfl (by omega) rfl rfl rfl Do (by (try simp only [List.length_singleton, List.length_nil, List.length_append, List.length_take, List.length_drop, List.nil_append]); omega) (by (try simp only [List.length_singleton, List.length_nil, List.length_append, List.length_take, List.length_drop, List.nil_append]); omega) rfl rfl rfl (fun v8 m8 hO8 => ?_)
   have he : [] ++ (out.drop 0).take (k - 0) ++ ([l[i]] ++ (out.drop k).take (out.length - k)) = Cp (l.take (i + 1)) := by
    rw [htk, hins, List.drop_zero, Nat.sub_zero, List.take_of_length_le (l := out.drop k) (by rw [List.length_drop]; omega)]; rfl
   rw [he] at hO8
   refine Qm rfl (Ak (Aj (Ad (Ab (Qm rfl (Qx (oA rfl) rfl (Qm rfl (Ak ?_))))))))
   refine Gx (List.perm_append_comm (l₁ := [m8]) (l₂ := [m6, mo])) (AS (AS ?_))
   exact Am (l.length - (i + 1)) _ (by omega) ⟨i + 1, v8, m8, rfl, rfl, rfl, rfl, by omega, hO8⟩ Qs
 ·have hil : i = l.length := by omega
  rw [hil, List.take_length] at hO
  refine Aw (Aa (Aa (Ag (Ad (Az (Qm rfl (Qm rfl (An (Aq ?_)))))))))
  exact As rfl rfl (⟨rfl, mo, rfl, hO⟩)
open Go.Lin Go.Sort Go.Srt
theorem Gb (i j : Nat) (h : i + j < 4611686018427387904) : IntKind.i64.wrap (((i + j) % ((2 : Int) ^ IntKind.u64.bits).natAbs / 2 ^ 1 : Nat) : Int) = (((i + j) / 2 : Nat) : Int) := by
 have e1 : (2 ^ IntKind.u64.bits : Int).natAbs = 18446744073709551616 := by decide
 rw [e1, Nat.mod_eq_of_lt (by omega)]
 show IntKind.i64.wrap (((i + j) / 2 : Nat) : Int) = _
 unfold IntKind.wrap
 simp [IntKind.bits, IntKind.signed]
 omega
theorem D7 {k x a : Nat} (hx : k ∣ x) (ha : k ∣ a) (h : x < a) : x + k ≤ a := by
 obtain ⟨p, rfl⟩ := hx
 obtain ⟨q, rfl⟩ := ha
 have : p < q := Nat.lt_of_mul_lt_mul_left h
 calc k * p + k = k * (p + 1) := by rw [Nat.mul_add, Nat.mul_one]
  _ ≤ k * q := Nat.mul_le_mul_left k this
def c3 (x y : Int) : Int := if x < y then -1 else if y < x then 1 else 0
theorem I7 (x y : Int) : c3 x y < 0 ↔ x < y := by
 unfold c3
 repeat' split
 all_goals omega
theorem Qj (x : Int) (h : Hp) (ms : List Hp) : FnV Tryz.prog 102 #[.int .i64 x] h ms (.bool false) := by
 refine IV ?_ ms
 refine Av func102 ntmps102 rfl rfl (fun w0 hw0 => ?_)
 simp only [A5]
 refine Az (Qm rfl (BG (Qm rfl (Qm rfl (Qm rfl (Qm rfl (An (Aq ?_))))))))
 exact As rfl rfl (by simp)
theorem Fq (x y : Int) (h : Hp) (ms : List Hp) : FnV Tryz.prog 74 #[.int .i64 x, .int .i64 y] h ms (.int .i64 (c3 x y)) := by
 refine IV ?_ ms
 refine Av func74 ntmps74 rfl rfl (fun w0 hw0 => ?_)
 simp only [A5]
 refine Az (Qm rfl (BG (Qm rfl (Qx (AG rfl call102 rfl (Qj _ _ _)) rfl (Qm rfl (BG (Qm rfl (Qx (AG rfl call102 rfl (Qj _ _ _)) rfl (Qm rfl (An (Ac (Az (Qm rfl (An (AO rfl (Ai (Ad (Ac (Az (Qm rfl (An (AO rfl (Ai (Ad (Ac (Az (Qm rfl (Qm rfl (Qm rfl (An ?_))))))))))))))))))))))))))))))
 refine Ax rfl (fun h1 => ?_) (fun h1 => ?_)
 ·refine Ac (Ab (Qm rfl (An (Aq (Ae ?_)))))
  exact As rfl rfl (by unfold c3; rw [if_pos h1])
 ·refine Ai (Ad (Ac (Az (Qm rfl (Qm rfl (Qm rfl (An ?_)))))))
  refine Ax rfl (fun h2 => ?_) (fun h2 => ?_)
  ·refine Ac (Ab (Qm rfl (An (Aq (Ae ?_)))))
   exact As rfl rfl (by unfold c3; rw [if_neg h1, if_pos h2])
  ·refine Ai (Ad (Az (Qm rfl (An (Aq ?_)))))
   exact As rfl rfl (by unfold c3; rw [if_neg h1, if_neg h2])
structure CeO where
 c : Cl
 v : Value
 one : v.oneCell' = true
instance : Inhabited CeO := ⟨⟨default, .slice none 0 0, rfl⟩⟩
def KM (a : CeO) : List Value := [.int .i64 a.c.id, .int .i64 a.c.dim, a.v]
theorem LU : ∀ a, (KM a).length = 3 := fun _ => rfl
theorem P7 (s : CeO) : ∀ c ∈ KM s, c.oneCell' = true := fun c hc => by
 simp only [KM, List.mem_cons, List.not_mem_nil, or_false] at hc
 rcases hc with rfl | rfl | rfl
 ·rfl
 ·rfl
 ·exact s.one
abbrev HT := Int × Int
def Cf (x y : CeO) : Bool := decide (c3 x.c.id y.c.id < 0)
def Ca (x y : HT) : Bool := decide (c3 x.1 y.1 < 0)
theorem Hs : SWO Cf := by
 refine ⟨fun x => ?_, fun x y z h1 h2 => ?_, fun x y z h1 h2 => ?_⟩
 ·unfold Cf; rw [decide_eq_false_iff_not, I7]; omega
 ·unfold Cf at *; rw [decide_eq_true_iff, I7] at *; omega
 ·unfold Cf at *; rw [decide_eq_false_iff_not, I7] at *; omega
theorem HC : SWO Ca := by
 refine ⟨fun x => ?_, fun x y z h1 h2 => ?_, fun x y z h1 h2 => ?_⟩
 ·unfold Ca; rw [decide_eq_false_iff_not, I7]; omega
 ·unfold Ca at *; rw [decide_eq_true_iff, I7] at *; omega
 ·unfold Ca at *; rw [decide_eq_false_iff_not, I7] at *; omega
def Oi (g : Nat) : Value := .func (.func 113) #[] #[.pointer (some ⟨g, 0, none⟩)]
def Oh (g : Nat) : Value := .func (.func 116) #[] #[.pointer (some ⟨g, 0, none⟩)]
def Yv : Value := .func (.func 94) #[] #[]
def Yq : Value := .func (.func 96) #[] #[]
def QX (h : Hp) (g : Nat) : Prop := ∀ ms, Cell h ms (⟨g, 0, none⟩ : Addr) Yv
def Q1 (h : Hp) (g : Nat) : Prop := ∀ ms, Cell h ms (⟨g, 0, none⟩ : Addr) Yq
theorem V6 (x : CeO) (h : Hp) (ms : List Hp) : FnV Tryz.prog 94 #[.agg (KM x).toArray] h ms (.int .i64 x.c.id) := by
 refine IV ?_ ms
 have o1 := x.one
 show FnT _ _ #[.agg #[.int .i64 x.c.id, .int .i64 x.c.dim, x.v]] _ _ _
 refine Av func94 ntmps94 rfl rfl (fun w0 hw0 => ?_)
 simp only [A5]
 refine Az ?_
 refine A8 [_, _, _] rfl rfl (by rfl) rfl rfl rfl (fun g1 => ?_)
 refine Qm rfl (BG (Qf Bo rfl (Ql rfl underlying3 (Cell.blk 0 rfl rfl) (Qm rfl (An (Aq ?_))))))
 exact As rfl rfl (rfl)
theorem V5 (x : HT) (h : Hp) (ms : List Hp) : FnV Tryz.prog 96 #[.agg (cD x).toArray] h ms (.int .i64 x.1) := by
 refine IV ?_ ms
 show FnT _ _ #[.agg #[.int .i64 x.1, .int .i64 x.2]] _ _ _
 refine Av func96 ntmps96 rfl rfl (fun w0 hw0 => ?_)
 simp only [A5]
 refine Az ?_
 refine A8 [_, _] rfl rfl (by rfl) rfl rfl rfl (fun g1 => ?_)
 refine Qm rfl (BG (Qf Cc rfl (Ql rfl underlying3 (Cell.blk 0 rfl rfl) (Qm rfl (An (Aq ?_))))))
 exact As rfl rfl (rfl)
theorem ME (x y : CeO) (h : Hp) (g : Nat) (hg : QX h g) (ms : List Hp) : FnV Tryz.prog 113 #[.agg (KM x).toArray, .agg (KM y).toArray, .pointer (some ⟨g, 0, none⟩)] h ms (.int .i64 (c3 x.c.id y.c.id)) := by
 refine IV ?_ ms
 have o1 := x.one
 have o2 := y.one
 show FnT _ _ #[.agg #[.int .i64 x.c.id, .int .i64 x.c.dim, x.v], .agg #[.int .i64 y.c.id, .int .i64 y.c.dim, y.v], .pointer (some ⟨g, 0, none⟩)] _ _ _
 refine Av func113 ntmps113 rfl rfl (fun w0 hw0 => ?_)
 simp only [A5]
 refine Az ?_
 refine A8 [_, _, _] rfl rfl (by rfl) rfl rfl rfl (fun g3 => ?_)
 refine A8 [_, _, _] rfl rfl (by rfl) rfl rfl rfl (fun g4 => ?_)
 refine Qm rfl (An (AA fun h1 l1 hG4 => (AA fun h2 l2 hG3 => ?_)))
 have hG4 := hG4.le l2
 have hgk : ∀ ms, Cell h2 ms (⟨g, 0, none⟩ : Addr) Yv := fun ms => (hg ms).le (Hp.le_trans l1 l2)
 refine Ac (Bb 5 CN (by kernel_rfl) rfl (Wl rfl underlying142 (hgk _) (AM (oG rfl underlying59 AH (Seg.any hG3)) rfl rfl (AM (B0 rfl rfl call94 rfl ((V6 x _ _))) rfl rfl (Wl rfl underlying142 (hgk _) (AM (oG rfl underlying59 AH (Seg.any hG4)) rfl rfl (AU (Qx (B0 rfl rfl call94 rfl ((V6 y _ _))) rfl (Qx (AG rfl call74 rfl (Fq _ _ _ _)) rfl (Qm rfl (An (Aq ?_))))))))))))
 exact As rfl rfl (rfl)
theorem LY (x y : HT) (h : Hp) (g : Nat) (hg : Q1 h g) (ms : List Hp) : FnV Tryz.prog 116 #[.agg (cD x).toArray, .agg (cD y).toArray, .pointer (some ⟨g, 0, none⟩)] h ms (.int .i64 (c3 x.1 y.1)) := by
 refine IV ?_ ms
 show FnT _ _ #[.agg #[.int .i64 x.1, .int .i64 x.2], .agg #[.int .i64 y.1, .int .i64 y.2], .pointer (some ⟨g, 0, none⟩)] _ _ _
 refine Av func116 ntmps116 rfl rfl (fun w0 hw0 => ?_)
 simp only [A5]
 refine Az ?_
 refine A8 [_, _] rfl rfl (by rfl) rfl rfl rfl (fun g3 => ?_)
 refine A8 [_, _] rfl rfl (by rfl) rfl rfl rfl (fun g4 => ?_)
 refine Qm rfl (An (AA fun h1 l1 hG4 => (AA fun h2 l2 hG3 => ?_)))
 have hG4 := hG4.le l2
 have hgk : ∀ ms, Cell h2 ms (⟨g, 0, none⟩ : Addr) Yq := fun ms => (hg ms).le (Hp.le_trans l1 l2)
 refine Ac (Bb 5 CN (by kernel_rfl) rfl (Wl rfl underlying144 (hgk _) (AM (oG rfl underlying81 AR (Seg.any hG3)) rfl rfl (AM (B0 rfl rfl call96 rfl ((V5 x _ _))) rfl rfl (Wl rfl underlying144 (hgk _) (AM (oG rfl underlying81 AR (Seg.any hG4)) rfl rfl (AU (Qx (B0 rfl rfl call96 rfl ((V5 y _ _))) rfl (Qx (AG rfl call74 rfl (Fq _ _ _ _)) rfl (Qm rfl (An (Aq ?_))))))))))))
 exact As rfl rfl (rfl)
variable {m h : Hp} {v : Value} {d : Array CeO} {ms : List Hp}
abbrev OSC (m : Hp) (v : Value) (d : Array CeO) : Prop := OwnL KM 3 59 m v d.toList
theorem OSC.rd (O : OSC m v d) (hm : m ∈ ms) : Rd h ms v 3 d.size (d.toList.flatMap KM) := by
 have := (OwnL.rd O hm (h := h)).rd; rwa [Array.length_toList] at this
theorem OSC.get (O : OSC m v d) (hm : m ∈ ms) {j : Nat} (hj : j < d.size) : Seg h ms ((AI v).add (j * 3)) (KM d[j]!) := by
 have := (OwnL.rd O hm (h := h)).seg (j := j) (by simpa using hj)
 simpa [hj] using this
theorem CT {e : Entry} {Q : Exit → Act → World → Prop} {ops : Array Oper} {rest : List Oper} {o : Oper} {s : Ar} {t : TypeId} {x y : Operand} {z : Value} {bytes : Nat} {a : CeO} (i j : Nat) (O : OSC m v d) (ho : o.op = .store t x y) (hs : Elem e.P t 3 z bytes) (hx : ev s x = some (.pointer (some ((AI v).add (j * 3))))) (hy : ev s y = some (.agg (KM a).toArray))
  (hm : ms[i]? = some m) (hj : j < d.size) (hd : o.dst = none) (hg : o.guard = none)
  (K : ∀ m', (d.setIfInBounds j a).size = d.size → OSC m' v (d.setIfInBounds j a) → WL e ops Q rest s h (ms.set i m')) : WL e ops Q (o :: rest) s h ms :=
 JZ i j a O ho hs hx hy rfl (P7 a) hm (by simpa using hj) hd hg fun m' O' => K m' (by simp) (by
  show OwnL KM 3 59 m' v (d.setIfInBounds j a).toList
  rw [Array.toList_setIfInBounds]; exact O')
theorem E4 (d : Array CeO) (v cv : Value) (m : Hp) (hO : OSC m v d) (a b n lo hi : Nat) (hab : a + n ≤ b) (hb : b + n ≤ d.size) (hsz : d.size ≤ 1000000) (hlo : lo ≤ a) (hhi : b + n ≤ hi) (hhs : hi ≤ d.size) (h : Hp) {a' b' n' : Int} (ea : a' = a) (eb : b' = b) (en : n' = n) :
  FnT Tryz.prog 141 #[v, .int .i64 a', .int .i64 b', .int .i64 n', cv] h [m] (fun _ h' ms' => h = h' ∧ ∃ m' d', ms' = [m'] ∧ OSC m' v d' ∧ SwR d d' a b n ∧ PermIn lo hi d d') := by
 subst ea eb en
 refine Av func141 ntmps141 rfl rfl (fun w0 hw0 => ?_)
 simp only [A5]
 refine Az (Qm rfl (An (Ah ?_)))
 refine AD (fun q s h' ms' => ∃ (i : Nat) (d0 : Array CeO) (m : Hp), q = n - i ∧ s = [(0, v), (1, .int .i64 a), (2, .int .i64 b), (3, .int .i64 n), (10, .int .i64 i)] ∧ h = h' ∧ ms' = [m] ∧ i ≤ n ∧ OSC m v d0 ∧ SwR d d0 a b i ∧ PermIn lo hi d d0)
  (n - 0) _ ⟨0, d, m, rfl, rfl, rfl, rfl, by omega, hO, SwR.start d a b, permIn_refl d lo hi⟩ Qs ?_
 rintro q s h' ms' ⟨i, d0, m0, rfl, rfl, rfl, rfl, hi2, hO0, S, P⟩
 have hds := S.1
 refine Ac (Az (Qm rfl (Qm rfl (Qm rfl (An ?_)))))
 refine Ax rfl (fun hlt => ?_) (fun hlt => ?_)
 ·refine Ai (Ad (Ac (Ah (CS 20 [false, false, false, false, true, true, true, true] CN (by kernel_rfl) (by kernel_rfl) (by kernel_rfl) (Dq rfl rfl rfl rfl (BM rfl rfl) (Dq rfl rfl rfl rfl (BM rfl rfl) (Dq rfl rfl rfl rfl (BM rfl rfl) (Dq rfl rfl rfl rfl (L9 rfl rfl rfl (by omega)) ?_))))))))
  refine ⟨rfl, ?_⟩
  simp only [DI, zap, List.cons_append, List.nil_append, List.take_succ_cons, List.take_zero, List.drop_succ_cons, List.drop_zero, List.take_nil, List.drop_nil]
  refine Wm rfl (Wm rfl (Wm rfl (AM (oA rfl) rfl rfl (Dl rfl rfl rfl (Dl rfl rfl rfl (Dl rfl rfl rfl (Dl rfl rfl rfl (Wm rfl (Wm rfl (Wm rfl (AM (oA rfl) rfl rfl (AM (Af (b + i) (hO0.rd (.head _)) rfl underlying27 AH rfl rfl (by omega) (by omega)) rfl rfl (AM (oG rfl underlying59 AH (hO0.get (.head _) (by omega))) rfl rfl (Wm rfl (Wm rfl (Wm rfl (AM (oA rfl) rfl rfl (AM (Af (a + i) (hO0.rd (.head _)) rfl underlying27 AH rfl rfl (by omega) (by omega)) rfl rfl (AM (oG rfl underlying59 AH (hO0.get (.head _) (by omega))) rfl rfl (AU (Qx (Af (a + i) (hO0.rd (.head _)) rfl underlying27 AH rfl rfl (by omega) (by omega)) rfl (CT 0 _ hO0 rfl AH rfl rfl rfl (by omega) rfl rfl (fun mhO1 hzhO1 hO1 => Qx (Af (b + i) (hO1.rd (.head _)) rfl underlying27 AH rfl rfl (by omega) (by omega)) rfl (CT 0 _ hO1 rfl AH rfl rfl rfl (by omega) rfl rfl (fun mhO2 hzhO2 hO2 => Ak (Gj (Aj (Ad (Ab (Qm rfl (Qx (oA rfl) rfl (Qm rfl (Ak ?_)))))))))))))))))))))))))))))))))
  refine Am (n - (i + 1)) _ (by omega) ⟨i + 1, _, mhO2, rfl, rfl, rfl, rfl, by omega, hO2, S.step (by omega) (by omega), permIn_trans _ _ _ _ _ P (swp_permIn d0 lo hi (a + i) (b + i) (by omega) (by omega) (by omega) (by omega) (by omega))⟩ Qs
 ·obtain rfl : i = n := by omega
  refine Aw (Aa (Aa (Ag ?_)))
  exact BL rfl (⟨rfl, m0, d0, rfl, hO0, S, P⟩)
theorem O5 (d : Array CeO) (v cv : Value) (m : Hp) (hO : OSC m v d) (a t b lo hi : Nat) (hat : a < t) (htb : t < b) (hb : b ≤ d.size) (hsz : d.size ≤ 1000000) (hlo : lo ≤ a) (hhi : b ≤ hi) (hhs : hi ≤ d.size) (h : Hp) {a' t' b' : Int} (ea : a' = a) (et : t' = t) (eb : b' = b) :
  FnT Tryz.prog 139 #[v, .int .i64 a', .int .i64 t', .int .i64 b', cv] h [m] (fun _ h' ms' => h = h' ∧ ∃ m' d', ms' = [m'] ∧ OSC m' v d' ∧ (∀ k, d'[k]! = EH d a t b k) ∧ PermIn lo hi d d') := by
 subst ea et eb
 refine Av func139 ntmps139 rfl rfl (fun w0 hw0 => ?_)
 simp only [A5]
 refine Az (Qm rfl (Qm rfl (Qx (oS rfl) rfl (Qm rfl (BG (Qm rfl (Qm rfl (Qx (oS rfl) rfl (Qm rfl (An (Ac (Ah ?_))))))))))))
 refine AD (fun q s h' ms' => ∃ (i j : Nat) (x y : Int) (d0 : Array CeO) (m : Hp), q = i + j ∧ s = [(0, v), (2, .int .i64 t), (4, cv), (10, .int .i64 x), (11, .int .i64 y)] ∧ h = h' ∧ ms' = [m] ∧ x = i ∧ y = j ∧ 0 < i ∧ 0 < j ∧ a + i ≤ t ∧ t + j ≤ b ∧ OSC m v d0 ∧ (∀ k, EH d0 (t - i) t (t + j) k = EH d a t b k) ∧ PermIn lo hi d d0)
  ((t - a) + (b - t)) _ ⟨t - a, b - t, (t : Int) - a, (b : Int) - t, d, m, rfl, rfl, rfl, rfl, by omega, by omega, by omega, by omega, by omega, by omega, hO, fun k => by rw [show t - (t - a) = a by omega, show t + (b - t) = b by omega], permIn_refl d lo hi⟩ Qs ?_
 rintro q s h' ms' ⟨i, j, x, y, d0, m0, rfl, rfl, rfl, rfl, rfl, rfl, hi0, hj0, hai, hjb, hO0, hR, P⟩
 have hds := P.1
 refine Ac (Az (Qm rfl (Qm rfl (Qm rfl (An ?_)))))
 refine Ax rfl (fun hne => ?_) (fun hne => ?_)
 ·refine Ai (Ad (Ah (Az (Qm rfl (Qm rfl (Qm rfl (An ?_)))))))
  refine Ax rfl (fun hgt => ?_) (fun hgt => ?_)
  ·refine Ac (Ab (Qm rfl (Qm rfl (Qm rfl (Qx (oS rfl) rfl (Qm rfl (Qm rfl (Qm rfl (Bg (pre := [m0]) rfl call141 rfl (E4 d0 v cv m0 hO0 (t - i) t j lo hi (by omega) (by omega) (by omega) (by omega) (by omega) (by omega) h (by omega) rfl rfl) rfl rfl rfl rfl (fun r h1 ms1 l1 hF => ?_))))))))))
   obtain ⟨rfl, m1, d1, rfl, hO1, S, P1⟩ := hF
   refine GZ (Qm rfl (Qm rfl (Qx (oS rfl) rfl (Qm rfl (Ak (Aj ?_))))))
   refine Am ((i - j) + j) _ (by omega) ⟨i - j, j, (i : Int) - j, j, d1, m1, rfl, rfl, rfl, rfl, by omega, rfl, by omega, by omega, by omega, by omega, hO1, fun k => (NG (by omega) (by omega) S k).trans (hR k), permIn_trans _ _ _ _ _ P P1⟩ Qs
  ·refine Ac (Ab (Qm rfl (Qm rfl (Qm rfl (Qx (oS rfl) rfl (Qm rfl (Qm rfl (Qx (oA rfl) rfl (Qm rfl (Qx (oS rfl) rfl (Qm rfl (Qm rfl (Bg (pre := [m0]) rfl call141 rfl (E4 d0 v cv m0 hO0 (t - i) (t + j - i) i lo hi (by omega) (by omega) (by omega) (by omega) (by omega) (by omega) h (by omega) (by omega) rfl) rfl rfl rfl rfl (fun r h1 ms1 l1 hF => ?_))))))))))))))
   obtain ⟨rfl, m1, d1, rfl, hO1, S, P1⟩ := hF
   refine GZ (Qm rfl (Qm rfl (Qx (oS rfl) rfl (Qm rfl (Ak (Aj ?_))))))
   refine Am (i + (j - i)) _ (by omega) ⟨i, j - i, i, (j : Int) - i, d1, m1, rfl, rfl, rfl, rfl, rfl, by omega, by omega, by omega, by omega, by omega, hO1, fun k => (Kc (by omega) (by omega) S k).trans (hR k), permIn_trans _ _ _ _ _ P P1⟩ Qs
 ·obtain rfl : i = j := by omega
  refine Aw (Aa (Aa (Ag (Ad (Ab (Qm rfl (Qm rfl (Qm rfl (Qx (oS rfl) rfl (Qm rfl (Qm rfl (Qm rfl (Bg (pre := [m0]) rfl call141 rfl (E4 d0 v cv m0 hO0 (t - i) t i lo hi (by omega) (by omega) (by omega) (by omega) (by omega) (by omega) h (by omega) rfl rfl) rfl rfl rfl rfl (fun r h1 ms1 l1 hF => ?_))))))))))))))
  obtain ⟨rfl, m1, d1, rfl, hO1, S, P1⟩ := hF
  refine Ak ?_
  exact BL rfl (⟨rfl, m1, d1, rfl, hO1, fun k => (NO (by omega) S k).trans (hR k), permIn_trans _ _ _ _ _ P P1⟩)
end Go.Proofs.YtodheebhahdepaaGreat

namespace Go.Proofs.YtodheebhahdepaaGreat
open Go.Proofs.Tryz
open Go.Eng Go.RowKit Go.Lin Go.Sort Go.Srt
theorem No (d : Array CeO) (v : Value) (m : Hp) (hO : OSC m v d) (a b : Nat) (hab : a ≤ b) (hb : b ≤ d.size) (hsz : d.size ≤ 1000000) (h : Hp) (g : Nat) (hg : QX h g) {a' b' : Int} (ea : a' = a) (eb : b' = b) :
  FnT Tryz.prog 120 #[v, .int .i64 a', .int .i64 b', (Oi g)] h [m] (fun _ h' ms' => h = h' ∧ ∃ m' d', ms' = [m'] ∧ OSC m' v d' ∧ PermIn a b d d' ∧ SortedIn Cf a b d') := by
 subst ea eb
 have hfin := insertionSort_holds (lt := Cf) Hs d a b hab hb
 refine Av func120 ntmps120 rfl rfl (fun w0 hw0 => ?_)
 simp only [A5]
 refine Az (Qm rfl (Qx (oA rfl) rfl (Qm rfl (An (Ah ?_)))))
 refine AD (fun n s h' ms' => ∃ (i : Nat) (z : Int) (d' : Array CeO) (m : Hp), n = b - i ∧ s = [(0, v), (1, .int .i64 a), (2, .int .i64 b), (3, (Oi g)), (8, .int .i64 z)] ∧ h = h' ∧ ms' = [m] ∧ z = i ∧ a < i ∧ i ≤ 4611686018427387905 ∧ OSC m v d' ∧ d'.size = d.size ∧ insOuter Cf a b i d' = insertionSort Cf d a b)
  _ _ ⟨a + 1, (a : Int) + 1, d, m, rfl, rfl, rfl, rfl, by omega, by omega, by omega, hO, rfl, rfl⟩ Qs ?_
 rintro n s h' ms' ⟨i, z, d', m, rfl, rfl, rfl, rfl, hz, hai, hi, hO, hds, hR⟩
 refine Ac (Az (Qm rfl (Qm rfl (Qm rfl (An ?_)))))
 refine Ax rfl (fun hlt => ?_) (fun hlt => ?_)
 ·refine Ai (Ad (Ac (Ah (Az (Qm rfl (Qm rfl (An (Ah ?_))))))))
  refine AD (fun n s h' ms' => ∃ (j : Nat) (y : Int) (d' : Array CeO) (m : Hp), j = n ∧ s = [(0, v), (1, .int .i64 a), (2, .int .i64 b), (3, (Oi g)), (8, .int .i64 z), (9, .int .i64 y)] ∧ h = h' ∧ ms' = [m] ∧ y = j ∧ j ≤ i ∧ OSC m v d' ∧ d'.size = d.size ∧ insOuter Cf a b (i + 1) (insInner Cf a j d') = insertionSort Cf d a b)
   _ _ ⟨i, z, d', m, rfl, rfl, rfl, rfl, hz, by omega, hO, hds, by rw [← hR]; conv => rhs; unfold insOuter; rw [if_pos (by omega)]⟩ Qs ?_
  rintro n s h' ms' ⟨j, y, d1, m1, rfl, rfl, rfl, rfl, hy, hji, hO1, hds1, hR1⟩
  refine Ac (Ac (Bb 14 CN (by kernel_rfl) rfl (Wm rfl (Wm rfl (Wm rfl (Wm rfl ?_))))))
  refine BV (t := 21) rfl (fun hja => ?_) (fun hja => ?_)
  ·refine AF (Au rfl rfl) rfl rfl rfl rfl (AF (Au rfl rfl) rfl rfl rfl rfl (AF (Au rfl rfl) rfl rfl rfl rfl (AF (Af (j) (hO1.rd (.head _)) rfl underlying27 AH rfl rfl (by omega) (by omega)) rfl rfl rfl rfl (AF (oG rfl underlying59 AH (hO1.get (.head _) (by omega))) rfl rfl rfl rfl (AF (Au rfl rfl) rfl rfl rfl rfl (AF (Au rfl rfl) rfl rfl rfl rfl (AF (oS rfl) rfl rfl rfl rfl (AF (Af (j - 1) (hO1.rd (.head _)) rfl underlying27 AH rfl rfl (by omega) (by omega)) rfl rfl rfl rfl (AF (oG rfl underlying59 AH (hO1.get (.head _) (by omega))) rfl rfl rfl rfl (AU (Qg (B0 rfl rfl call113 rfl (ME _ _ _ g hg _)) rfl (Qg (C0 rfl rfl rfl) rfl (Qm rfl (An ?_))))))))))))))
   refine Bu rfl (fun hl => ?_) (fun hl => ?_)
   ·refine Ai (Ad (Ac (Ah (CS 14 [false, false, true, true, true] CN (by kernel_rfl) (by kernel_rfl) (by kernel_rfl) (Dq rfl rfl rfl rfl (BM rfl rfl) (Dq rfl rfl rfl rfl (BM rfl rfl) (Dq rfl rfl rfl rfl (Ma rfl rfl rfl (by omega)) ?_)))))))
    refine ⟨rfl, ?_⟩
    simp only [DI, zap, List.cons_append, List.nil_append, List.take_succ_cons, List.take_zero, List.drop_succ_cons, List.drop_zero, List.take_nil, List.drop_nil]
    refine Wm rfl (Wm rfl (Dl rfl rfl rfl (Dl rfl rfl rfl (Dl rfl rfl rfl (Wm rfl (Wm rfl (AM (oS rfl) rfl rfl (AM (Af (j - 1) (hO1.rd (.head _)) rfl underlying27 AH rfl rfl (by omega) (by omega)) rfl rfl (AM (oG rfl underlying59 AH (hO1.get (.head _) (by omega))) rfl rfl (Wm rfl (Wm rfl (AM (Af (j) (hO1.rd (.head _)) rfl underlying27 AH rfl rfl (by omega) (by omega)) rfl rfl (AM (oG rfl underlying59 AH (hO1.get (.head _) (by omega))) rfl rfl (AU (Qx (Af (j) (hO1.rd (.head _)) rfl underlying27 AH rfl rfl (by omega) (by omega)) rfl (CT 0 _ hO1 rfl AH rfl rfl rfl (by omega) rfl rfl (fun mhO2 hzhO2 hO2 => Qx (Af (j - 1) (hO2.rd (.head _)) rfl underlying27 AH rfl rfl (by omega) (by omega)) rfl (CT 0 _ hO2 rfl AH rfl rfl rfl (by omega) rfl rfl (fun mhO3 hzhO3 hO3 => Ak (Gj (Aj (Ad (Ab (Qm rfl (Qx (oS rfl) rfl (Qm rfl (Ak ?_)))))))))))))))))))))))))))
    obtain ⟨j', rfl⟩ : ∃ j', j = j' + 1 := ⟨j - 1, by omega⟩
    refine Am j' _ (by omega) ⟨j', y - 1, _, mhO3, rfl, rfl, rfl, rfl, by omega, by omega, hO3, by simp [hds1], ?_⟩ Qs
    rw [← hR1]
    conv => rhs; unfold insInner
    rw [if_pos (by rw [Bool.and_eq_true]; exact ⟨decide_eq_true (by omega), hl⟩)]
    rfl
   ·refine Aw (Aa (Aa (Ag (Aj (Ad (Ab (Qm rfl (Qx (oA rfl) rfl (Qm rfl (Ak ?_))))))))))
    refine Am (b - (i + 1)) _ (by omega) ⟨i + 1, z + 1, d1, m1, rfl, rfl, rfl, rfl, by omega, by omega, by omega, hO1, hds1, ?_⟩ Qs
    rw [← hR1]
    obtain ⟨j', rfl⟩ : ∃ j', j = j' + 1 := ⟨j - 1, by omega⟩
    conv => rhs; unfold insInner
    rw [if_neg (by rw [Bool.and_eq_true]; rintro ⟨_, h2⟩; exact absurd (hl.symm.trans h2) (by decide))]
  ·refine Ap rfl rfl rfl rfl rfl (Ap rfl rfl rfl rfl rfl (Ap rfl rfl rfl rfl rfl (Ap rfl rfl rfl rfl rfl (Ap rfl rfl rfl rfl rfl (Ap rfl rfl rfl rfl rfl (Ap rfl rfl rfl rfl rfl (Ap rfl rfl rfl rfl rfl (Ap rfl rfl rfl rfl rfl (Ap rfl rfl rfl rfl rfl (AU (Qk rfl (Qk rfl (Qm rfl (An (AO rfl (Aw (Aa (Aa (Ag (Aj (Ad (Ab (Qm rfl (Qx (oA rfl) rfl (Qm rfl (Ak ?_))))))))))))))))))))))))))
   refine Am (b - (i + 1)) _ (by omega) ⟨i + 1, z + 1, d1, m1, rfl, rfl, rfl, rfl, by omega, by omega, by omega, hO1, hds1, ?_⟩ Qs
   rw [← hR1]
   cases j with
   | zero => rfl
   | succ j' =>
    conv => rhs; unfold insInner
    rw [if_neg (by simp; intro h'; omega)]
 ·refine Aw (Aa (Aa (Ag ?_)))
  exact BL rfl (⟨rfl, m, insertionSort Cf d a b, rfl, by rw [← hR]; unfold insOuter; rw [if_neg (by omega)]; exact hO, hfin.1, hfin.2⟩)
theorem Hv : ∀ (N : Nat) (d : Array CeO) (v : Value) (m : Hp) (hO : OSC m v d) (a t b : Nat) (hN : b - a ≤ N) (hat : a < t) (htb : t < b) (hb : b ≤ d.size) (hsz : d.size ≤ 1000000) (hA : SortedIn Cf a t d) (hB : SortedIn Cf t b d) (h : Hp) (g : Nat) (hg : QX h g) {a' t' b' : Int} (ea : a' = a) (et : t' = t) (eb : b' = b),
  FnT Tryz.prog 135 #[v, .int .i64 a', .int .i64 t', .int .i64 b', (Oi g)] h [m] (fun _ h' ms' => h = h' ∧ ∃ m' d', ms' = [m'] ∧ OSC m' v d' ∧ PermIn a b d d' ∧ SortedIn Cf a b d') := by
 intro N
 induction N with
 | zero => intro d v m hO a t b hN hat htb; omega
 | succ N ih =>
 intro d v m hO a t b hN hat htb hb hsz hA hB h g hg a' t' b' ea et eb
 subst ea et eb
 refine Av func135 ntmps135 rfl rfl (fun w0 hw0 => ?_)
 simp only [A5]
 refine Ac (Az (Qm rfl (Qm rfl (Qx (oS rfl) rfl (Qm rfl (An ?_))))))
 refine Ax rfl (fun h1 => ?_) (fun h1 => ?_)
 ·-- one element on the left
  obtain rfl : t = a + 1 := by omega
  refine Az (Qm rfl (Qm rfl (BG (Qm rfl (Qm rfl (An (Ac (Ah ?_))))))))
  refine AD (fun n s h' ms' => ∃ (i j : Nat), n = j - i ∧ s = [(0, v), (1, .int .i64 a), (4, (Oi g)), (10, .int .i64 i), (11, .int .i64 j)] ∧ h = h' ∧ ms' = [m] ∧ a + 1 ≤ i ∧ i ≤ j ∧ j ≤ b ∧ (i = a + 1 ∨ Cf d[i - 1]! d[a]! = true) ∧ (j = b ∨ Cf d[j]! d[a]! = false))
   (b - (a + 1)) _ ⟨a + 1, b, rfl, rfl, rfl, rfl, by omega, by omega, by omega, .inl rfl, .inl rfl⟩ Qs ?_
  rintro n s h' ms' ⟨i, j, rfl, rfl, rfl, rfl, hi, hij, hj, c1, c2⟩
  refine Ac (Az (Qm rfl (Qm rfl (Qm rfl (An ?_)))))
  refine Ax rfl (fun hlt => ?_) (fun hlt => ?_)
  ·refine Ai (Ad (Ah (Az (Qm rfl (Qm rfl (Qx (oA rfl) rfl (Qx (B3 rfl underlying3 underlying106 rfl) rfl (Qx (EW (n := 1) rfl rfl rfl (by omega)) rfl (Qx (B3 rfl underlying106 underlying3 rfl) rfl (Qm rfl (An ?_)))))))))))
   rw [Gb i j (by omega)]
   refine Ac (Bb 9 CN (by kernel_rfl) rfl (Wm rfl (Wm rfl (Wm rfl (AM (Af ((i + j) / 2) (hO.rd (.head _)) rfl underlying27 AH rfl rfl (by omega) (by omega)) rfl rfl (AM (oG rfl underlying59 AH (hO.get (.head _) (by omega))) rfl rfl (Wm rfl (Wm rfl (AM (Af (a) (hO.rd (.head _)) rfl underlying27 AH rfl rfl (by omega) (by omega)) rfl rfl (AM (oG rfl underlying59 AH (hO.get (.head _) (by omega))) rfl rfl (AU (Qx (B0 rfl rfl call113 rfl (ME _ _ _ g hg _)) rfl (Qm rfl (An ?_))))))))))))))
   refine Bu rfl (fun hl => ?_) (fun hl => ?_)
   ·refine Ab (Qm rfl (Qx (oA rfl) rfl (Qm rfl (Ak (Aj ?_)))))
    exact Am (j - ((i + j) / 2 + 1)) _ (by omega) ⟨(i + j) / 2 + 1, j, rfl, rfl, rfl, rfl, by omega, by omega, by omega, .inr (by rw [Nat.add_sub_cancel]; exact hl), c2⟩ Qs
   ·refine Ab (Qm rfl (Qm rfl (Ak (Aj ?_))))
    exact Am ((i + j) / 2 - i) _ (by omega) ⟨i, (i + j) / 2, rfl, rfl, rfl, rfl, by omega, by omega, by omega, c1, .inr hl⟩ Qs
  ·obtain rfl : i = j := by omega
   refine Aw (Aa (Aa (Ag (Ad (Ac (Az (Qm rfl (Qm rfl (An (Ah ?_))))))))))
   refine AD (fun n s h' ms' => ∃ (k : Nat) (d0 : Array CeO) (m : Hp), n = i - 1 - k ∧ s = [(0, v), (10, .int .i64 i), (13, .int .i64 k)] ∧ h = h' ∧ ms' = [m] ∧ a ≤ k ∧ k ≤ i - 1 ∧ OSC m v d0 ∧ InsR d d0 a k ∧ PermIn a b d d0)
    (i - 1 - a) _ ⟨a, d, m, rfl, rfl, rfl, rfl, by omega, by omega, hO, InsR.start d a, permIn_refl d a b⟩ Qs ?_
   rintro n s h' ms' ⟨k, d0, m0, rfl, rfl, rfl, rfl, hak, hki, hO0, R, P⟩
   have hds := R.1
   refine Ac (Az (Qm rfl (Qm rfl (Qx (oS rfl) rfl (Qm rfl (An ?_))))))
   refine Ax rfl (fun hltk => ?_) (fun hltk => ?_)
   ·refine Ai (Ad (Ac (Ah (CS 14 [false, false, true, true, true] CN (by kernel_rfl) (by kernel_rfl) (by kernel_rfl) (Dq rfl rfl rfl rfl (BM rfl rfl) (Dq rfl rfl rfl rfl (BM rfl rfl) (Dq rfl rfl rfl rfl (L9 rfl rfl rfl (by omega)) ?_)))))))
    refine ⟨rfl, ?_⟩
    simp only [DI, zap, List.cons_append, List.nil_append, List.take_succ_cons, List.take_zero, List.drop_succ_cons, List.drop_zero, List.take_nil, List.drop_nil]
    refine Wm rfl (Wm rfl (Dl rfl rfl rfl (Dl rfl rfl rfl (Dl rfl rfl rfl (Wm rfl (Wm rfl (AM (oA rfl) rfl rfl (AM (Af (k + 1) (hO0.rd (.head _)) rfl underlying27 AH rfl rfl (by omega) (by omega)) rfl rfl (AM (oG rfl underlying59 AH (hO0.get (.head _) (by omega))) rfl rfl (Wm rfl (Wm rfl (AM (Af (k) (hO0.rd (.head _)) rfl underlying27 AH rfl rfl (by omega) (by omega)) rfl rfl (AM (oG rfl underlying59 AH (hO0.get (.head _) (by omega))) rfl rfl (AU (Qx (Af (k) (hO0.rd (.head _)) rfl underlying27 AH rfl rfl (by omega) (by omega)) rfl (CT 0 _ hO0 rfl AH rfl rfl rfl (by omega) rfl rfl (fun mhO1 hzhO1 hO1 => Qx (Af (k + 1) (hO1.rd (.head _)) rfl underlying27 AH rfl rfl (by omega) (by omega)) rfl (CT 0 _ hO1 rfl AH rfl rfl rfl (by omega) rfl rfl (fun mhO2 hzhO2 hO2 => Ak (Gj (Aj (Ad (Ab (Qm rfl (Qx (oA rfl) rfl (Qm rfl (Ak ?_)))))))))))))))))))))))))))
    exact Am (i - 1 - (k + 1)) _ (by omega) ⟨k + 1, _, mhO2, rfl, rfl, rfl, rfl, by omega, by omega, hO2, R.step hak (by omega), permIn_trans _ _ _ _ _ P (swp_permIn d0 a b k (k + 1) (by omega) (by omega) (by omega) (by omega) (by omega))⟩ Qs
   ·obtain rfl : k = i - 1 := by omega
    refine Aw (Aa (Aa (Ag (Ad (Aq (Ae ?_))))))
    exact Ek rfl (⟨rfl, m0, d0, rfl, hO0, P, Kk Hs hB ⟨hi, hj⟩ c1 c2 R⟩)
 ·refine Ai (Ad (Ac (Az (Qm rfl (Qm rfl (Qx (oS rfl) rfl (Qm rfl (An ?_))))))))
  refine Ax rfl (fun h2 => ?_) (fun h2 => ?_)
  ·-- one element on the right
   obtain rfl : b = t + 1 := by omega
   refine Az (Qm rfl (Qm rfl (BG (Qm rfl (Qm rfl (An (Ac (Ah ?_))))))))
   refine AD (fun n s h' ms' => ∃ (i j : Nat), n = j - i ∧ s = [(0, v), (1, .int .i64 a), (2, .int .i64 t), (4, (Oi g)), (14, .int .i64 i), (15, .int .i64 j)] ∧ h = h' ∧ ms' = [m] ∧ a ≤ i ∧ i ≤ j ∧ j ≤ t ∧ (i = a ∨ Cf d[t]! d[i - 1]! = false) ∧ (j = t ∨ Cf d[t]! d[j]! = true))
    (t - a) _ ⟨a, t, rfl, rfl, rfl, rfl, by omega, by omega, by omega, .inl rfl, .inl rfl⟩ Qs ?_
   rintro n s h' ms' ⟨i, j, rfl, rfl, rfl, rfl, hi, hij, hj, c1, c2⟩
   refine Ac (Az (Qm rfl (Qm rfl (Qm rfl (An ?_)))))
   refine Ax rfl (fun hlt => ?_) (fun hlt => ?_)
   ·refine Ai (Ad (Ah (Az (Qm rfl (Qm rfl (Qx (oA rfl) rfl (Qx (B3 rfl underlying3 underlying106 rfl) rfl (Qx (EW (n := 1) rfl rfl rfl (by omega)) rfl (Qx (B3 rfl underlying106 underlying3 rfl) rfl (Qm rfl (An ?_)))))))))))
    rw [Gb i j (by omega)]
    refine Ac (Bb 9 CN (by kernel_rfl) rfl (Wm rfl (Wm rfl (Wm rfl (AM (Af (t) (hO.rd (.head _)) rfl underlying27 AH rfl rfl (by omega) (by omega)) rfl rfl (AM (oG rfl underlying59 AH (hO.get (.head _) (by omega))) rfl rfl (Wm rfl (Wm rfl (AM (Af ((i + j) / 2) (hO.rd (.head _)) rfl underlying27 AH rfl rfl (by omega) (by omega)) rfl rfl (AM (oG rfl underlying59 AH (hO.get (.head _) (by omega))) rfl rfl (AU (Qx (B0 rfl rfl call113 rfl (ME _ _ _ g hg _)) rfl (Qm rfl (Qm rfl (An ?_)))))))))))))))
    refine Bu rfl (fun hl => ?_) (fun hl => ?_)
    ·have hl : Cf d[t]! d[(i + j) / 2]! = false := by unfold Cf; simpa using hl
     refine Ab (Qm rfl (Qx (oA rfl) rfl (Qm rfl (Ak (Aj ?_)))))
     exact Am (j - ((i + j) / 2 + 1)) _ (by omega) ⟨(i + j) / 2 + 1, j, rfl, rfl, rfl, rfl, by omega, by omega, by omega, .inr (by rw [Nat.add_sub_cancel]; exact hl), c2⟩ Qs
    ·have hl : Cf d[t]! d[(i + j) / 2]! = true := by unfold Cf; simpa using hl
     refine Ab (Qm rfl (Qm rfl (Ak (Aj ?_))))
     exact Am ((i + j) / 2 - i) _ (by omega) ⟨i, (i + j) / 2, rfl, rfl, rfl, rfl, by omega, by omega, by omega, c1, .inr hl⟩ Qs
   ·obtain rfl : i = j := by omega
    refine Aw (Aa (Aa (Ag (Ad (Ac (Az (Qm rfl (Qm rfl (An (Ah ?_))))))))))
    refine AD (fun n s h' ms' => ∃ (k : Nat) (d0 : Array CeO) (m : Hp), n = k - i ∧ s = [(0, v), (14, .int .i64 i), (17, .int .i64 k)] ∧ h = h' ∧ ms' = [m] ∧ i ≤ k ∧ k ≤ t ∧ OSC m v d0 ∧ ShR d d0 t k ∧ PermIn a (t + 1) d d0)
     (t - i) _ ⟨t, d, m, rfl, rfl, rfl, rfl, by omega, by omega, hO, ShR.start d t, permIn_refl d a (t + 1)⟩ Qs ?_
    rintro n s h' ms' ⟨k, d0, m0, rfl, rfl, rfl, rfl, hik, hkt, hO0, R, P⟩
    have hds := R.1
    refine Ac (Az (Qm rfl (Qm rfl (Qm rfl (An ?_)))))
    refine Ax rfl (fun hltk => ?_) (fun hltk => ?_)
    ·have st : ShR d (Go.Sort.swp d0 k (k - 1)) t (k - 1) := by
      obtain ⟨k', rfl⟩ : ∃ k', k = k' + 1 := ⟨k - 1, by omega⟩
      exact R.step (by omega) (by omega)
     have e : (k : Int) - 1 = ((k - 1 : Nat) : Int) := by omega
     refine Ai (Ad (Ac (Ah (CS 14 [false, false, true, true, true] CN (by kernel_rfl) (by kernel_rfl) (by kernel_rfl) (Dq rfl rfl rfl rfl (BM rfl rfl) (Dq rfl rfl rfl rfl (BM rfl rfl) (Dq rfl rfl rfl rfl (Ma rfl rfl rfl (by omega)) ?_)))))))
     refine ⟨rfl, ?_⟩
     simp only [DI, zap, List.cons_append, List.nil_append, List.take_succ_cons, List.take_zero, List.drop_succ_cons, List.drop_zero, List.take_nil, List.drop_nil]
     refine Wm rfl (Wm rfl (Dl rfl rfl rfl (Dl rfl rfl rfl (Dl rfl rfl rfl (Wm rfl (Wm rfl (AM (oS rfl) rfl rfl (AM (Af (k - 1) (hO0.rd (.head _)) rfl underlying27 AH rfl rfl (by omega) (by omega)) rfl rfl (AM (oG rfl underlying59 AH (hO0.get (.head _) (by omega))) rfl rfl (Wm rfl (Wm rfl (AM (Af (k) (hO0.rd (.head _)) rfl underlying27 AH rfl rfl (by omega) (by omega)) rfl rfl (AM (oG rfl underlying59 AH (hO0.get (.head _) (by omega))) rfl rfl (AU (Qx (Af (k) (hO0.rd (.head _)) rfl underlying27 AH rfl rfl (by omega) (by omega)) rfl (CT 0 _ hO0 rfl AH rfl rfl rfl (by omega) rfl rfl (fun mhO1 hzhO1 hO1 => Qx (Af (k - 1) (hO1.rd (.head _)) rfl underlying27 AH rfl rfl (by omega) (by omega)) rfl (CT 0 _ hO1 rfl AH rfl rfl rfl (by omega) rfl rfl (fun mhO2 hzhO2 hO2 => Ak (Gj (Aj (Ad (Ab (Qm rfl (Qx (oS rfl) rfl (Qm rfl (Ak ?_)))))))))))))))))))))))))))
     rw [e]
     exact Am (k - 1 - i) _ (by omega) ⟨k - 1, _, mhO2, rfl, rfl, rfl, rfl, by omega, by omega, hO2, st, permIn_trans _ _ _ _ _ P (swp_permIn d0 a (t + 1) k (k - 1) (by omega) (by omega) (by omega) (by omega) (by omega))⟩ Qs
    ·obtain rfl : k = i := by omega
     refine Aw (Aa (Aa (Ag (Ad (Aq (Ae ?_))))))
     exact Ek rfl (⟨rfl, m0, d0, rfl, hO0, P, K7 Hs hA ⟨hi, hj⟩ c1 c2 R⟩)
  ·refine Ai (Ad (Az (Qm rfl (Qm rfl (Qx (oA rfl) rfl (Qx (B3 rfl underlying3 underlying106 rfl) rfl (Qx (EW (n := 1) rfl rfl rfl (by omega)) rfl (Qx (B3 rfl underlying106 underlying3 rfl) rfl (Qm rfl (An ?_))))))))))
   rw [Gb a b (by omega)]
   obtain ⟨mid, hmid⟩ : ∃ mid, mid = (a + b) / 2 := ⟨_, rfl⟩
   rw [← hmid]
   refine Az (Qm rfl (Qm rfl (Qx (oA rfl) rfl (Qm rfl (BG (Qm rfl (Qm rfl (An ?_))))))))
   refine AV (fun s h' ms' => ∃ (s0 r0 : Nat), s = [(0, v), (1, .int .i64 a), (2, .int .i64 t), (3, .int .i64 b), (4, (Oi g)), (18, .int .i64 mid), (19, .int .i64 ((mid : Int) + t)), (20, .int .i64 s0), (21, .int .i64 r0)] ∧ h = h' ∧ ms' = [m] ∧ ((mid < t ∧ s0 + b = mid + t ∧ r0 = mid) ∨ (t ≤ mid ∧ s0 = a ∧ r0 = t))) ?_ (fun s h ms hI => ?_)
   ·refine Ac (Ab (Qm rfl (Qm rfl (Qm rfl (An ?_)))))
    refine Ax rfl (fun hgt => ?_) (fun hgt => ?_)
    ·refine Ac (Ab (Qm rfl (Qm rfl (Qx (oS rfl) rfl (Qm rfl (GZ (Qm rfl (Qm rfl (Ak ?_)))))))))
     have e : (mid : Int) + t - b = ((mid + t - b : Nat) : Int) := by omega
     rw [e]
     exact Ay _ ⟨mid + t - b, mid, rfl, rfl, rfl, .inl ⟨by omega, by omega, rfl⟩⟩ Qs
    ·refine Ac (Ab (Qm rfl (Qm rfl (GZ (Qm rfl (Qm rfl (Ak ?_)))))))
     exact Ay _ ⟨a, t, rfl, rfl, rfl, .inr ⟨by omega, rfl, rfl⟩⟩ Qs
   ·obtain ⟨s0, r0, rfl, rfl, rfl, hc⟩ := hI
    refine Az (Qm rfl (Qx (oS rfl) rfl (Qm rfl (An (Ac (Ah ?_))))))
    refine AD (fun n s h' ms' => ∃ (i j : Nat), n = j - i ∧ s = [(0, v), (1, .int .i64 a), (2, .int .i64 t), (3, .int .i64 b), (4, (Oi g)), (18, .int .i64 mid), (19, .int .i64 ((mid : Int) + t)), (20, .int .i64 i), (21, .int .i64 j), (22, .int .i64 ((mid : Int) + t - 1))] ∧ h = h' ∧ ms' = [m] ∧ s0 ≤ i ∧ i ≤ j ∧ j ≤ r0 ∧ (i = s0 ∨ Cf d[mid + t - i]! d[i - 1]! = false) ∧ (j = r0 ∨ Cf d[mid + t - 1 - j]! d[j]! = true))
     (r0 - s0) _ ⟨s0, r0, rfl, rfl, rfl, rfl, by omega, by omega, by omega, .inl rfl, .inl rfl⟩ Qs ?_
    rintro n s h' ms' ⟨i, j, rfl, rfl, rfl, rfl, hi, hij, hj, c1, c2⟩
    refine Ac (Az (Qm rfl (Qm rfl (Qm rfl (An ?_)))))
    refine Ax rfl (fun hlt => ?_) (fun hlt => ?_)
    ·refine Ai (Ad (Ah (Az (Qm rfl (Qm rfl (Qx (oA rfl) rfl (Qx (B3 rfl underlying3 underlying106 rfl) rfl (Qx (EW (n := 1) rfl rfl rfl (by omega)) rfl (Qx (B3 rfl underlying106 underlying3 rfl) rfl (Qm rfl (An ?_)))))))))))
     rw [Gb i j (by omega)]
     refine Ac (Bb 11 CN (by kernel_rfl) rfl (Wm rfl (Wm rfl (Wm rfl (Wm rfl (AM (oS rfl) rfl rfl (AM (Af (mid + t - 1 - (i + j) / 2) (hO.rd (.head _)) rfl underlying27 AH rfl rfl (by omega) (by omega)) rfl rfl (AM (oG rfl underlying59 AH (hO.get (.head _) (by omega))) rfl rfl (Wm rfl (Wm rfl (AM (Af ((i + j) / 2) (hO.rd (.head _)) rfl underlying27 AH rfl rfl (by omega) (by omega)) rfl rfl (AM (oG rfl underlying59 AH (hO.get (.head _) (by omega))) rfl rfl (AU (Qx (B0 rfl rfl call113 rfl (ME _ _ _ g hg _)) rfl (Qm rfl (Qm rfl (An ?_)))))))))))))))))
     refine Bu rfl (fun hl => ?_) (fun hl => ?_)
     ·have hl : Cf d[mid + t - 1 - (i + j) / 2]! d[(i + j) / 2]! = false := by unfold Cf; simpa using hl
      refine Ab (Qm rfl (Qx (oA rfl) rfl (Qm rfl (Ak (Aj ?_)))))
      exact Am (j - ((i + j) / 2 + 1)) _ (by omega) ⟨(i + j) / 2 + 1, j, rfl, rfl, rfl, rfl, by omega, by omega, by omega, .inr (by rw [Nat.add_sub_cancel, show mid + t - ((i + j) / 2 + 1) = mid + t - 1 - (i + j) / 2 by omega]; exact hl), c2⟩ Qs
     ·have hl : Cf d[mid + t - 1 - (i + j) / 2]! d[(i + j) / 2]! = true := by unfold Cf; simpa using hl
      refine Ab (Qm rfl (Qm rfl (Ak (Aj ?_))))
      exact Am ((i + j) / 2 - i) _ (by omega) ⟨i, (i + j) / 2, rfl, rfl, rfl, rfl, by omega, by omega, by omega, c1, .inr hl⟩ Qs
    ·obtain rfl : i = j := by omega
     obtain ⟨e, he⟩ : ∃ e, e = mid + t - i := ⟨_, rfl⟩
     have he2 : (mid : Int) + t - i = (e : Int) := by omega
     refine Aw (Aa (Aa (Ag (Ad (Az (Qm rfl (Qm rfl (Qx (oS rfl) rfl (Qm rfl (An ?_))))))))))
     rw [he2]
     have k1 : i = a ∨ e = b ∨ Cf d[e]! d[i - 1]! = false := by
      rcases c1 with c | c
      ·rcases hc with hc | hc
       ·right; left; omega
       ·left; omega
      ·right; right; rw [he]; exact c
     have k2 : i = t ∨ e = t ∨ Cf d[e - 1]! d[i]! = true := by
      rcases c2 with c | c
      ·rcases hc with hc | hc
       ·right; left; omega
       ·left; omega
      ·right; right; rw [show e - 1 = mid + t - 1 - i by omega]; exact c
     have hgeo : a ≤ i ∧ i ≤ t ∧ i ≤ mid ∧ t ≤ e ∧ e ≤ b := by rcases hc with hc | hc <;> omega
     have hs2 : i + e = mid + t := by omega
     refine AV (fun s h' ms' => ∃ (d1 : Array CeO) (m1 : Hp), s = [(0, v), (1, .int .i64 a), (3, .int .i64 b), (4, (Oi g)), (18, .int .i64 mid), (20, .int .i64 i), (24, .int .i64 e)] ∧ h = h' ∧ ms' = [m1] ∧ OSC m1 v d1 ∧ (∀ k, d1[k]! = EH d i t e k) ∧ PermIn a b d d1) ?_ (fun s h ms hI => ?_)
     ·refine Ac (Ab (Qm rfl (Qm rfl (Qm rfl (Qm rfl ?_)))))
      refine AQ (t := 181) rfl (fun q1 => ?_) (fun q1 => ?_)
      ·refine Qg (Au rfl rfl) rfl (Qg (Au rfl rfl) rfl (Qg (C0 rfl rfl rfl) rfl (Qm rfl (An ?_))))
       refine Ax rfl (fun q2 => ?_) (fun q2 => ?_)
       ·refine Ab (Qm rfl (Qm rfl (Qm rfl (Qm rfl (Qm rfl (Bg (pre := [m]) rfl call139 rfl (O5 d v (Oi g) m hO i t e a b (by omega) (by omega) (by omega) (by omega) (by omega) (by omega) (by omega) h rfl rfl rfl) rfl rfl rfl rfl (fun r h1 ms1 l1 hF => ?_)))))))
        obtain ⟨rfl, m1, d1, rfl, hO1, hr, P⟩ := hF
        refine Ak ?_
        exact Ay _ ⟨d1, m1, rfl, rfl, rfl, hO1, hr, P⟩ Qs
       ·refine Ai ?_
        exact Ay _ ⟨d, m, rfl, rfl, rfl, hO, fun k => (Gw (by omega) k).symm, permIn_refl d a b⟩ Qs
      ·refine Qk rfl (Qk rfl (Qk rfl (Qm rfl (An (AO rfl (Ai ?_))))))
       exact Ay _ ⟨d, m, rfl, rfl, rfl, hO, fun k => (Gw (by omega) k).symm, permIn_refl d a b⟩ Qs
     ·obtain ⟨d1, m1, rfl, rfl, rfl, hO1, hr, P⟩ := hI
      have C := Tc Hs hA hB hgeo hs2 hr k1 k2
      have hd1 := P.1
      refine AV (fun s h' ms' => ∃ (d2 : Array CeO) (m2 : Hp), s = [(0, v), (3, .int .i64 b), (4, (Oi g)), (18, .int .i64 mid), (24, .int .i64 e)] ∧ h = h' ∧ ms' = [m2] ∧ OSC m2 v d2 ∧ PermIn a mid d1 d2 ∧ SortedIn Cf a mid d2) ?_ (fun s h ms hI => ?_)
      ·refine Ac (Ab (Qm rfl (Qm rfl (Qm rfl (Qm rfl ?_)))))
       refine AQ (t := 195) rfl (fun q1 => ?_) (fun q1 => ?_)
       ·refine Qg (Au rfl rfl) rfl (Qg (Au rfl rfl) rfl (Qg (C0 rfl rfl rfl) rfl (Qm rfl (An ?_))))
        refine Ax rfl (fun q2 => ?_) (fun q2 => ?_)
        ·refine Ab (Qm rfl (Qm rfl (Qm rfl (Qm rfl (Qm rfl (Bg (pre := [m1]) rfl call135 rfl (ih d1 v m1 hO1 a i mid (by omega) (by omega) (by omega) (by omega) (by omega) C.lo C.lo2 h g hg rfl rfl rfl) rfl rfl rfl rfl (fun r h1 ms1 l1 hF => ?_)))))))
         obtain ⟨rfl, m2, d2, rfl, hO2, P2, S2⟩ := hF
         refine Ak ?_
         exact Ay _ ⟨d2, m2, rfl, rfl, rfl, hO2, P2, S2⟩ Qs
        ·obtain rfl : i = mid := by omega
         refine Ai ?_
         exact Ay _ ⟨d1, m1, rfl, rfl, rfl, hO1, permIn_refl d1 a _, C.lo⟩ Qs
       ·obtain rfl : i = a := by omega
        refine Qk rfl (Qk rfl (Qk rfl (Qm rfl (An (AO rfl (Ai ?_))))))
        exact Ay _ ⟨d1, m1, rfl, rfl, rfl, hO1, permIn_refl d1 _ _, C.lo2⟩ Qs
      ·obtain ⟨d2, m2, rfl, rfl, rfl, hO2, P2, S2⟩ := hI
       have hd2 := P2.1
       have f1 : SortedIn Cf mid e d2 := Bx C.hi fun k h1 h2 => P2.2.1 k (.inr h1)
       have f2 : SortedIn Cf e b d2 := Bx C.hi2 fun k h1 h2 => P2.2.1 k (.inr (by omega))
       have fin : ∀ d3, PermIn mid b d2 d3 → SortedIn Cf mid b d3 → PermIn a b d d3 ∧ SortedIn Cf a b d3 := fun d3 P3 S3 =>
        ⟨permIn_trans _ _ _ _ _ P (permIn_trans _ _ _ _ _ (permIn_mono d1 d2 a mid a b (by omega) (by omega) (by omega) P2) (permIn_mono d2 d3 mid b a b (by omega) (by omega) (by omega) P3)), Ob C (by omega) (by omega) P2 S2 P3 S3⟩
       refine Az (Qm rfl (Qm rfl (Qm rfl (Qm rfl ?_))))
       refine AQ (t := 209) rfl (fun q1 => ?_) (fun q1 => ?_)
       ·refine Qg (Au rfl rfl) rfl (Qg (Au rfl rfl) rfl (Qg (C0 rfl rfl rfl) rfl (Qm rfl (An ?_))))
        refine Ax rfl (fun q2 => ?_) (fun q2 => ?_)
        ·refine Ab (Qm rfl (Qm rfl (Qm rfl (Qm rfl (Qm rfl (Bg (pre := [m2]) rfl call135 rfl (ih d2 v m2 hO2 mid e b (by omega) (by omega) (by omega) (by omega) (by omega) f1 f2 h g hg rfl rfl rfl) rfl rfl rfl rfl (fun r h1 ms1 l1 hF => ?_)))))))
         obtain ⟨rfl, m3, d3, rfl, hO3, P3, S3⟩ := hF
         refine Ak ?_
         exact BL rfl (⟨rfl, m3, d3, rfl, hO3, (fin d3 P3 S3).1, (fin d3 P3 S3).2⟩)
        ·obtain rfl : e = b := by omega
         refine Ai ?_
         exact BL rfl (⟨rfl, m2, d2, rfl, hO2, (fin d2 (permIn_refl d2 _ _) f1).1, (fin d2 (permIn_refl d2 _ _) f1).2⟩)
       ·obtain rfl : e = mid := by omega
        refine Qk rfl (Qk rfl (Qk rfl (Qm rfl (An (AO rfl (Ai ?_))))))
        exact BL rfl (⟨rfl, m2, d2, rfl, hO2, (fin d2 (permIn_refl d2 _ _) f2).1, (fin d2 (permIn_refl d2 _ _) f2).2⟩)
def Ys (d : Array CeO) (s n : Nat) : Prop := ∀ x, s ∣ x → SortedIn Cf x (min (x + s) n) d
theorem DX {d : Array CeO} {a b b' : Nat} (h : SortedIn Cf a b d) (hb : b' ≤ b) : SortedIn Cf a b' d := fun i j h1 h2 h3 => h i j h1 h2 (by omega)
theorem H4 {d : Array CeO} {a b : Nat} (hb : b ≤ a) : SortedIn Cf a b d := fun i j h1 h2 h3 => by omega
theorem O2 (d : Array CeO) (v : Value) (m : Hp) (hO : OSC m v d) (hsz : d.size ≤ 1000000) (h : Hp) (g : Nat) (hg : QX h g) {n' : Int} (en : n' = d.size) :
  FnT Tryz.prog 129 #[v, .int .i64 n', (Oi g)] h [m] (fun _ h' ms' => h = h' ∧ ∃ m' d', ms' = [m'] ∧ OSC m' v d' ∧ PermIn 0 d.size d d' ∧ SortedIn Cf 0 d.size d') := by
 subst en
 obtain ⟨n, hn⟩ : ∃ n, n = d.size := ⟨_, rfl⟩
 rw [← hn]
 refine Av func129 ntmps129 rfl rfl (fun w0 hw0 => ?_)
 simp only [A5]
 refine Az (Qm rfl (BG (Qm rfl (Qm rfl (Qm rfl (An (Ac (Ah ?_))))))))
 refine AD (fun q s h' ms' => ∃ (a : Nat) (d0 : Array CeO) (m : Hp), q = n - a ∧ s = [(0, v), (1, .int .i64 n), (2, (Oi g)), (6, .int .i64 20), (7, .int .i64 a), (8, .int .i64 ((a : Int) + 20))] ∧ h = h' ∧ ms' = [m] ∧ a ≤ n ∧ 20 ∣ a ∧ OSC m v d0 ∧ PermIn 0 n d d0 ∧ ∀ x, 20 ∣ x → x + 20 ≤ a → SortedIn Cf x (x + 20) d0)
  (n - 0) _ ⟨0, d, m, rfl, rfl, rfl, rfl, by omega, ⟨0, rfl⟩, hO, permIn_refl d 0 n, fun x _ h => by omega⟩ Qs ?_
 rintro q s h' ms' ⟨a, d0, m0, rfl, rfl, rfl, rfl, han, hda, hO0, P, hB⟩
 have hds := P.1
 refine Ac (Az (Qm rfl (Qm rfl (Qm rfl (An ?_)))))
 refine Ax rfl (fun hle => ?_) (fun hle => ?_)
 ·refine Ai (Ad (Ah (Az (Qm rfl (Qm rfl (Qm rfl (Qm rfl (Bg (pre := [m0]) rfl call120 rfl (No d0 v m0 hO0 a (a + 20) (by omega) (by omega) (by omega) h g hg rfl (by omega)) rfl rfl rfl rfl (fun r h1 ms1 l1 hF => ?_)))))))))
  obtain ⟨rfl, m1, d1, rfl, hO1, P1, S1⟩ := hF
  refine BG (Qm rfl (Qm rfl (GZ (Qm rfl (Qm rfl (Qx (oA rfl) rfl (Qm rfl (Ak (Aj ?_)))))))))
  exact Am (n - (a + 20)) _ (by omega) ⟨a + 20, d1, m1, rfl, rfl, rfl, rfl, by omega, Nat.dvd_add hda ⟨1, rfl⟩, hO1, permIn_trans _ _ _ _ _ P (permIn_mono d0 d1 a (a + 20) 0 n (by omega) (by omega) (by omega) P1), fun x hx hx2 => by
   rcases Nat.lt_or_ge x a with h1 | h1
   ·have := D7 hx hda h1
    exact Bx (hB x hx this) fun k h2 h3 => P1.2.1 k (.inl (by omega))
   ·obtain rfl : x = a := by omega
    exact S1⟩ Qs
 ·refine Aw (Aa (Aa (Ag (Ad (Az (Qm rfl (Qm rfl (Qm rfl (Qm rfl (Bg (pre := [m0]) rfl call120 rfl (No d0 v m0 hO0 a n (by omega) (by omega) (by omega) h g hg rfl rfl) rfl rfl rfl rfl (fun r h1 ms1 l1 hF => ?_)))))))))))
  obtain ⟨rfl, m1, d1, rfl, hO1, P1, S1⟩ := hF
  have PB : PermIn 0 n d d1 := permIn_trans _ _ _ _ _ P (permIn_mono d0 d1 a n 0 n (by omega) (by omega) (by omega) P1)
  have B1 : Ys d1 20 n := fun x hx => by
   rcases Nat.lt_trichotomy x a with h1 | rfl | h1
   ·have := D7 hx hda h1
    exact DX (Bx (hB x hx this) fun k h2 h3 => P1.2.1 k (.inl (by omega))) (by omega)
   ·exact DX S1 (by omega)
   ·have := D7 hda hx h1
    exact H4 (by omega)
  refine An (Ah ?_)
  refine AD (fun q s h' ms' => ∃ (w : Nat) (d0 : Array CeO) (m : Hp), q = n - w ∧ s = [(0, v), (1, .int .i64 n), (2, (Oi g)), (6, .int .i64 w)] ∧ h = h' ∧ ms' = [m] ∧ 1 ≤ w ∧ w ≤ 4000000 ∧ OSC m v d0 ∧ PermIn 0 n d d0 ∧ Ys d0 w n)
   (n - 20) _ ⟨20, d1, m1, rfl, rfl, rfl, rfl, by omega, by omega, hO1, PB, B1⟩ Qs ?_
  rintro q s h' ms' ⟨w, d2, m2, rfl, rfl, rfl, rfl, hw1, hw2, hO2, P2, B2⟩
  have hd2 := P2.1
  refine Ac (Az (Qm rfl (Qm rfl (Qm rfl (An ?_)))))
  refine Ax rfl (fun hlt => ?_) (fun hlt => ?_)
  ·refine Ai (Ad (Ah (Az (Qm rfl (Qx (oM rfl) rfl (Qm rfl (Qm rfl (An (Ac (Ah ?_))))))))))
   refine AD (fun q s h' ms' => ∃ (a : Nat) (z : Int) (d0 : Array CeO) (m : Hp), q = n - a ∧ s = [(0, v), (1, .int .i64 n), (2, (Oi g)), (6, .int .i64 w), (7, .int .i64 a), (8, .int .i64 z)] ∧ h = h' ∧ ms' = [m] ∧ z = a + 2 * w ∧ a ≤ n ∧ 2 * w ∣ a ∧ OSC m v d0 ∧ PermIn 0 n d d0 ∧ (∀ x, 2 * w ∣ x → x + 2 * w ≤ a → SortedIn Cf x (x + 2 * w) d0) ∧ ∀ x, w ∣ x → a ≤ x → SortedIn Cf x (min (x + w) n) d0)
    (n - 0) _ ⟨0, 2 * (w : Int), d2, m2, rfl, rfl, rfl, rfl, by omega, by omega, ⟨0, rfl⟩, hO2, P2, fun x _ h => by omega, fun x hx _ => B2 x hx⟩ Qs ?_
   rintro q s h' ms' ⟨a, z, d3, m3, rfl, rfl, rfl, rfl, rfl, han, hda, hO3, P3, hL, hR⟩
   have hd3 := P3.1
   have hwa : w ∣ a := Nat.dvd_trans ⟨2, Nat.mul_comm 2 w⟩ hda
   have hwa2 : w ∣ a + w := Nat.dvd_add hwa (Nat.dvd_refl w)
   have hwa3 : 2 * w ∣ a + 2 * w := Nat.dvd_add hda (Nat.dvd_refl _)
   have s1 := hR a hwa (Nat.le_refl _)
   have s2 := hR (a + w) hwa2 (by omega)
   refine Ac (Az (Qm rfl (Qm rfl (Qm rfl (An ?_)))))
   refine Ax rfl (fun hle2 => ?_) (fun hle2 => ?_)
   ·rw [show min (a + w) n = a + w by omega] at s1
    rw [show min (a + w + w) n = a + 2 * w by omega] at s2
    refine Ai (Ad (Ah (Az (Qm rfl (Qm rfl (Qm rfl (Qm rfl (Qx (oA rfl) rfl (Qm rfl (Qm rfl (Bg (pre := [m3]) rfl call135 rfl (Hv (2 * w) d3 v m3 hO3 a (a + w) (a + 2 * w) (by omega) (by omega) (by omega) (by omega) (by omega) s1 s2 h g hg rfl (by omega) (by omega)) rfl rfl rfl rfl (fun r h1 ms1 l1 hF => ?_))))))))))))
    obtain ⟨rfl, m4, d4, rfl, hO4, P4, S4⟩ := hF
    refine BG (Qm rfl (Qm rfl (GZ (Qm rfl (Qm rfl (Qx (oM rfl) rfl (Qx (oA rfl) rfl (Qm rfl (Ak (Aj ?_))))))))))
    exact Am (n - (a + 2 * w)) _ (by omega) ⟨a + 2 * w, (a : Int) + 2 * w + 2 * w, d4, m4, rfl, rfl, rfl, rfl, by omega, by omega, hwa3, hO4, permIn_trans _ _ _ _ _ P3 (permIn_mono d3 d4 a (a + 2 * w) 0 n (by omega) (by omega) (by omega) P4), fun x hx hx2 => by
     rcases Nat.lt_or_ge x a with h1 | h1
     ·have := D7 hx hda h1
      exact Bx (hL x hx this) fun k h2 h3 => P4.2.1 k (.inl (by omega))
     ·obtain rfl : x = a := by omega
      exact S4, fun x hx hx2 => Bx (hR x hx (by omega)) fun k h2 h3 => P4.2.1 k (.inr (by omega))⟩ Qs
   ·have fin : ∀ d4, PermIn a n d3 d4 → SortedIn Cf a n d4 → PermIn 0 n d d4 ∧ Ys d4 (w * 2) n := fun d4 P4 S4 => ⟨permIn_trans _ _ _ _ _ P3 (permIn_mono d3 d4 a n 0 n (by omega) (by omega) (by omega) P4), fun x hx => by
     rw [Nat.mul_comm] at hx ⊢
     rcases Nat.lt_trichotomy x a with h1 | rfl | h1
     ·have := D7 hx hda h1
      exact DX (Bx (hL x hx this) fun k h2 h3 => P4.2.1 k (.inl (by omega))) (by omega)
     ·exact DX S4 (by omega)
     ·have := D7 hda hx h1
      exact H4 (by omega)⟩
    refine Aw (Aa (Aa (Ag (Ad (Ac (Az (Qm rfl (Qm rfl (Qx (oA rfl) rfl (Qm rfl (BG (Qm rfl (Qm rfl (Qm rfl (An ?_)))))))))))))))
    refine Ax rfl (fun hm => ?_) (fun hm => ?_)
    ·rw [show min (a + w) n = a + w by omega] at s1
     rw [show min (a + w + w) n = n by omega] at s2
     refine Ab (Qm rfl (Qm rfl (Qm rfl (Qm rfl (Qm rfl (Bg (pre := [m3]) rfl call135 rfl (Hv (2 * w) d3 v m3 hO3 a (a + w) n (by omega) (by omega) (by omega) (by omega) (by omega) s1 s2 h g hg rfl (by omega) rfl) rfl rfl rfl rfl (fun r h1 ms1 l1 hF => ?_)))))))
     obtain ⟨rfl, m4, d4, rfl, hO4, P4, S4⟩ := hF
     have := fin d4 P4 S4
     refine GZ (Qm rfl (Qx (oM rfl) rfl (Qm rfl (Ak (Aj ?_)))))
     exact Am (n - w * 2) _ (by omega) ⟨w * 2, d4, m4, rfl, rfl, rfl, rfl, by omega, by omega, hO4, this.1, this.2⟩ Qs
    ·rw [show min (a + w) n = n by omega] at s1
     have := fin d3 (permIn_refl d3 a n) s1
     refine Ai (Ad (Ab (Qm rfl (Qx (oM rfl) rfl (Qm rfl (Ak (Aj ?_)))))))
     exact Am (n - w * 2) _ (by omega) ⟨w * 2, d3, m3, rfl, rfl, rfl, rfl, by omega, by omega, hO3, this.1, this.2⟩ Qs
  ·refine Aw (Aa (Aa (Ag ?_)))
   exact BL rfl (⟨rfl, m2, d2, rfl, hO2, P2, by have := B2 0 ⟨0, rfl⟩; rwa [show min (0 + w) n = n by omega] at this⟩)
theorem JH (d : Array CeO) (v : Value) (m : Hp) (hO : OSC m v d) (hsz : d.size ≤ 1000000) (h : Hp) (g : Nat) (hg : QX h g) :
  FnT Tryz.prog 112 #[v, (Oi g)] h [m] (fun _ h' ms' => h = h' ∧ ∃ m' d', ms' = [m'] ∧ OSC m' v d' ∧ PermIn 0 d.size d d' ∧ SortedIn Cf 0 d.size d') := by
 refine Av func112 ntmps112 rfl rfl (fun w0 hw0 => ?_)
 simp only [A5]
 refine Ab (Qm rfl (Qm rfl (Qx (AC (hO.rd (.head _)) rfl underlying27 rfl) rfl (Qm rfl (Bg (pre := [m]) rfl call129 rfl (O2 d v m hO hsz h g hg rfl) rfl rfl rfl rfl (fun r h1 ms1 l1 hF => ?_))))))
 obtain ⟨rfl, m4, d4, rfl, hO4, P4, S4⟩ := hF
 refine Ak ?_
 exact BL rfl (⟨rfl, m4, d4, rfl, hO4, P4, S4⟩)
variable {m h : Hp} {v : Value} {d : Array HT} {ms : List Hp}
abbrev OSD (m : Hp) (v : Value) (d : Array HT) : Prop := OwnL cD 2 81 m v d.toList
theorem OSD.rd (O : OSD m v d) (hm : m ∈ ms) : Rd h ms v 2 d.size (d.toList.flatMap cD) := by
 have := (OwnL.rd O hm (h := h)).rd; rwa [Array.length_toList] at this
theorem OSD.get (O : OSD m v d) (hm : m ∈ ms) {j : Nat} (hj : j < d.size) : Seg h ms ((AI v).add (j * 2)) (cD d[j]!) := by
 have := (OwnL.rd O hm (h := h)).seg (j := j) (by simpa using hj)
 simpa [hj] using this
theorem CP {e : Entry} {Q : Exit → Act → World → Prop} {ops : Array Oper} {rest : List Oper} {o : Oper} {s : Ar} {t : TypeId} {x y : Operand} {z : Value} {bytes : Nat} {a : HT} (i j : Nat) (O : OSD m v d) (ho : o.op = .store t x y) (hs : Elem e.P t 2 z bytes) (hx : ev s x = some (.pointer (some ((AI v).add (j * 2))))) (hy : ev s y = some (.agg (cD a).toArray))
  (hm : ms[i]? = some m) (hj : j < d.size) (hd : o.dst = none) (hg : o.guard = none)
  (K : ∀ m', (d.setIfInBounds j a).size = d.size → OSD m' v (d.setIfInBounds j a) → WL e ops Q rest s h (ms.set i m')) : WL e ops Q (o :: rest) s h ms :=
 JZ i j a O ho hs hx hy rfl (Do a) hm (by simpa using hj) hd hg fun m' O' => K m' (by simp) (by
  show OwnL cD 2 81 m' v (d.setIfInBounds j a).toList
  rw [Array.toList_setIfInBounds]; exact O')
theorem Fa (d : Array HT) (v cv : Value) (m : Hp) (hO : OSD m v d) (a b n lo hi : Nat) (hab : a + n ≤ b) (hb : b + n ≤ d.size) (hsz : d.size ≤ 1000000) (hlo : lo ≤ a) (hhi : b + n ≤ hi) (hhs : hi ≤ d.size) (h : Hp) {a' b' n' : Int} (ea : a' = a) (eb : b' = b) (en : n' = n) :
  FnT Tryz.prog 142 #[v, .int .i64 a', .int .i64 b', .int .i64 n', cv] h [m] (fun _ h' ms' => h = h' ∧ ∃ m' d', ms' = [m'] ∧ OSD m' v d' ∧ SwR d d' a b n ∧ PermIn lo hi d d') := by
 subst ea eb en
 refine Av func142 ntmps142 rfl rfl (fun w0 hw0 => ?_)
 simp only [A5]
 refine Az (Qm rfl (An (Ah ?_)))
 refine AD (fun q s h' ms' => ∃ (i : Nat) (d0 : Array HT) (m : Hp), q = n - i ∧ s = [(0, v), (1, .int .i64 a), (2, .int .i64 b), (3, .int .i64 n), (10, .int .i64 i)] ∧ h = h' ∧ ms' = [m] ∧ i ≤ n ∧ OSD m v d0 ∧ SwR d d0 a b i ∧ PermIn lo hi d d0)
  (n - 0) _ ⟨0, d, m, rfl, rfl, rfl, rfl, by omega, hO, SwR.start d a b, permIn_refl d lo hi⟩ Qs ?_
 rintro q s h' ms' ⟨i, d0, m0, rfl, rfl, rfl, rfl, hi2, hO0, S, P⟩
 have hds := S.1
 refine Ac (Az (Qm rfl (Qm rfl (Qm rfl (An ?_)))))
 refine Ax rfl (fun hlt => ?_) (fun hlt => ?_)
 ·refine Ai (Ad (Ac (Ah (CS 20 [false, false, false, false, true, true, true, true] CN (by kernel_rfl) (by kernel_rfl) (by kernel_rfl) (Dq rfl rfl rfl rfl (BM rfl rfl) (Dq rfl rfl rfl rfl (BM rfl rfl) (Dq rfl rfl rfl rfl (BM rfl rfl) (Dq rfl rfl rfl rfl (L9 rfl rfl rfl (by omega)) ?_))))))))
  refine ⟨rfl, ?_⟩
  simp only [DI, zap, List.cons_append, List.nil_append, List.take_succ_cons, List.take_zero, List.drop_succ_cons, List.drop_zero, List.take_nil, List.drop_nil]
  refine Wm rfl (Wm rfl (Wm rfl (AM (oA rfl) rfl rfl (Dl rfl rfl rfl (Dl rfl rfl rfl (Dl rfl rfl rfl (Dl rfl rfl rfl (Wm rfl (Wm rfl (Wm rfl (AM (oA rfl) rfl rfl (AM (Af (b + i) (hO0.rd (.head _)) rfl underlying57 AR rfl rfl (by omega) (by omega)) rfl rfl (AM (oG rfl underlying81 AR (hO0.get (.head _) (by omega))) rfl rfl (Wm rfl (Wm rfl (Wm rfl (AM (oA rfl) rfl rfl (AM (Af (a + i) (hO0.rd (.head _)) rfl underlying57 AR rfl rfl (by omega) (by omega)) rfl rfl (AM (oG rfl underlying81 AR (hO0.get (.head _) (by omega))) rfl rfl (AU (Qx (Af (a + i) (hO0.rd (.head _)) rfl underlying57 AR rfl rfl (by omega) (by omega)) rfl (CP 0 _ hO0 rfl AR rfl rfl rfl (by omega) rfl rfl (fun mhO1 hzhO1 hO1 => Qx (Af (b + i) (hO1.rd (.head _)) rfl underlying57 AR rfl rfl (by omega) (by omega)) rfl (CP 0 _ hO1 rfl AR rfl rfl rfl (by omega) rfl rfl (fun mhO2 hzhO2 hO2 => Ak (Gj (Aj (Ad (Ab (Qm rfl (Qx (oA rfl) rfl (Qm rfl (Ak ?_)))))))))))))))))))))))))))))))))
  refine Am (n - (i + 1)) _ (by omega) ⟨i + 1, _, mhO2, rfl, rfl, rfl, rfl, by omega, hO2, S.step (by omega) (by omega), permIn_trans _ _ _ _ _ P (swp_permIn d0 lo hi (a + i) (b + i) (by omega) (by omega) (by omega) (by omega) (by omega))⟩ Qs
 ·obtain rfl : i = n := by omega
  refine Aw (Aa (Aa (Ag ?_)))
  exact BL rfl (⟨rfl, m0, d0, rfl, hO0, S, P⟩)
theorem Ol (d : Array HT) (v cv : Value) (m : Hp) (hO : OSD m v d) (a t b lo hi : Nat) (hat : a < t) (htb : t < b) (hb : b ≤ d.size) (hsz : d.size ≤ 1000000) (hlo : lo ≤ a) (hhi : b ≤ hi) (hhs : hi ≤ d.size) (h : Hp) {a' t' b' : Int} (ea : a' = a) (et : t' = t) (eb : b' = b) :
  FnT Tryz.prog 140 #[v, .int .i64 a', .int .i64 t', .int .i64 b', cv] h [m] (fun _ h' ms' => h = h' ∧ ∃ m' d', ms' = [m'] ∧ OSD m' v d' ∧ (∀ k, d'[k]! = EH d a t b k) ∧ PermIn lo hi d d') := by
 subst ea et eb
 refine Av func140 ntmps140 rfl rfl (fun w0 hw0 => ?_)
 simp only [A5]
 refine Az (Qm rfl (Qm rfl (Qx (oS rfl) rfl (Qm rfl (BG (Qm rfl (Qm rfl (Qx (oS rfl) rfl (Qm rfl (An (Ac (Ah ?_))))))))))))
 refine AD (fun q s h' ms' => ∃ (i j : Nat) (x y : Int) (d0 : Array HT) (m : Hp), q = i + j ∧ s = [(0, v), (2, .int .i64 t), (4, cv), (10, .int .i64 x), (11, .int .i64 y)] ∧ h = h' ∧ ms' = [m] ∧ x = i ∧ y = j ∧ 0 < i ∧ 0 < j ∧ a + i ≤ t ∧ t + j ≤ b ∧ OSD m v d0 ∧ (∀ k, EH d0 (t - i) t (t + j) k = EH d a t b k) ∧ PermIn lo hi d d0)
  ((t - a) + (b - t)) _ ⟨t - a, b - t, (t : Int) - a, (b : Int) - t, d, m, rfl, rfl, rfl, rfl, by omega, by omega, by omega, by omega, by omega, by omega, hO, fun k => by rw [show t - (t - a) = a by omega, show t + (b - t) = b by omega], permIn_refl d lo hi⟩ Qs ?_
 rintro q s h' ms' ⟨i, j, x, y, d0, m0, rfl, rfl, rfl, rfl, rfl, rfl, hi0, hj0, hai, hjb, hO0, hR, P⟩
 have hds := P.1
 refine Ac (Az (Qm rfl (Qm rfl (Qm rfl (An ?_)))))
 refine Ax rfl (fun hne => ?_) (fun hne => ?_)
 ·refine Ai (Ad (Ah (Az (Qm rfl (Qm rfl (Qm rfl (An ?_)))))))
  refine Ax rfl (fun hgt => ?_) (fun hgt => ?_)
  ·refine Ac (Ab (Qm rfl (Qm rfl (Qm rfl (Qx (oS rfl) rfl (Qm rfl (Qm rfl (Qm rfl (Bg (pre := [m0]) rfl call142 rfl (Fa d0 v cv m0 hO0 (t - i) t j lo hi (by omega) (by omega) (by omega) (by omega) (by omega) (by omega) h (by omega) rfl rfl) rfl rfl rfl rfl (fun r h1 ms1 l1 hF => ?_))))))))))
   obtain ⟨rfl, m1, d1, rfl, hO1, S, P1⟩ := hF
   refine GZ (Qm rfl (Qm rfl (Qx (oS rfl) rfl (Qm rfl (Ak (Aj ?_))))))
   refine Am ((i - j) + j) _ (by omega) ⟨i - j, j, (i : Int) - j, j, d1, m1, rfl, rfl, rfl, rfl, by omega, rfl, by omega, by omega, by omega, by omega, hO1, fun k => (NG (by omega) (by omega) S k).trans (hR k), permIn_trans _ _ _ _ _ P P1⟩ Qs
  ·refine Ac (Ab (Qm rfl (Qm rfl (Qm rfl (Qx (oS rfl) rfl (Qm rfl (Qm rfl (Qx (oA rfl) rfl (Qm rfl (Qx (oS rfl) rfl (Qm rfl (Qm rfl (Bg (pre := [m0]) rfl call142 rfl (Fa d0 v cv m0 hO0 (t - i) (t + j - i) i lo hi (by omega) (by omega) (by omega) (by omega) (by omega) (by omega) h (by omega) (by omega) rfl) rfl rfl rfl rfl (fun r h1 ms1 l1 hF => ?_))))))))))))))
   obtain ⟨rfl, m1, d1, rfl, hO1, S, P1⟩ := hF
   refine GZ (Qm rfl (Qm rfl (Qx (oS rfl) rfl (Qm rfl (Ak (Aj ?_))))))
   refine Am (i + (j - i)) _ (by omega) ⟨i, j - i, i, (j : Int) - i, d1, m1, rfl, rfl, rfl, rfl, rfl, by omega, by omega, by omega, by omega, by omega, hO1, fun k => (Kc (by omega) (by omega) S k).trans (hR k), permIn_trans _ _ _ _ _ P P1⟩ Qs
 ·obtain rfl : i = j := by omega
  refine Aw (Aa (Aa (Ag (Ad (Ab (Qm rfl (Qm rfl (Qm rfl (Qx (oS rfl) rfl (Qm rfl (Qm rfl (Qm rfl (Bg (pre := [m0]) rfl call142 rfl (Fa d0 v cv m0 hO0 (t - i) t i lo hi (by omega) (by omega) (by omega) (by omega) (by omega) (by omega) h (by omega) rfl rfl) rfl rfl rfl rfl (fun r h1 ms1 l1 hF => ?_))))))))))))))
  obtain ⟨rfl, m1, d1, rfl, hO1, S, P1⟩ := hF
  refine Ak ?_
  exact BL rfl (⟨rfl, m1, d1, rfl, hO1, fun k => (NO (by omega) S k).trans (hR k), permIn_trans _ _ _ _ _ P P1⟩)
end Go.Proofs.YtodheebhahdepaaGreat
namespace Go.Proofs.YtodheebhahdepaaGreat
open Go.Proofs.Tryz
open Go.Eng Go.RowKit Go.Lin Go.Sort Go.Srt
theorem NR (d : Array HT) (v : Value) (m : Hp) (hO : OSD m v d) (a b : Nat) (hab : a ≤ b) (hb : b ≤ d.size) (hsz : d.size ≤ 1000000) (h : Hp) (g : Nat) (hg : Q1 h g) {a' b' : Int} (ea : a' = a) (eb : b' = b) :
  FnT Tryz.prog 136 #[v, .int .i64 a', .int .i64 b', (Oh g)] h [m] (fun _ h' ms' => h = h' ∧ ∃ m' d', ms' = [m'] ∧ OSD m' v d' ∧ PermIn a b d d' ∧ SortedIn Ca a b d') := by
 subst ea eb
 have hfin := insertionSort_holds (lt := Ca) HC d a b hab hb
 refine Av func136 ntmps136 rfl rfl (fun w0 hw0 => ?_)
 simp only [A5]
 refine Az (Qm rfl (Qx (oA rfl) rfl (Qm rfl (An (Ah ?_)))))
 refine AD (fun n s h' ms' => ∃ (i : Nat) (z : Int) (d' : Array HT) (m : Hp), n = b - i ∧ s = [(0, v), (1, .int .i64 a), (2, .int .i64 b), (3, (Oh g)), (8, .int .i64 z)] ∧ h = h' ∧ ms' = [m] ∧ z = i ∧ a < i ∧ i ≤ 4611686018427387905 ∧ OSD m v d' ∧ d'.size = d.size ∧ insOuter Ca a b i d' = insertionSort Ca d a b)
  _ _ ⟨a + 1, (a : Int) + 1, d, m, rfl, rfl, rfl, rfl, by omega, by omega, by omega, hO, rfl, rfl⟩ Qs ?_
 rintro n s h' ms' ⟨i, z, d', m, rfl, rfl, rfl, rfl, hz, hai, hi, hO, hds, hR⟩
 refine Ac (Az (Qm rfl (Qm rfl (Qm rfl (An ?_)))))
 refine Ax rfl (fun hlt => ?_) (fun hlt => ?_)
 ·refine Ai (Ad (Ac (Ah (Az (Qm rfl (Qm rfl (An (Ah ?_))))))))
  refine AD (fun n s h' ms' => ∃ (j : Nat) (y : Int) (d' : Array HT) (m : Hp), j = n ∧ s = [(0, v), (1, .int .i64 a), (2, .int .i64 b), (3, (Oh g)), (8, .int .i64 z), (9, .int .i64 y)] ∧ h = h' ∧ ms' = [m] ∧ y = j ∧ j ≤ i ∧ OSD m v d' ∧ d'.size = d.size ∧ insOuter Ca a b (i + 1) (insInner Ca a j d') = insertionSort Ca d a b)
   _ _ ⟨i, z, d', m, rfl, rfl, rfl, rfl, hz, by omega, hO, hds, by rw [← hR]; conv => rhs; unfold insOuter; rw [if_pos (by omega)]⟩ Qs ?_
  rintro n s h' ms' ⟨j, y, d1, m1, rfl, rfl, rfl, rfl, hy, hji, hO1, hds1, hR1⟩
  refine Ac (Ac (Bb 14 CN (by kernel_rfl) rfl (Wm rfl (Wm rfl (Wm rfl (Wm rfl ?_))))))
  refine BV (t := 21) rfl (fun hja => ?_) (fun hja => ?_)
  ·refine AF (Au rfl rfl) rfl rfl rfl rfl (AF (Au rfl rfl) rfl rfl rfl rfl (AF (Au rfl rfl) rfl rfl rfl rfl (AF (Af (j) (hO1.rd (.head _)) rfl underlying57 AR rfl rfl (by omega) (by omega)) rfl rfl rfl rfl (AF (oG rfl underlying81 AR (hO1.get (.head _) (by omega))) rfl rfl rfl rfl (AF (Au rfl rfl) rfl rfl rfl rfl (AF (Au rfl rfl) rfl rfl rfl rfl (AF (oS rfl) rfl rfl rfl rfl (AF (Af (j - 1) (hO1.rd (.head _)) rfl underlying57 AR rfl rfl (by omega) (by omega)) rfl rfl rfl rfl (AF (oG rfl underlying81 AR (hO1.get (.head _) (by omega))) rfl rfl rfl rfl (AU (Qg (B0 rfl rfl call116 rfl (LY _ _ _ g hg _)) rfl (Qg (C0 rfl rfl rfl) rfl (Qm rfl (An ?_))))))))))))))
   refine Bu rfl (fun hl => ?_) (fun hl => ?_)
   ·refine Ai (Ad (Ac (Ah (CS 14 [false, false, true, true, true] CN (by kernel_rfl) (by kernel_rfl) (by kernel_rfl) (Dq rfl rfl rfl rfl (BM rfl rfl) (Dq rfl rfl rfl rfl (BM rfl rfl) (Dq rfl rfl rfl rfl (Ma rfl rfl rfl (by omega)) ?_)))))))
    refine ⟨rfl, ?_⟩
    simp only [DI, zap, List.cons_append, List.nil_append, List.take_succ_cons, List.take_zero, List.drop_succ_cons, List.drop_zero, List.take_nil, List.drop_nil]
    refine Wm rfl (Wm rfl (Dl rfl rfl rfl (Dl rfl rfl rfl (Dl rfl rfl rfl (Wm rfl (Wm rfl (AM (oS rfl) rfl rfl (AM (Af (j - 1) (hO1.rd (.head _)) rfl underlying57 AR rfl rfl (by omega) (by omega)) rfl rfl (AM (oG rfl underlying81 AR (hO1.get (.head _) (by omega))) rfl rfl (Wm rfl (Wm rfl (AM (Af (j) (hO1.rd (.head _)) rfl underlying57 AR rfl rfl (by omega) (by omega)) rfl rfl (AM (oG rfl underlying81 AR (hO1.get (.head _) (by omega))) rfl rfl (AU (Qx (Af (j) (hO1.rd (.head _)) rfl underlying57 AR rfl rfl (by omega) (by omega)) rfl (CP 0 _ hO1 rfl AR rfl rfl rfl (by omega) rfl rfl (fun mhO2 hzhO2 hO2 => Qx (Af (j - 1) (hO2.rd (.head _)) rfl underlying57 AR rfl rfl (by omega) (by omega)) rfl (CP 0 _ hO2 rfl AR rfl rfl rfl (by omega) rfl rfl (fun mhO3 hzhO3 hO3 => Ak (Gj (Aj (Ad (Ab (Qm rfl (Qx (oS rfl) rfl (Qm rfl (Ak ?_)))))))))))))))))))))))))))
    obtain ⟨j', rfl⟩ : ∃ j', j = j' + 1 := ⟨j - 1, by omega⟩
    refine Am j' _ (by omega) ⟨j', y - 1, _, mhO3, rfl, rfl, rfl, rfl, by omega, by omega, hO3, by simp [hds1], ?_⟩ Qs
    rw [← hR1]
    conv => rhs; unfold insInner
    rw [if_pos (by rw [Bool.and_eq_true]; exact ⟨decide_eq_true (by omega), hl⟩)]
    rfl
   ·refine Aw (Aa (Aa (Ag (Aj (Ad (Ab (Qm rfl (Qx (oA rfl) rfl (Qm rfl (Ak ?_))))))))))
    refine Am (b - (i + 1)) _ (by omega) ⟨i + 1, z + 1, d1, m1, rfl, rfl, rfl, rfl, by omega, by omega, by omega, hO1, hds1, ?_⟩ Qs
    rw [← hR1]
    obtain ⟨j', rfl⟩ : ∃ j', j = j' + 1 := ⟨j - 1, by omega⟩
    conv => rhs; unfold insInner
    rw [if_neg (by rw [Bool.and_eq_true]; rintro ⟨_, h2⟩; exact absurd (hl.symm.trans h2) (by decide))]
  ·refine Ap rfl rfl rfl rfl rfl (Ap rfl rfl rfl rfl rfl (Ap rfl rfl rfl rfl rfl (Ap rfl rfl rfl rfl rfl (Ap rfl rfl rfl rfl rfl (Ap rfl rfl rfl rfl rfl (Ap rfl rfl rfl rfl rfl (Ap rfl rfl rfl rfl rfl (Ap rfl rfl rfl rfl rfl (Ap rfl rfl rfl rfl rfl (AU (Qk rfl (Qk rfl (Qm rfl (An (AO rfl (Aw (Aa (Aa (Ag (Aj (Ad (Ab (Qm rfl (Qx (oA rfl) rfl (Qm rfl (Ak ?_))))))))))))))))))))))))))
   refine Am (b - (i + 1)) _ (by omega) ⟨i + 1, z + 1, d1, m1, rfl, rfl, rfl, rfl, by omega, by omega, by omega, hO1, hds1, ?_⟩ Qs
   rw [← hR1]
   cases j with
   | zero => rfl
   | succ j' =>
    conv => rhs; unfold insInner
    rw [if_neg (by simp; intro h'; omega)]
 ·refine Aw (Aa (Aa (Ag ?_)))
  exact BL rfl (⟨rfl, m, insertionSort Ca d a b, rfl, by rw [← hR]; unfold insOuter; rw [if_neg (by omega)]; exact hO, hfin.1, hfin.2⟩)
end Go.Proofs.YtodheebhahdepaaGreat
