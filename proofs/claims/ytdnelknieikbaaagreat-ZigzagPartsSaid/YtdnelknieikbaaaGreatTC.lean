/- Parts of the proof: Eng27 Eng28 Eng29 Eng30 Eng31 Eng32 Eng33 Eng34 Eng36 Eng37 Pr Lb Lc Ld Le. -/
import Derived.Test.YtdnelknieikbaaaGreatTB
import Derived.RangeFuncLeaves
import Derived.RangeFuncRecord
import Derived.OrdersIn
import Derived.TacticsIn
set_option linter.unusedSimpArgs false
set_option linter.unusedVariables false
namespace Go.Eng
open Go.RowKit
variable {n l id t : Nat} {P : Program} {w : World} {a : Act} {next : Act → World → Prop} {y c x : Code} {args : Array Value} {post : Value → Hp → List Hp → Prop}
abbrev FR (l : Nat) : Fence := Fence.wide.inRound l
theorem calls_in {f : FuncId} {R : Ending → World → Prop} (h : Calls P f args w R) : CallsIn (FR l) n P f args w R := by
  have := (callsIn_wide (n := n)).2 h
  exact this
theorem rows_wide {row : String} {R : Value → World → Prop} (h : Rows P row args w R) : RowsIn Fence.wide n P row args w R :=
  fun c cs _ => let ⟨v, w', r, s⟩ := h c cs; ⟨v, w', r, stepsIn_wide.2 s⟩
theorem rows_in {row : String} {R : Value → World → Prop} (h : Rows P row args w R) : RowsIn (FR l) n P row args w R := rows_wide (n := n) h
theorem upon_in {o : Oper} {Q : Exit → Act → World → Prop} {r : Result Next} (h : o.upon P a next Q r) : o.uponIn (FR l) n P a next Q r := by
  have nod : (FR l).depth.isSome = true → 1 ≤ n := fun h => by cases h
  cases r with
  | ok x w' =>
    cases x <;> simp only [Oper.upon] at h <;> simp only [Oper.uponIn] <;>
      first
        | exact h
        | exact ⟨nod, (calls_in h).mono fun e w he => by cases e <;> exact he⟩
        | exact ⟨nod, rows_in h⟩
        | exact h.elim
  | halt x w' => cases x <;> simp only [Oper.upon] at h <;> simp only [Oper.uponIn] <;> first | exact h | exact h.elim
theorem upon_wide {o : Oper} {Q : Exit → Act → World → Prop} {r : Result Next} (h : o.upon P a next Q r) : o.uponIn Fence.wide n P a next Q r := by
  have nod : Fence.wide.depth.isSome = true → 1 ≤ n := fun h => by cases h
  cases r with
  | ok x w' =>
    cases x <;> simp only [Oper.upon] at h <;> simp only [Oper.uponIn] <;>
      first
        | exact h
        | exact ⟨nod, (callsIn_wide.2 h).mono fun e w he => by cases e <;> exact he⟩
        | exact ⟨nod, rows_wide h⟩
        | exact h.elim
  | halt x w' => cases x <;> simp only [Oper.upon] at h <;> simp only [Oper.uponIn] <;> first | exact h | exact h.elim
theorem oper_in {o : Oper} {Q : Exit → Act → World → Prop} (hd : ∀ c, o.op ≠ .defer c) (h : o.wp P a w next Q) : o.wpIn (FR l) n P a w next Q :=
  ⟨fun _ _ => trivial, by rw [Oper.semAt_eq _ _ _ hd]; exact upon_in h⟩
theorem oper_wide {o : Oper} {Q : Exit → Act → World → Prop} (h : o.wp P a w next Q) : o.wpIn Fence.wide n P a w next Q :=
  ⟨fun _ _ => trivial, upon_wide h⟩
def isDef (o : Op) : Bool := match o with
  | .defer _ => true
  | _ => false
theorem isDef_no {o : Op} (h : isDef o = false) (c : Call) : o ≠ .defer c := fun e => by
  have h2 : isDef (.defer c) = true := rfl
  rw [e, h2] at h
  cases h
def noDef : List Oper → Bool
  | [] => true
  | o :: l => !isDef o.op && noDef l
theorem noDef_spec : ∀ {l : List Oper}, noDef l = true → ∀ o ∈ l, ∀ c, o.op ≠ .defer c
  | [], _, o, ho, c => by cases ho
  | o' :: l, h, o, ho, c => by
    simp only [noDef, Bool.and_eq_true, Bool.not_eq_true'] at h
    rcases List.mem_cons.1 ho with rfl | ho
    · exact isDef_no h.1 c
    · exact noDef_spec h.2 o ho c
theorem list_in {k : Nat} {ops : Array Oper} {Q : Exit → Act → World → Prop} (hq : ¬ LetsOut Q) : ∀ (l : List Oper), noDef l = true → ∀ a w, wpList P ops Q l a w → wpListIn (FR k) n P ops Q l a w
  | [], _, a, w, h => h
  | o :: l, hn, a, w, h => by
    have hn2 : noDef l = true := by simp only [noDef, Bool.and_eq_true] at hn; exact hn.2
    have hd := noDef_spec hn o (List.mem_cons_self)
    unfold wpList at h
    unfold wpListIn
    split at h
    · rename_i hw
      rw [if_pos hw]
      rcases h with h | h
      · exact Oper.wpIn_mono (fun a w => list_in hq l hn2 a w) (oper_in hd h)
      · exact absurd h.2 hq
    · rename_i hw
      rw [if_neg hw]
      exact ⟨fun _ _ => trivial, list_in hq l hn2 _ _ h⟩
theorem any_in {k : Nat} {l : List Oper} {Q : Exit → Act → World → Prop} (hq : ¬ LetsOut Q) (hn : noDef l = true) : ∀ fuel listed a w, wpAny P .any l.toArray Q fuel listed a w → wpAnyIn (FR k) n P .any l.toArray Q fuel listed a w := by
  intro fuel
  induction fuel with
  | zero => intro listed a w h; exact h
  | succ fuel ih =>
    intro listed a w h
    refine ⟨h.1, fun i hi => ?_⟩
    have h2 := h.2 i hi
    unfold wpOp at h2
    unfold wpOpIn
    cases ho : l.toArray[i]? with
    | none => rw [ho] at h2; exact ih _ _ _ h2
    | some o =>
      rw [ho] at h2
      simp only at h2 ⊢
      split at h2
      · rename_i hw
        rw [if_pos hw]
        rcases h2 with h2 | h2
        · exact Oper.wpIn_mono (fun a w => ih _ a w) (oper_in (noDef_spec hn o (List.mem_of_getElem? (by simpa using ho))) h2)
        · exact absurd h2.2 hq
      · rename_i hw
        rw [if_neg hw]
        exact ⟨fun _ _ => trivial, ih _ _ _ h2⟩
def RS (e : Entry) (c : Code) (Q : Exit → Act → World → Prop) (s : Slots) (h : Hp) (ms : List Hp) : Prop :=
  ∀ l a w, Has e.n e.ds a s → e.Ends w h ms → ¬ LetsOut Q → c.wpIn (FR l) 0 e.P Q a w
def cR (e : Entry) (y : Code) (Q : Exit → Act → World → Prop) (a : Act) (w : World) : Prop := ∀ l, ¬ LetsOut Q → y.wpIn (FR l) 0 e.P Q a w
section
variable {e : Entry} {Q : Exit → Act → World → Prop} {s s' : Slots} {h : Hp} {ms : List Hp} {ops : Array Oper}
theorem rs_seq (k : RS e x (Exit.then (cR e y Q) Q) s h ms) : RS e (.seq x y) Q s h ms := fun l a w ha hw hq =>
  wpIn_seq (wpIn_mono (k l a w ha hw fun ⟨a, w, h⟩ => hq ⟨a, w, h⟩) fun x a w q => by
    cases x with
    | normal => exact q l hq
    | _ => exact q)
theorem nx_thenR (k : RS e y Q s h ms) : NX e (Exit.then (cR e y Q) Q) .normal s h ms := fun a w ha hw l hq => k l a w ha hw hq
theorem rs_block (k : RS e c (Exit.inBlock id Q) s h ms) : RS e (.block id c) Q s h ms :=
  fun l a w ha hw hq => wpIn_block (k l a w ha hw fun ⟨a, w, h⟩ => hq ⟨a, w, h⟩)
theorem rs_exit (k : NX e Q (.exit id) s h ms) : RS e (.exit id) Q s h ms := fun l a w ha hw _ => wpIn_exit (k a w ha hw)
theorem rs_skip (k : NX e Q .normal s h ms) : RS e .skip Q s h ms := fun l a w ha hw _ => wpIn_skip (k a w ha hw)
theorem rs_cond {b : Bool} (hc : lk s t = some (.bool b)) (kt : b = true → RS e x Q s h ms) (kf : b = false → RS e y Q s h ms) : RS e (.cond (.tmp t) x y) Q s h ms :=
  fun l a w ha hw hq => wpIn_cond_split (ha.eval (.tmp t) _ hc) (fun hb => kt hb l a w ha hw hq) (fun hb => kf hb l a w ha hw hq)
theorem rs_if {p : Prop} {_ : Decidable p} (hc : lk s t = some (.bool (decide p))) (kt : p → RS e x Q s h ms) (kf : ¬ p → RS e y Q s h ms) : RS e (.cond (.tmp t) x y) Q s h ms :=
  rs_cond hc (fun hb => kt (of_decide_eq_true hb)) (fun hb => kf (of_decide_eq_false hb))
theorem rs_region_ {l : List Oper} (hn : noDef l = true) (k : WL e l.toArray Q l s h ms) : RS e (.region id l.toArray false) Q s h ms :=
  fun _ a w ha hw hq => wpIn_region_lit (list_in hq l hn a w (k a w ha hw))
theorem rs_stab {l : List Oper} {bs : List Bool} (m : List Bool) (hm : e.P.follows .mixedOrders = true) (hpu : pureOK (ixs m 0) l.toArray = true) (hbk : backsOK l.toArray = true) (hn : l.length = n)
    (hbs : (List.range n).map (fun i => (ixs m 0).contains i) = bs) (hnd : noDef l = true) (k : PZs e.P l e.n s h (fun z => WB e l.toArray Q h n bs.toArray (z ++ s) h ms) (ixs m 0) []) : RS e (.region id l.toArray true) Q s h ms :=
  fun _ a w ha hw hq => wpIn_region_any hm (any_in hq hnd _ _ _ _ (any_stab m hpu hbk hn hbs k a w ha hw))
theorem rs_perm {ms' : List Hp} (p : ms.Perm ms') (k : RS e c Q s h ms') : RS e c Q s h ms := fun l a w ha hw => k l a w ha (Ends.perm hw p)
theorem rs_loop (I : Nat → Slots → Hp → List Hp → Prop) (n : Nat) (s' : Slots) (hI : I n s' h ms) (hs : Sub s' s)
    (round : ∀ n s h ms, I n s h ms → RS e c (Exit.then (fun a w => ∃ n', n' < n ∧ Inv e (I n') a w) Q) s h ms) : RS e (.loop c) Q s h ms := by
  intro l a w ha hw hq b k cs hro hb hr
  have key : ∀ n a w, Inv e (I n) a w → ∃ x a' w', Q x a' w' ∧ ArrivesIn (Machine.fenced e.P (FR l)) e.P (lone (b.atR a (.code c :: .inLoop c :: k)) cs w) b k cs x a' w' := by
    intro n
    induction n using Nat.strongRecOn with
    | _ n ih =>
      intro a w ⟨s, h, ms, hI, ha, hw⟩
      obtain ⟨x, a₁, w₁, hq1, harr⟩ := round n s h ms hI l a w ha hw (fun ⟨a, w, h⟩ => hq ⟨a, w, h⟩) b (.inLoop c :: k) cs hro hb hr
      cases x with
      | normal =>
        obtain ⟨n', hlt, hinv⟩ := hq1
        obtain ⟨x₂, a₂, w₂, hq₂, harr₂⟩ := ih n' hlt a₁ w₁ hinv
        exact ⟨x₂, a₂, w₂, hq₂, .of_steps (StepsIn.trans harr (.one (fenced_calm hb hr rfl) stepR_inLoop)) harr₂⟩
      | exit id => exact ⟨_, a₁, w₁, hq1, .pass (x := .inLoop c) rfl (fun _ _ => .inl (by simp)) harr⟩
      | goto l => exact ⟨_, a₁, w₁, hq1, .pass (x := .inLoop c) rfl (fun _ _ => .inl (by simp)) harr⟩
      | ret => exact ⟨_, a₁, w₁, hq1, .pass (x := .inLoop c) rfl (fun _ _ => .inl (by simp)) harr⟩
      | panic ch => exact ⟨_, a₁, w₁, hq1, .pass (x := .inLoop c) rfl (fun _ _ => .inl (by simp)) harr⟩
      | outgrown => exact ⟨_, a₁, w₁, hq1, .pass (x := .inLoop c) rfl (fun _ _ => .inl (by simp)) harr⟩
  obtain ⟨x, a', w', hq, harr⟩ := key n a w ⟨s', h, ms, hI, ha.sub hs, hw⟩
  exact ⟨x, a', w', hq, .of_steps (.one (fenced_calm hb hr rfl) stepR_loop) harr⟩
end
abbrev endR (e : Entry) (I : Slots → Hp → List Hp → Prop) : Exit → Act → World → Prop := Exit.then (Inv e I) (fun _ _ _ => False)
theorem endR_in {e : Entry} {I : Slots → Hp → List Hp → Prop} : ¬ LetsOut (endR e I) := fun ⟨_, _, h⟩ => h
def YdT (P : Program) (l : Nat) (args : Array Value) (h : Hp) (ms : List Hp) (post : Value → Hp → List Hp → Prop) : Prop :=
  ∀ w, St w h ms → ∃ fn tmps assign body, (Instr.yield l args).run P w = .ok (.round l fn tmps assign body) w ∧ RoundIn Fence.wide 0 P l fn tmps assign body w (RP w h ms post)
def IL (e : Entry) (ops : Array Oper) (Q : Exit → Act → World → Prop) (l : List Oper) (s : Slots) (h : Hp) (ms : List Hp) : Prop :=
  ∀ a w, Has e.n e.ds a s → e.Ends w h ms → wpListIn Fence.wide 0 e.P ops Q l a w
section
variable {e : Entry} {Q : Exit → Act → World → Prop} {s : Slots} {h : Hp} {ms : List Hp} {ops : Array Oper} {o : Oper} {rest : List Oper}
theorem ws_regionI {l : List Oper} (k : IL e l.toArray Q l s h ms) : WS e (.region id l.toArray false) Q s h ms :=
  fun a w ha hw => wpIn_wide.1 (wpIn_region_lit (k a w ha hw))
theorem il_nil (k : NX e Q .normal s h ms) : IL e ops Q [] s h ms := fun a w ha hw => k a w ha hw
theorem il_x {d : Nat} {v : Value} (hx : OX e.P o s h ms v) (hd : o.dst = some d) (hn : Nat.blt d e.n = true) (hg : o.guard = none) (k : IL e ops Q rest ((d, v) :: s) h ms) : IL e ops Q (o :: rest) s h ms := fun a w ha hw => by
  unfold wpListIn
  rw [if_pos (by simp [Region.wanted, hg])]
  refine oper_wide ((hx a.eval w ha.eval hw.st).wp fun v' w' ⟨e1, e2⟩ => ?_)
  subst e1; rw [hd]
  exact k _ _ (ha.put (Nat.le_of_ble_eq_true hn) _) (hw.ext e2)
theorem il_yield {x : Operand} {lp : Nat} {l : List Operand} {ts : Array TypeId} {vs : List Value} {d : Nat} (ho : o.op = .call { callee := .value x, args := l.toArray, argTypes := ts }) (hx : ev s x = some (.func (.yield lp) #[] #[])) (ha : evs s l = some vs) (k : YdT e.P lp vs.toArray h ms post) (hd : o.dst = some d) (hn : Nat.blt d e.n = true) (hg : o.guard = none)
    (K : ∀ v h' ms', h.le h' → post v h' ms' → IL e ops Q rest ((d, v) :: s) h' ms') : IL e ops Q (o :: rest) s h ms := fun a w hA hw => by
  unfold wpListIn
  rw [if_pos (by simp [Region.wanted, hg])]
  obtain ⟨fn, tmps, assign, body, hy, hr⟩ := k w hw.st
  have hrun : (execOp a.eval o).run e.P w = .ok (.round lp fn tmps assign body) w := by
    simp [execOp, ho, resolve, hA.eval _ _ hx, Deferred.ofValue, invoke, (show Evs s a.eval from hA.eval).map l vs ha, hy]
  refine ⟨fun _ _ => trivial, ?_⟩
  rw [Oper.semAt_eq _ _ _ (fun c e => by rw [ho] at e; cases e), hrun]
  refine ⟨(fun h => by cases h), hr.mono fun x w' ⟨r, h', ms', e1, e2, e3⟩ => ?_⟩
  subst e1
  show wpListIn _ _ _ _ _ _ (a.put o.dst r) w'
  rw [hd]
  refine K r h' ms' e2.le e3 _ _ (hA.put (Nat.le_of_ble_eq_true hn) _) ?_
  have := Ends.call (fr := []) (by rw [List.append_nil]; exact hw) e2
  rwa [List.append_nil] at this
end
def Itr (P : Program) (gf : FuncId) (lb : List Value) (h : Hp) (N : Nat) (enc : Nat → List Value) : Prop :=
  ∀ (lp : Nat) (X : Nat → Hp → List Hp → Prop) (h1 : Hp) (ms : List Hp), h.le h1 → (∀ k h2 ms2, k < N → h1.le h2 → X k h2 ms2 → YdT P lp (enc k).toArray h2 ms2 (fun r h' ms' => r = .bool true ∧ X (k + 1) h' ms')) → X 0 h1 ms →
    FnT P gf ([Value.func (.yield lp) #[] #[]] ++ lb).toArray h1 ms (fun _ h' ms' => X N h' ms')
def parS : List Nat → List Value → Slots → Slots
  | p :: ps, v :: vs, s => parS ps vs ((p, v) :: s)
  | _, _, s => s
theorem has_par {ds : List Nat} {D : List Deferred} (hD : D = mkD ds) : ∀ (ps : List Nat) (vs : List Value) (s : Slots) (t : Array Value), (∀ p ∈ ps, p < n) → Has n ds { tmps := t, defers := D } s → Has n ds { tmps := (ps.zip vs).foldl (fun t (p, v) => t.setIfInBounds p v) t, defers := D } (parS ps vs s)
  | [], vs, s, t, _, H => by cases vs <;> exact H
  | p :: ps, [], s, t, _, H => H
  | p :: ps, v :: vs, s, t, hp, H => by
    show Has n ds { tmps := (ps.zip vs).foldl (fun t (p, v) => t.setIfInBounds p v) (t.setIfInBounds p v), defers := D } (parS ps vs ((p, v) :: s))
    exact has_par hD ps vs _ _ (fun q hq => hp q (List.mem_cons_of_mem _ hq)) (H.put (hp p List.mem_cons_self) v)
def Mk (D : Nat) : Hp := Hp.one D (.deferred (some []))
theorem Ends.putL {w0 : World} {h0 h : Hp} {ms0 ms : List Hp} {o : Obj} (o' : Obj) (H : Ends w0 h0 ms0 w h (Hp.one l o :: ms)) : Ends w0 h0 ms0 (w.putObj l o') h (Hp.one l o' :: ms) := by
  have hl : w.heap[l]? = some o := H.st.own _ (List.mem_cons_self) l o (Hp.one_self l o)
  have hlt := (Array.getElem?_eq_some_iff.1 hl).1
  exact H.change rfl ⟨rfl, Nat.le_refl _⟩ rfl (by simp) (World.putObj_heap_same hlt) fun k _ hk => World.putObj_heap_other hk
theorem ws_rangeFunc {e : Entry} {Q : Exit → Act → World → Prop} {s : Slots} {h : Hp} {ms : List Hp} {gf : Nat} {lb : List Value} {ps : List Nat} {assign body : Code} (J : Nat → Hp → List Hp → Prop) (A : Nat → Slots → Hp → List Hp → Prop) {N : Nat} {enc : Nat → List Value}
    (hg : lk s t = some (.func (.func gf) #[] lb.toArray)) (hc : ∀ as w, (callFunc gf as).run e.P w = .ok (.enter gf as) w) (hit : Itr e.P gf lb h N enc) (hps : ∀ k, (enc k).length = ps.length) (hpn : ps.all (fun p => Nat.blt p e.n) = true)
    (h0 : J 0 h ms)
    (hA : ∀ w0 k h1 ms1, k < N → h.le h1 → J k h1 ms1 → RS ⟨e.P, w0, h1, ms1, e.n, []⟩ assign (endR ⟨e.P, w0, h1, ms1, e.n, []⟩ (A k)) (parS ps (enc k) s) h1 ms1)
    (hB : ∀ w0 k s1 h1 ms1, k < N → h.le h1 → A k s1 h1 ms1 → RS ⟨e.P, w0, h1, ms1, e.n, []⟩ body (endR ⟨e.P, w0, h1, ms1, e.n, []⟩ (fun _ => J (k + 1))) s1 h1 ms1)
    (hK : ∀ D h1 ms1, h.le h1 → J N h1 ms1 → NX ⟨e.P, e.w0, e.h0, e.ms0, e.n, D :: e.ds⟩ Q .normal s h1 (ms1 ++ [Mk D])) :
    WS e (.rangeFunc (.tmp t) ps.toArray assign body) Q s h ms := by
  intro a w ha hw
  refine (wpIn_wide (n := 0)).1 (wpIn_rangeFunc fun fn _ => ?_)
  have hge : a.eval (.tmp t) = .func (.func gf) #[] lb.toArray := ha.eval (.tmp t) _ hg
  obtain ⟨rec, hrec⟩ : ∃ rec : LoopState → Loop, rec = fun st => { state := st, pending := none, fn, tmps := a.tmps, params := ps.toArray, assign, body, defers := w.heap.size } := ⟨_, rfl⟩
  obtain ⟨l, hl⟩ : ∃ l, l = w.heap.size + 1 := ⟨_, rfl⟩
  obtain ⟨W1, hW1⟩ : ∃ W1, (w.alloc (.deferred (some []))).alloc (.loop (rec .ready)) = W1 := ⟨_, rfl⟩
  have hE1 : e.Ends W1 h (ms ++ [Hp.one l (.loop (rec .ready)), Mk w.heap.size]) := by
    have h2 := (hw.alloc (.deferred (some []))).alloc (.loop (rec .ready))
    rw [World.size_alloc, ← hl, hW1] at h2
    exact h2.perm (by
      refine List.Perm.trans ?_ List.perm_append_comm
      exact List.Perm.refl _)
  have hN : w.heap.size = w.heap.size := rfl
  refine ⟨l, [{ target := .collected w.heap.size, args := #[] }], W1, { target := .fn (.func gf) lb.toArray, args := #[.func (.yield l) #[] #[]] }, W1, gf, ([Value.func (.yield l) #[] #[]] ++ lb).toArray, W1, ?_, ?_, fun _ _ => trivial, ?_, (fun h => by cases h), ?_⟩
  · rw [← hW1, hrec, hl]; exact run_enterLoop_outer _ _ _ _ _
  · simp only [resolve, hge]
    simp [go_sem]
  · simp [invoke, go_sem, hc]
  · refine (callsIn_wide (n := 0)).2 ((hit l (fun k h1 ms1 => h.le h1 ∧ ∃ ms2, ms1 = ms2 ++ [Hp.one l (.loop (rec .ready)), Mk w.heap.size] ∧ J k h1 ms2) h _ (Hp.le_refl _) ?_ ⟨Hp.le_refl _, ms, rfl, h0⟩ W1 hE1.st).mono ?_)
    · -- a round
      rintro k h2 ms2 hkN hl2 ⟨_, ms2, rfl, hJ⟩ w2 hS2
      have hlo : w2.heap[l]? = some (.loop (rec .ready)) := hS2.own _ (by simp) l _ (Hp.one_self _ _)
      have hy := run_yield (P := e.P) (args := (enc k).toArray) hlo (by rw [hrec]; simpa using hps k)
      refine ⟨_, _, _, _, hy, ?_⟩
      have r1 : (rec .ready).params = ps.toArray := by rw [hrec]
      have r2 : (rec .ready).tmps = a.tmps := by rw [hrec]
      have r3 : (rec .ready).assign = assign := by rw [hrec]
      have r4 : (rec .ready).body = body := by rw [hrec]
      rw [r1, r2, r3, r4]
      refine roundIn_of_wpIn trivial ?_
      have hSp : St w2 h2 ms2 := hS2.pre
      have hHas : Has e.n [] { tmps := (ps.toArray.zip (enc k).toArray).foldl (fun t (p, v) => t.setIfInBounds p v) a.tmps, defers := [] } (parS ps (enc k) s) := by
        have e1 : (ps.toArray.zip (enc k).toArray).foldl (fun t (p, v) => t.setIfInBounds p v) a.tmps = (ps.zip (enc k)).foldl (fun t (p, v) => t.setIfInBounds p v) a.tmps := by simp
        rw [e1]
        exact has_par rfl ps (enc k) s a.tmps (fun p hp => Nat.le_of_ble_eq_true (List.all_eq_true.1 hpn p hp)) ⟨rfl, ha.size, ha.slots⟩
      refine wpIn_mono (hA w2 k h2 ms2 hkN hl2 hJ l _ w2 hHas (Ends.refl hSp) endR_in) ?_
      intro x a1 w3 hx
      cases x with
      | normal =>
        obtain ⟨s3, h3, ms3, hA3, hHas3, hE3⟩ := hx
        have hEf : Ends w2 h2 (ms2 ++ [Hp.one l (.loop (rec .ready)), Mk w.heap.size]) w3 h3 (ms3 ++ [Hp.one l (.loop (rec .ready)), Mk w.heap.size]) := Ends.call (Ends.refl hS2) hE3
        have hEp := hEf.perm (ms' := Hp.one l (.loop (rec .ready)) :: Mk w.heap.size :: ms3) List.perm_append_comm
        have hl3 : w3.heap[l]? = some (.loop (rec .ready)) := hEp.st.own _ (List.mem_cons_self) l _ (Hp.one_self _ _)
        have hE4 := Ends.putL (.loop (rec .busy)) hEp
        refine ⟨_, run_beginRound hl3 (by rw [hrec]), ?_⟩
        have e2 : ({ rec .ready with state := .busy } : Loop) = rec .busy := by rw [hrec]
        rw [e2]
        have hE4' := hE4.perm (ms' := ms3 ++ [Hp.one l (.loop (rec .busy)), Mk w.heap.size]) (List.perm_append_comm (l₁ := [_, _]))
        refine wpIn_mono (hB _ k s3 h3 ms3 hkN (Hp.le_trans hl2 hE3.le) hA3 l a1 _ hHas3 (Ends.refl hE4'.st.pre) endR_in) ?_
        intro y a2 w5 hy5
        cases y with
        | normal =>
          obtain ⟨s5, h5, ms5, hJ5, _, hE5⟩ := hy5
          have hE6 := Ends.call hE4' hE5
          have hE6p := hE6.perm (ms' := Hp.one l (.loop (rec .busy)) :: Mk w.heap.size :: ms5) List.perm_append_comm
          have hl6 : w5.heap[l]? = some (.loop (rec .busy)) := hE6p.st.own _ (List.mem_cons_self) l _ (Hp.one_self _ _)
          refine ⟨_, _, run_endRound none hl6, ?_⟩
          have e3 : ({ rec .busy with state := if (none : Option Code).isNone then .ready else .done, pending := none } : Loop) = rec .ready := by rw [hrec]; rfl
          rw [e3]
          exact ⟨_, h5, _, rfl, (Ends.putL (.loop (rec .ready)) hE6p).perm (List.perm_append_comm (l₁ := [_, _])), rfl, Hp.le_trans hl2 (Hp.le_trans hE3.le hE5.le), ms5, rfl, hJ5⟩
        | _ => exact hy5.elim
      | _ => exact hx
    · rintro x w3 ⟨r, h3, ms3, rfl, hE3, hl3, ms4, rfl, hJ⟩
      have hE4 := Ends.call (fr := []) (by rw [List.append_nil]; exact hE1) hE3
      rw [List.append_nil] at hE4
      have hE5 := hE4.perm (ms' := Hp.one l (.loop (rec .ready)) :: Mk w.heap.size :: ms4) List.perm_append_comm
      have hl5 : w3.heap[l]? = some (.loop (rec .ready)) := hE5.st.own _ (List.mem_cons_self) l _ (Hp.one_self _ _)
      refine ⟨_, _, run_endLoop hl5 (by rw [hrec]; simp), ?_⟩
      have e4 : (rec .ready).pending = none := by rw [hrec]
      rw [e4]
      exact hK w.heap.size h3 ms4 hl3 hJ { a with defers := [{ target := .collected w.heap.size, args := #[] }] ++ a.defers } _ ⟨by show [_] ++ a.defers = _; rw [ha.defers]; rfl, ha.size, ha.slots⟩ ((Ends.putL _ hE5).drop.perm (List.perm_append_comm (l₁ := [_])))
theorem fn_enterM {f : FuncId} {fn : Func} {l : List Value} {h : Hp} {ms : List Hp}
    (hf : P.funcs[f]? = some fn) (hn : fn.ntmps = n) (hb : fn.body = some c) (hl : Nat.ble l.length n = true)
    (k : ∀ w0, St w0 h ms → WS ⟨P, w0, h, ms, n, []⟩ c (bodyPostM Fence.wide 0 P fn (RP w0 h ms post)) (argS 0 l) h ms) : FnT P f l.toArray h ms post := by
  intro w hw
  refine (callsIn_wide (n := 0)).1 (callsIn_of_wp_marks hf hb trivial (wpIn_wide.2 (k w hw _ w ?_ (Ends.refl hw))))
  have hl' := Nat.le_of_ble_eq_true hl
  refine ⟨rfl, by simp [hn]; omega, fun i v e => ?_⟩
  obtain ⟨_, h2⟩ := lk_argS l 0 i v e
  have hi : i < l.length := by
    rcases Nat.lt_or_ge i l.length with h' | h'
    · exact h'
    · rw [List.getElem?_eq_none (by omega)] at h2; cases h2
  simp only [Nat.sub_zero] at h2
  rw [Array.getElem?_append_left (by simpa using hi)]
  simpa using h2
theorem nx_mark {w0 : World} {h0 : Hp} {ms0 : List Hp} {D : Nat} {fn : Func} {s : Slots} {h : Hp} {ms : List Hp} {x : Exit} (i : Nat) (hx : x = .normal ∨ x = .ret) (hm : ms[i]? = some (Mk D)) (k : NX ⟨P, w0, h0, ms0, n, []⟩ (bodyPost P fn (RP w0 h0 ms0 post)) x s h (ms.eraseIdx i)) :
    NX ⟨P, w0, h0, ms0, n, [D]⟩ (bodyPostM Fence.wide 0 P fn (RP w0 h0 ms0 post)) x s h ms := by
  intro a w ha hw
  have hp := hw.perm (perm_eraseIdx hm)
  have hD : w.heap[D]? = some (.deferred (some [])) := hp.st.own _ (List.mem_cons_self) D _ (Hp.one_self _ _)
  have hE := (Ends.putL (.deferred none) hp).drop
  have hb := k { a with defers := [] } _ ⟨rfl, ha.size, ha.slots⟩ hE
  have hd : a.defers = [{ target := .collected D, args := #[] }] := ha.defers
  have goal : LeavesInM Fence.wide 0 P fn a.tmps (RP w0 h0 ms0 post) a.defers .returning w := by
    rw [hd]
    refine ⟨by simp, .inl ⟨D, _, rfl, run_takeDeferred hD, ?_⟩⟩
    rcases hx with rfl | rfl <;> · obtain ⟨_, v, hr, hR⟩ := hb; exact ⟨v, hr, hR⟩
  rcases hx with rfl | rfl <;> exact goal
end Go.Eng
namespace Go.Eng
open Go.RowKit
variable {f : Nat → Hp} {N l : Nat} {m : Hp} {R : Nat → Hp → Prop}
def joinN (f : Nat → Hp) : Nat → Hp
  | 0 => Hp.emp
  | n + 1 => (joinN f n).join (f n)
def updF (f : Nat → Hp) (l : Nat) (m : Hp) : Nat → Hp := fun k => if k = l then m else f k
theorem updF_self (f : Nat → Hp) (l : Nat) (m : Hp) : updF f l m l = m := if_pos rfl
theorem updF_ne (f : Nat → Hp) {k : Nat} (m : Hp) (h : k ≠ l) : updF f l m k = f k := if_neg h
theorem joinN_none {g : Nat} : ∀ {n : Nat}, joinN f n g = none ↔ ∀ i, i < n → f i g = none
  | 0 => ⟨fun _ i h => by omega, fun _ => rfl⟩
  | n + 1 => by
    show (match joinN f n g with | some o => some o | none => f n g) = none ↔ _
    cases h : joinN f n g with
    | some o =>
      constructor
      · intro e; cases e
      · intro e
        have := (joinN_none (n := n)).2 fun i hi => e i (by omega)
        rw [h] at this; cases this
    | none =>
      constructor
      · intro e i hi
        rcases (by omega : i < n ∨ i = n) with h2 | rfl
        · exact joinN_none.1 h i h2
        · exact e
      · intro e; exact e n (by omega)
def Dj (N : Nat) (f : Nat → Hp) : Prop := ∀ i j, i < N → j < N → i ≠ j → (f i).disj (f j)
theorem joinN_some {g : Nat} {o : Obj} : ∀ {n : Nat}, Dj n f → ∀ {l : Nat}, l < n → f l g = some o → joinN f n g = some o
  | n + 1, hd, l, hl, e => by
    show (match joinN f n g with | some o => some o | none => f n g) = some o
    rcases (by omega : l < n ∨ l = n) with h | rfl
    · rw [joinN_some (fun i j hi hj => hd i j (by omega) (by omega)) h e]
    · have : joinN f l g = none := joinN_none.2 fun i hi => by
        rcases hd i l (by omega) (by omega) (by omega) g with h | h
        · exact h
        · rw [h] at e; cases e
      rw [this]; exact e
theorem Dj.upd (h : Dj N f) (l : Nat) : Dj N (updF f l Hp.emp) := fun i j hi hj hne g => by
  by_cases h1 : i = l
  · subst h1; left; rw [updF_self]; rfl
  · by_cases h2 : j = l
    · subst h2; right; rw [updF_self]; rfl
    · rw [updF_ne f _ h1, updF_ne f _ h2]; exact h i j hi hj hne g
theorem joinN_open (hd : Dj N f) (hl : l < N) : joinN f N = (f l).join (joinN (updF f l Hp.emp) N) ∧ (f l).disj (joinN (updF f l Hp.emp) N) := by
  have key : ∀ g, f l g ≠ none → joinN (updF f l Hp.emp) N g = none := fun g hg => joinN_none.2 fun i hi => by
    by_cases h : i = l
    · subst h; rw [updF_self]; rfl
    · rw [updF_ne f _ h]
      rcases hd i l hi hl h g with h2 | h2
      · exact h2
      · exact absurd h2 hg
  constructor
  · funext g
    show _ = match f l g with | some o => some o | none => joinN (updF f l Hp.emp) N g
    cases h : f l g with
    | some o => exact joinN_some hd hl h
    | none =>
      show joinN f N g = joinN (updF f l Hp.emp) N g
      cases h2 : joinN (updF f l Hp.emp) N g with
      | none =>
        refine joinN_none.2 fun i hi => ?_
        by_cases h3 : i = l
        · subst h3; exact h
        · have := joinN_none.1 h2 i hi
          rwa [updF_ne f _ h3] at this
      | some o =>
        have : ∃ i, i < N ∧ updF f l Hp.emp i g ≠ none := Classical.byContradiction fun hc => by
          have := (joinN_none (f := updF f l Hp.emp) (g := g) (n := N)).2 fun i hi => Classical.byContradiction fun hn => hc ⟨i, hi, hn⟩
          rw [h2] at this; cases this
        obtain ⟨i, hi, hne⟩ := this
        obtain ⟨o', ho'⟩ := Hp.ne_none hne
        have := joinN_some (hd.upd l) hi ho'
        rw [h2] at this; cases this
        have hil : i ≠ l := fun he => by subst he; rw [updF_self] at ho'; cases ho'
        rw [updF_ne f _ hil] at ho'
        exact joinN_some hd hi ho'
  · intro g
    by_cases h : f l g = none
    · exact .inl h
    · exact .inr (key g h)
def Bag (N : Nat) (R : Nat → Hp → Prop) (m : Hp) : Prop := ∃ f : Nat → Hp, Dj N f ∧ m = joinN f N ∧ ∀ l, l < N → R l (f l)
theorem Bag.zero (R : Nat → Hp → Prop) : Bag 0 R Hp.emp := ⟨fun _ => Hp.emp, fun i j h => by omega, rfl, fun l h => by omega⟩
theorem Bag.mono {R' : Nat → Hp → Prop} (B : Bag N R m) (h : ∀ l, l < N → ∀ x, R l x → R' l x) : Bag N R' m :=
  let ⟨f, h1, h2, h3⟩ := B
  ⟨f, h1, h2, fun l hl => h l hl _ (h3 l hl)⟩
theorem disj_joinN {n : Nat} : m.disj (joinN f n) ↔ ∀ i, i < n → m.disj (f i) := by
  constructor
  · intro h i hi g
    rcases h g with h1 | h1
    · exact .inl h1
    · exact .inr (joinN_none.1 h1 i hi)
  · intro h g
    by_cases hg : m g = none
    · exact .inl hg
    · refine .inr (joinN_none.2 fun i hi => ?_)
      rcases h i hi g with h1 | h1
      · exact absurd h1 hg
      · exact h1
theorem joinN_congr {f' : Nat → Hp} : ∀ {n : Nat}, (∀ i, i < n → f i = f' i) → joinN f n = joinN f' n
  | 0, _ => rfl
  | n + 1, h => by
    show (joinN f n).join (f n) = (joinN f' n).join (f' n)
    rw [joinN_congr fun i hi => h i (by omega), h n (by omega)]
theorem Bag.snoc {x : Hp} (B : Bag N R m) (hx : R N x) (hd : m.disj x) : Bag (N + 1) R (m.join x) := by
  obtain ⟨f, h1, rfl, h3⟩ := B
  have hc : joinN (updF f N x) N = joinN f N := joinN_congr fun i hi => updF_ne f x (by omega)
  refine ⟨updF f N x, fun i j hi hj hne => ?_, ?_, fun l hl => ?_⟩
  · have hd' := disj_joinN.1 (Hp.disj_symm hd)
    rcases (by omega : i < N ∨ i = N) with h | rfl
    · rw [updF_ne f x (by omega : i ≠ N)]
      rcases (by omega : j < N ∨ j = N) with h2 | rfl
      · rw [updF_ne f x (by omega : j ≠ N)]; exact h1 i j h h2 hne
      · rw [updF_self]; exact Hp.disj_symm (hd' i h)
    · rw [updF_self, updF_ne f x (by omega : j ≠ i)]
      exact hd' j (by omega)
  · show _ = (joinN (updF f N x) N).join (updF f N x N)
    rw [hc, updF_self]
  · rcases (by omega : l < N ∨ l = N) with h | rfl
    · rw [updF_ne f x (by omega)]; exact h3 l h
    · rw [updF_self]; exact hx
theorem Bag.open (B : Bag N R m) (hl : l < N) : ∃ m1 m2, m = m1.join m2 ∧ m1.disj m2 ∧ R l m1 ∧ (∀ k, k < N → k ≠ l → ∃ x, x.le m2 ∧ R k x) ∧
    ∀ (R' : Nat → Hp → Prop) m1', m1'.disj m2 → R' l m1' → (∀ k, k < N → k ≠ l → ∀ x, R k x → R' k x) → Bag N R' (m1'.join m2) := by
  obtain ⟨f, h1, rfl, h3⟩ := B
  obtain ⟨e1, e2⟩ := joinN_open h1 hl
  refine ⟨f l, _, e1, e2, h3 l hl, fun k hk hne => ⟨f k, fun g o ho => ?_, h3 k hk⟩, fun R' m1' hd hR hk => ⟨updF f l m1', ?_, ?_, fun k hkN => ?_⟩⟩
  · exact joinN_some (h1.upd l) hk (by rw [updF_ne f _ hne]; exact ho)
  · have hd' := disj_joinN.1 hd
    intro i j hi hj hne
    by_cases hil : i = l
    · subst hil
      rw [updF_self, updF_ne f _ (Ne.symm hne)]
      have := hd' j hj
      rwa [updF_ne f _ (Ne.symm hne)] at this
    · rw [updF_ne f _ hil]
      by_cases hjl : j = l
      · subst hjl
        rw [updF_self]
        have := hd' i hi
        rw [updF_ne f _ hil] at this
        exact Hp.disj_symm this
      · rw [updF_ne f _ hjl]; exact h1 i j hi hj hne
  · have hD : Dj N (updF f l m1') := by
      have hd' := disj_joinN.1 hd
      intro i j hi hj hne
      by_cases hil : i = l
      · subst hil
        rw [updF_self, updF_ne f _ (Ne.symm hne)]
        have := hd' j hj
        rwa [updF_ne f _ (Ne.symm hne)] at this
      · rw [updF_ne f _ hil]
        by_cases hjl : j = l
        · subst hjl
          rw [updF_self]
          have := hd' i hi
          rw [updF_ne f _ hil] at this
          exact Hp.disj_symm this
        · rw [updF_ne f _ hjl]; exact h1 i j hi hj hne
    have := (joinN_open hD hl).1
    rw [updF_self] at this
    rw [this]
    congr 1
    refine joinN_congr fun i _ => ?_
    by_cases hil : i = l
    · subst hil; rw [updF_self, updF_self]
    · rw [updF_ne _ _ hil, updF_ne _ _ hil, updF_ne _ _ hil]
  · by_cases hkl : k = l
    · subst hkl; rw [updF_self]; exact hR
    · rw [updF_ne f _ hkl]; exact hk k hkN hkl _ (h3 k hkN)
theorem Bag.all (B : Bag N R m) : ∀ k, k < N → ∃ x, x.le m ∧ R k x := fun k hk => by
  obtain ⟨f, h1, rfl, h3⟩ := B
  exact ⟨f k, fun g o ho => joinN_some h1 hk ho, h3 k hk⟩
def joinL : Hp → List Hp → Hp
  | h, [] => h
  | h, m :: ms => joinL (h.join m) ms
theorem St.freezeL {w : World} : ∀ {fr : List Hp} {h : Hp} {pre : List Hp}, St w h (pre ++ fr) → St w (joinL h fr) pre
  | [], h, pre, s => by
    show St w h pre
    simpa using s
  | m :: fr, h, pre, s => by
    have h1 : St w h (m :: (pre ++ fr)) := (Ends.perm (Ends.refl s) List.perm_middle).st
    show St w (joinL (h.join m) fr) pre
    exact St.freezeL (Ends.freeze (Ends.refl h1)).st
theorem joinL_le : ∀ {fr : List Hp} {h : Hp}, h.le (joinL h fr)
  | [], h => Hp.le_refl _
  | m :: fr, h => Hp.le_trans (Hp.le_join h m) joinL_le
theorem joinL_in : ∀ {fr : List Hp} {h : Hp}, (∀ m ∈ fr, m.disj h) → fr.Pairwise Hp.disj → ∀ m ∈ fr, m.le (joinL h fr)
  | m' :: fr, h, hd, hp, m, hm => by
    have hp' := List.pairwise_cons.1 hp
    rcases List.mem_cons.1 hm with rfl | hm
    · exact Hp.le_trans (Hp.join_le_right (hd _ List.mem_cons_self)) joinL_le
    · refine joinL_in (h := h.join m') (fun m hm => ?_) hp'.2 m hm
      refine Hp.disj_symm (Hp.disj_join (Hp.disj_symm (hd m (List.mem_cons_of_mem _ hm))) (hp'.1 m hm))
theorem fnt_read {P : Program} {f : FuncId} {args : Array Value} {h : Hp} {pre fr : List Hp} {post : Value → List Hp → Prop} (k : ∀ h', h.le h' → (∀ m ∈ fr, m.le h') → FnT P f args h' pre (fun r _ ms' => post r ms')) : FnT P f args h (pre ++ fr) (fun r h2 ms2 => h = h2 ∧ ∃ ms', ms2 = ms' ++ fr ∧ post r ms') := fun w hw => by
  have hap := List.pairwise_append.1 hw.apart
  refine ((k (joinL h fr) joinL_le (joinL_in (fun m hm => hw.off m (List.mem_append_right _ hm)) hap.2.1)) w hw.freezeL).mono fun x w' ⟨r, h', ms', e1, e2, e3⟩ => ⟨r, h, ms' ++ fr, e1, ?_, rfl, ms', rfl, e3⟩
  -- what was frozen is owned again
  have hin : ∀ m ∈ fr, m.le h' := fun m hm => Hp.le_trans (joinL_in (fun m hm => hw.off m (List.mem_append_right _ hm)) hap.2.1 m hm) e2.le
  have hle : h.le h' := Hp.le_trans joinL_le e2.le
  have hoff : ∀ m ∈ ms', ∀ m' , m'.le h' → m.disj m' := fun m hm m' hl g => by
    rcases e2.st.off m hm g with h1 | h1
    · exact .inl h1
    · refine .inr ?_
      cases h2 : m' g with
      | none => rfl
      | some o => rw [hl g o h2] at h1; cases h1
  refine ⟨⟨fun g o ho => e2.st.imm g o (hle g o ho), fun m hm => ?_, fun m hm => ?_, ?_⟩, e2.os, e2.tape, e2.output, e2.size, fun k hk hn => ?_, Hp.le_refl _, fun _ _ _ => rfl, fun m hm k hk hne => ?_⟩
  · rcases List.mem_append.1 hm with hm | hm
    · exact e2.st.own m hm
    · exact fun g o ho => e2.st.imm g o (hin m hm g o ho)
  · rcases List.mem_append.1 hm with hm | hm
    · exact hoff m hm h hle
    · exact hw.off m (List.mem_append_right _ hm)
  · exact List.pairwise_append.2 ⟨e2.st.apart, hap.2.1, fun m hm m' hm' => hoff m hm m' (hin m' hm')⟩
  · exact e2.block k hk fun m hm => hn m (List.mem_append_left _ hm)
  · rcases List.mem_append.1 hm with hm | hm
    · obtain ⟨m0, h1, h2⟩ := e2.mnew m hm k hk hne
      exact ⟨m0, List.mem_append_left _ h1, h2⟩
    · exact ⟨m, List.mem_append_right _ hm, hne⟩
theorem Hp.le_joinl {a b : Hp} : a.le (a.join b) := Hp.le_join a b
theorem Hp.le_joinr {a b : Hp} (h : a.disj b) : b.le (a.join b) := Hp.join_le_right (Hp.disj_symm h)
theorem Hp.emp_join (a : Hp) : Hp.emp.join a = a := rfl
theorem wl_appendV {α : Type} {F : α → List Value} {e : Entry} {Q : Exit → Act → World → Prop} {ops : Array Oper} {rest : List Oper} {o : Oper} {s : Slots} {h : Hp} {ms : List Hp} {t el : TypeId} {sz d : Nat} {z : Value} {bytes : Nat} {x y : Operand} {v u : Value} {l r : List α} (i : Nat) (O : OwnL F sz el m v l) (R : RdL F sz h ms u r) (ho : o.op = .call { callee := .builtin .append, args := #[x, y], argTypes := #[t, t] }) (ht : e.P.underlying t = some (.slice el)) (hs : Elem e.P el sz z bytes) (hzs : z.cells.size = sz) (hsz : 0 < sz)
    (hx : ev s x = some v) (hy : ev s y = some u) (hm : ms[i]? = some m) (h1 : ∀ a ∈ r, ∀ c ∈ F a, c.oneCell' = true) (hb : (l.length + r.length) * bytes ≤ 140737488355328) (hb63 : l.length + r.length ≤ 9223372036854775807) (hd : o.dst = some d) (hn : Nat.blt d e.n = true) (hg : o.guard = none)
    (K : ∀ v' m', OwnL F sz el m' v' (l ++ r) → WL e ops Q rest ((d, v') :: s) h (ms.set i m')) : WL e ops Q (o :: rest) s h ms :=
  wl_append i ho ht hs hzs hsz hx hy hm O.own R.rd (fun c hc => by obtain ⟨a, hm', ha⟩ := List.mem_flatMap.1 hc; exact h1 a hm' c ha) hb hb63 hd hn hg fun v' m' O' => K v' m' ⟨by rw [List.length_append, List.flatMap_append]; exact O', O.len⟩
end Go.Eng
namespace Go.Eng
open Go.RowKit
variable {ms a b : List Hp}
def Goes (ms ms' : List Hp) : Prop := ∀ w0 h0 ms0 w h, Ends w0 h0 ms0 w h ms → Ends w0 h0 ms0 w h ms'
theorem Goes.trans {c : List Hp} (h : Goes a b) (k : Goes b c) : Goes a c := fun _ _ _ _ _ x => k _ _ _ _ _ (h _ _ _ _ _ x)
theorem Goes.perm (h : a.Perm b) : Goes a b := fun _ _ _ _ _ x => x.perm h
theorem Goes.join (a b : Hp) (ms : List Hp) : Goes (a :: b :: ms) (a.join b :: ms) := fun _ _ _ _ _ x => x.join
theorem Goes.part {a b : Hp} (hd : a.disj b) (ms : List Hp) : Goes (a.join b :: ms) (a :: b :: ms) := fun _ _ _ _ _ x => x.part hd
theorem fnt_goes {P : Program} {f : FuncId} {args : Array Value} {h : Hp} {post post' : Value → Hp → List Hp → Prop} (k : FnT P f args h ms post) (hc : ∀ r h' ms', post r h' ms' → ms'.Pairwise Hp.disj → ∃ ms'', Goes ms' ms'' ∧ post' r h' ms'') : FnT P f args h ms post' := fun w hw =>
  (k w hw).mono fun _ _ ⟨r, h', ms', e1, e2, e3⟩ => let ⟨ms'', g, p⟩ := hc r h' ms' e3 e2.st.apart; ⟨r, h', ms'', e1, g _ _ _ _ _ e2, p⟩
def Dom (ms : List Hp) (k : Nat) : Prop := ∃ m ∈ ms, m k ≠ none
theorem fnt_from {P : Program} {f : FuncId} {args : Array Value} {h : Hp} {ms1 : List Hp} {post : Value → Hp → List Hp → Prop} (g : Goes ms ms1) (hd : ∀ k, Dom ms1 k → Dom ms k) (k : FnT P f args h ms1 post) : FnT P f args h ms post := fun w hw =>
  (k w (g _ _ _ _ _ (Ends.refl hw)).st).mono fun _ _ ⟨r, h', ms', e1, e2, e3⟩ => by
    have hn : ∀ k, (∀ m ∈ ms, m k = none) → ∀ m ∈ ms1, m k = none := fun k hm m hm1 => Classical.byContradiction fun hne => by
      obtain ⟨m0, h0, h1⟩ := hd k ⟨m, hm1, hne⟩
      exact h1 (hm m0 h0)
    exact ⟨r, h', ms', e1, ⟨e2.st, e2.os, e2.tape, e2.output, e2.size, fun k hk hm => e2.block k hk (hn k hm), e2.le, fun k hk hm => e2.hnew k hk (hn k hm), fun m hm k hk hne => hd k (e2.mnew m hm k hk hne)⟩, e3⟩
theorem dom_perm (p : a.Perm b) : ∀ k, Dom b k → Dom a k := fun k ⟨m, hm, hne⟩ => ⟨m, p.mem_iff.2 hm, hne⟩
theorem dom_part {a b : Hp} : ∀ k, Dom (a :: b :: ms) k → Dom (a.join b :: ms) k := fun k ⟨m, hm, hne⟩ => by
  rcases List.mem_cons.1 hm with rfl | hm
  · obtain ⟨o, ho⟩ := Hp.ne_none hne
    exact ⟨_, List.mem_cons_self, by rw [Hp.le_join m b k o ho]; simp⟩
  · rcases List.mem_cons.1 hm with rfl | hm
    · refine ⟨_, List.mem_cons_self, fun h => hne ?_⟩
      unfold Hp.join at h
      split at h
      · cases h
      · exact h
    · exact ⟨m, List.mem_cons_of_mem _ hm, hne⟩
theorem Goes.parts {a b : Hp} {ms' : List Hp} (hd : a.disj b) (p : (a :: b :: ms).Perm ms') : Goes (a.join b :: ms) ms' ∧ ∀ k, Dom ms' k → Dom (a.join b :: ms) k :=
  ⟨(Goes.part hd ms).trans (Goes.perm p), fun k h => dom_part k (dom_perm p k h)⟩
end Go.Eng
namespace Go.Eng
open Go.RowKit
variable {c : Code}
def Hp.minus (h m : Hp) : Hp := fun g => match m g with | some _ => none | none => h g
theorem Hp.minus_le (h m : Hp) : (h.minus m).le h := fun g o e => by
  unfold Hp.minus at e
  split at e
  · cases e
  · exact e
theorem Hp.le_minus {a h m : Hp} (hl : a.le h) (hd : a.disj m) : a.le (h.minus m) := fun g o e => by
  unfold Hp.minus
  rcases hd g with h1 | h1
  · rw [h1] at e; cases e
  · rw [h1]; exact hl g o e
theorem Hp.minus_disj (h m : Hp) : m.disj (h.minus m) := fun g => by
  unfold Hp.minus
  cases hm : m g with
  | none => exact .inl rfl
  | some o => exact .inr rfl
def Lent (e : Entry) (m : Hp) : Prop := e.h0.disj m ∧ ∀ k, k < e.w0.heap.size → m k ≠ none → ∃ m0 ∈ e.ms0, m0 k ≠ none
theorem lend {e : Entry} {w : World} {h : Hp} {ms : List Hp} {m : Hp} (H : e.Ends w h (m :: ms)) : m.disj h ∧ Lent e m :=
  ⟨H.st.off m List.mem_cons_self, And.intro (fun g => by
    rcases H.st.off m List.mem_cons_self g with h1 | h1
    · exact .inr h1
    · left
      cases h2 : e.h0 g with
      | none => rfl
      | some o => have := H.le g o h2; rw [h1] at this; cases this) fun k hk hne => H.mnew m List.mem_cons_self k hk hne⟩
theorem back {e : Entry} {w : World} {h : Hp} {ms : List Hp} {m : Hp} (L : Lent e m) (hm : m.le h) (H : e.Ends w h ms) : e.Ends w (h.minus m) (m :: ms) := by
  refine ⟨⟨fun g o ho => H.st.imm g o (Hp.minus_le h m g o ho), fun x hx => ?_, fun x hx => ?_, ?_⟩, H.os, H.tape, H.output, H.size, H.block, Hp.le_minus H.le L.1, fun k hk hn => ?_, fun x hx k hk hne => ?_⟩
  · rcases List.mem_cons.1 hx with rfl | hx
    · exact fun g o ho => H.st.imm g o (hm g o ho)
    · exact H.st.own x hx
  · rcases List.mem_cons.1 hx with rfl | hx
    · exact Hp.minus_disj h x
    · intro g
      rcases H.st.off x hx g with h1 | h1
      · exact .inl h1
      · right
        cases h2 : h.minus m g with
        | none => rfl
        | some o => rw [Hp.minus_le h m g o h2] at h1; cases h1
  · refine List.pairwise_cons.2 ⟨fun x hx g => ?_, H.st.apart⟩
    rcases H.st.off x hx g with h1 | h1
    · exact .inr h1
    · left
      cases h2 : m g with
      | none => rfl
      | some o => rw [hm g o h2] at h1; cases h1
  · have h1 := H.hnew k hk hn
    unfold Hp.minus
    cases h2 : m k with
    | none => exact h1
    | some o =>
      obtain ⟨m0, hm0, hne⟩ := L.2 k hk (by rw [h2]; simp)
      exact absurd (hn m0 hm0) hne
  · rcases List.mem_cons.1 hx with rfl | hx
    · exact L.2 k hk hne
    · exact H.mnew x hx k hk hne
section
variable {e : Entry} {Q : Exit → Act → World → Prop} {s : Slots} {h : Hp} {ms : List Hp} {m : Hp}
theorem ws_top (i : Nat) {m : Hp} (hm : ms[i]? = some m) (k : WS e c Q s h (m :: ms.eraseIdx i)) : WS e c Q s h ms := ws_perm (perm_eraseIdx hm) k
theorem nx_top {x : Exit} (i : Nat) {m : Hp} (hm : ms[i]? = some m) (k : NX e Q x s h (m :: ms.eraseIdx i)) : NX e Q x s h ms := nx_perm (perm_eraseIdx hm) k
theorem rs_top (i : Nat) {m : Hp} (hm : ms[i]? = some m) (k : RS e c Q s h (m :: ms.eraseIdx i)) : RS e c Q s h ms := rs_perm (perm_eraseIdx hm) k
theorem ws_lend (k : ∀ h1, h.le h1 → m.le h1 → h.disj m → Lent e m → WS e c Q s h1 ms) : WS e c Q s h (m :: ms) := fun a w ha hw =>
  let l := lend hw
  k _ (Hp.le_join h m) (Hp.join_le_right l.1) (Hp.disj_symm l.1) l.2 a w ha (Ends.freeze hw)
theorem wl_lend {ops : Array Oper} {r : List Oper} (k : ∀ h1, h.le h1 → m.le h1 → h.disj m → Lent e m → WL e ops Q r s h1 ms) : WL e ops Q r s h (m :: ms) := fun a w ha hw =>
  let l := lend hw
  k _ (Hp.le_join h m) (Hp.join_le_right l.1) (Hp.disj_symm l.1) l.2 a w ha (Ends.freeze hw)
theorem rs_lend (k : ∀ h1, h.le h1 → m.le h1 → h.disj m → Lent e m → RS e c Q s h1 ms) : RS e c Q s h (m :: ms) := fun r a w ha hw =>
  let l := lend hw
  k _ (Hp.le_join h m) (Hp.join_le_right l.1) (Hp.disj_symm l.1) l.2 r a w ha (Ends.freeze hw)
theorem ws_back (L : Lent e m) (hm : m.le h) (k : ∀ h2, h2.le h → (∀ a : Hp, a.le h → a.disj m → a.le h2) → WS e c Q s h2 (m :: ms)) : WS e c Q s h ms := fun a w ha hw =>
  k _ (Hp.minus_le h m) (fun _ h1 h2 => Hp.le_minus h1 h2) a w ha (back L hm hw)
theorem wl_back {ops : Array Oper} {r : List Oper} (L : Lent e m) (hm : m.le h) (k : ∀ h2, h2.le h → (∀ a : Hp, a.le h → a.disj m → a.le h2) → WL e ops Q r s h2 (m :: ms)) : WL e ops Q r s h ms := fun a w ha hw =>
  k _ (Hp.minus_le h m) (fun _ h1 h2 => Hp.le_minus h1 h2) a w ha (back L hm hw)
theorem nx_back {x : Exit} (L : Lent e m) (hm : m.le h) (k : ∀ h2, h2.le h → (∀ a : Hp, a.le h → a.disj m → a.le h2) → NX e Q x s h2 (m :: ms)) : NX e Q x s h ms := fun a w ha hw =>
  k _ (Hp.minus_le h m) (fun _ h1 h2 => Hp.le_minus h1 h2) a w ha (back L hm hw)
end
end Go.Eng
namespace Go.Eng
open Go.RowKit
section
variable {κ ν : Type} [DecidableEq κ] {K : κ → Value} {V : ν → Value} {Ok : κ → Prop} {kt et t : TypeId} {g : Nat} {m : Hp} {T : List (κ × ν)} {bs : List Nat}
variable {e : Entry} {Q : Exit → Act → World → Prop} {ops : Array Oper} {rest : List Oper} {o : Oper} {s : Slots} {h : Hp} {ms : List Hp}
theorem wl_mapUpdate {x y u : Operand} {z : Value} (i : Nat) (a : κ) (y' : ν) (L : Keys e.P kt K Ok) (O : OwnM K V g Ok m T bs) (hm : ms[i]? = some m) (ho : o.op = .mapUpdate t x y u) (ht : e.P.underlying t = some (.map kt et)) (hx : ev s x = some (.map (some g))) (hy : ev s y = some (K a)) (hu : ev s u = some (V y')) (ha : Ok a)
    (hd : o.dst = none) (hg : o.guard = none) (k : ∀ m' bs', OwnM K V g Ok m' (setT T a y') bs' → WL e ops Q rest s h (ms.set i m')) : WL e ops Q (o :: rest) s h ms :=
  wl_t0 (post := fun _ h' ms' => ∃ m' bs', OwnM K V g Ok m' (setT T a y') bs' ∧ h' = h ∧ ms' = ms.set i m') (fun ρ w hρ hw => by
    obtain ⟨es, clock, rfl, he, hb⟩ := O.ex
    have hgw : w.heap[g]? = some (.map es clock) := hw.st.own _ (List.mem_of_getElem? hm) g _ (Hp.one_self _ _)
    obtain ⟨l, hk⟩ := L.key a ha
    have hc := L.law.check w false hk
    have hs := L.law.stays w hk
    rcases find_own L O.keys O.ok O.len he w a ha with ⟨h1, h2⟩ | ⟨j, v, b, h1, h2, h3, h4⟩
    · have hT : setT T a y' = T ++ [(a, y')] := by unfold setT; rw [if_neg h2]
      have hrun : (execOp ρ o).run e.P w = .ok .skip { w with heap := w.heap.setIfInBounds g (.map (es.push ⟨K a, V y', clock⟩) (clock + 1)) } := by
        simp only [execOp, ho, hρ _ _ hx, hρ _ _ hy, hρ _ _ hu, Instr.mapUpdate, Sem.run_bind, run_underlying ht, Result.andThen_ok, getObj, Sem.run_pure]
        simp [Sem.run, hgw, hc, h1, Result.andThen, setObj]
      unfold OpRes; rw [hrun]
      refine ⟨h, _, Ends.turn hw hm, _, bs ++ [clock], ?_, rfl, rfl⟩
      rw [hT]
      refine ⟨⟨_, _, rfl, ?_, fun b hb' => ?_⟩, by simp [O.len], up_snoc O.up hb, ?_, fun p hp => ?_⟩
      · rw [Array.toList_push, he, zip_snoc T bs O.len, List.map_append]; rfl
      · rcases List.mem_append.1 hb' with hb' | hb'
        · have := hb b hb'; omega
        · simp at hb'; omega
      · have := setT_keys O.keys a y'; rw [hT] at this; exact this
      · rcases List.mem_append.1 hp with hp | hp
        · exact O.ok p hp
        · simp at hp; subst hp; exact ha
    · have hj4 := (Array.getElem?_eq_some_iff.1 h4)
      have hrun : (execOp ρ o).run e.P w = .ok .skip { w with heap := w.heap.setIfInBounds g (.map (es.modify j fun e => { e with key := K a, val := V y' }) clock) } := by
        simp only [execOp, ho, hρ _ _ hx, hρ _ _ hy, hρ _ _ hu, Instr.mapUpdate, Sem.run_bind, run_underlying ht, Result.andThen_ok, getObj, Sem.run_pure]
        simp [Sem.run, hgw, hc, h1, Result.andThen, setObj, h4, hs]
      unfold OpRes; rw [hrun]
      refine ⟨h, _, Ends.turn hw hm, _, bs, ?_, rfl, rfl⟩
      refine ⟨⟨_, _, rfl, ?_, hb⟩, ?_, O.up, setT_keys O.keys a y', fun p hp => ?_⟩
      · rw [setT_at O.keys h2, zip_set T bs j _ b h3, List.map_set, ← he]
        refine List.ext_getElem? fun k => ?_
        rw [Array.getElem?_toList, Array.getElem?_modify, List.getElem?_set]
        by_cases hjk : j = k
        · subst hjk
          rw [if_pos rfl, if_pos rfl, h4]
          have : j < es.toList.length := by simpa using (Array.getElem?_eq_some_iff.1 h4).1
          rw [if_pos this]; rfl
        · rw [if_neg hjk, if_neg hjk, Array.getElem?_toList]
      · rw [setT_at O.keys h2, List.length_set]; exact O.len
      · rw [setT_at O.keys h2] at hp
        rcases List.mem_or_eq_of_mem_set hp with hp | hp
        · exact O.ok p hp
        · subst hp; exact ha) hd hg fun v h' ms' ⟨m', bs', e1, e2, e3⟩ => by subst e2 e3; exact k m' bs' e1
end
end Go.Eng
namespace Go.Eng
open Go.RowKit
variable {P : Program} {o : Oper} {h : Hp} {s : Slots}
def Flo (ops : Array Oper) (listed : Array Bool) (j d : Nat) (oj : Oper) : Prop :=
  ∀ i oi, i ≠ j → listed[i]? = some false → ops[i]? = some oi → oi.dst ≠ some d ∧ (∀ t, oi.dst = some t → t ∉ oj.looksAt ops) ∧ (d ∈ oi.looksAt ops → ∃ e ∈ oi.after, Region.binds .any e = true ∧ e.on = j) ∧ ∀ cs b, oi.op ≠ .select cs b
def noSel : Op → Bool
  | .select .. => false
  | _ => true
theorem noSel_spec {o : Op} (h : noSel o = true) : ∀ cs b, o ≠ .select cs b := fun cs b e => by rw [e] at h; cases h
def flo1 (ops : Array Oper) (L : List Nat) (j d : Nat) (oi : Oper) : Bool :=
  (match oi.dst with | none => true | some t => !(t == d) && !(L.contains t)) && (!((oi.looksAt ops).contains d) || oi.after.any (fun e => Region.binds .any e && e.on == j)) && noSel oi.op
def flo (ops : Array Oper) (listed : Array Bool) (j d : Nat) : Bool :=
  match ops[j]? with
  | none => false
  | some oj => oj.guard.isNone && (oj.dst == some d) && noSel oj.op && (Region.ready .any ops listed).contains j && (List.range ops.size).all fun i => i == j || listed.getD i true || match ops[i]? with
    | none => true
    | some oi => flo1 ops (oj.looksAt ops) j d oi
theorem flo_spec {ops : Array Oper} {listed : Array Bool} {j d : Nat} (h : flo ops listed j d = true) : ∃ oj, ops[j]? = some oj ∧ oj.guard = none ∧ oj.dst = some d ∧ (∀ cs b, oj.op ≠ .select cs b) ∧ j ∈ Region.ready .any ops listed ∧ Flo ops listed j d oj := by
  unfold flo at h
  split at h
  · cases h
  · rename_i oj hoj
    simp only [Bool.and_eq_true, List.all_eq_true, List.contains_iff_mem, beq_iff_eq] at h
    obtain ⟨⟨⟨⟨h1, h2⟩, h3⟩, h4⟩, h5⟩ := h
    refine ⟨oj, hoj, Option.isNone_iff_eq_none.1 h1, h2, noSel_spec h3, h4, fun i oi hi hl ho => ?_⟩
    have := h5 i (List.mem_range.2 (Array.getElem?_eq_some_iff.1 ho).1)
    simp only [ho, Bool.or_eq_true, beq_iff_eq] at this
    rcases this with (h6 | h6) | h6
    · exact absurd h6 hi
    · rw [Array.getD_eq_getD_getElem?, hl] at h6; cases h6
    · unfold flo1 at h6
      simp only [Bool.and_eq_true] at h6
      obtain ⟨⟨h7, h8⟩, h9⟩ := h6
      refine ⟨fun e => ?_, fun t ht hm => ?_, fun hm => ?_, noSel_spec h9⟩
      · rw [e] at h7; simp at h7
      · rw [ht] at h7; simp at h7; exact h7.2 hm
      · simp only [Bool.or_eq_true] at h8
        rcases h8 with h8 | h8
        · simp at h8; exact absurd hm h8
        · simp only [Array.any_eq_true', List.any_eq_true, Bool.and_eq_true, beq_iff_eq] at h8
          obtain ⟨e, he, h10, h11⟩ := h8
          exact ⟨e, he, h10, h11⟩
theorem ox_looks {ops : Array Oper} {s' : Slots} {v : Value} (hsel : ∀ cs b, o.op ≠ .select cs b) (hs : ∀ t ∈ o.looksAt ops, ∀ u, lk s t = some u → lk s' t = some u) (k : OX P o s h [] v) : OX P o s' h [] v := fun ρ w hρ hw => by
  classical
  unfold OpRes
  rw [execOp_congr (ρ := ρ) (ρ' := fun x => if x ∈ o.op.operands then ρ x else (ev s x).getD undef) o hsel (fun x hx => (if_pos hx).symm)]
  refine k _ w (fun x u hu => ?_) hw
  show (if x ∈ o.op.operands then ρ x else (ev s x).getD undef) = u
  split
  · rename_i hx
    cases x with
    | tmp t => exact hρ _ _ (hs t (List.mem_append_left _ (List.mem_filterMap.2 ⟨.tmp t, by simpa using hx, rfl⟩)) u hu)
    | const v => exact hρ _ _ hu
    | global g => exact hρ _ _ hu
    | func f => exact hρ _ _ hu
  · rw [hu]; rfl
theorem Oper.wp_sim2 {z : Slots} {a : Act} {w : World} {K K' : Act → World → Prop} {Qb Qc : Exit → Act → World → Prop} (hq : ∀ x a w, Qb x a w → x = .normal) (hlo : ¬ LetsOut Qb) (hx : execOp (zA z a).eval o = execOp a.eval o) (hd : ∀ t, o.dst = some t → lk z t = none) (hK : ∀ b w v, b.tmps = (a.put o.dst v).tmps → K' (zA z b) w → K b w)
    (h : o.wp P (zA z a) w K' Qb) : o.wp P a w K Qc := by
  unfold Oper.wp at *
  rw [hx] at h
  generalize (execOp a.eval o).run P w = r at *
  have hv : ∀ v w, K' ((zA z a).put o.dst v) w → K (a.put o.dst v) w := fun v w hh => hK _ _ v rfl (by rw [zA_put hd]; exact hh)
  cases r with
  | ok n w' =>
    cases n <;> simp only [Oper.upon] at h ⊢ <;>
      first
        | exact hv _ _ h
        | exact Calls.mono h (fun e w'' he => by
            cases e
            · exact hv _ _ he
            · exact absurd (hq _ _ _ he) (by simp)
            · exact absurd he hlo)
        | exact Rows.mono h (fun _ _ he => hv _ _ he)
        | exact hK _ _ undef (by cases o.dst <;> rfl) (by rw [zA_put hd]; exact h)
  | halt x w' => cases x <;> simp only [Oper.upon] at h ⊢ <;> first | exact h | exact absurd (hq _ _ _ h) (by simp)
theorem OX.at {h0 : Hp} {ms : List Hp} {v : Value} (k : OX P o s h0 [] v) (hl : h0.le h) : OX P o s h ms v := fun ρ w hρ hw =>
  k ρ w hρ ⟨fun g o e => hw.imm g o (hl g o e), fun m hm => by simp at hm, fun m hm => by simp at hm, List.Pairwise.nil⟩
section
variable {e : Entry} {ops : Array Oper} {Q : Exit → Act → World → Prop} {h0 : Hp} {j d : Nat} {v : Value} {oj : Oper}
theorem wb_fl (hoj : ops[j]? = some oj) (hdj : oj.dst = some d) (hg : oj.guard = none) (hd : d < e.n) (hsel : ∀ cs b, oj.op ≠ .select cs b) :
    ∀ n listed s s1 h ms, h0.le h → j ∈ Region.ready .any ops listed → Flo ops listed j d oj → (∀ t u, lk s1 t = some u → lk ((d, v) :: s) t = some u) → OX e.P oj s h0 [] v → WB e ops Q h0 n (listed.setIfInBounds j true) s1 h ms → WB e ops Q h0 (n + 1) listed s h ms := by
  intro n
  induction n with
  | zero =>
    intro listed s s1 h ms hle hj hF hs hx H
    refine ⟨fun hr => (by rw [hr] at hj; cases hj), fun i hi => ?_⟩
    by_cases hij : i = j
    · subst hij
      exact ⟨oj, hoj, wl_x (hx.at hle) hdj (Nat.ble_eq_true_of_le hd) hg (wl_nil fun a w ha hw => ⟨rfl, s1, h, ms, ⟨ha.defers, ha.size, fun t u hu => ha.slots t u (hs t u hu)⟩, hw, hle, H⟩)⟩
    · obtain ⟨h1', o, ho, hall⟩ := mem_ready.1 hi
      have h1 := getD_false_some h1'
      have : i ∈ Region.ready .any ops (listed.setIfInBounds j true) := mem_ready.2 ⟨by rw [getD_set_ne _ (Ne.symm hij)]; exact h1', o, ho, fun e he hb => by
        have := hall e he hb
        by_cases hej : j = e.on
        · rw [← hej]; have hlt := (Array.getElem?_eq_some_iff.1 (getD_false_some (mem_ready.1 hj).1)).1; simp [hlt]
        · rw [getD_set_ne _ hej]; exact this⟩
      rw [H.1] at this; cases this
  | succ n ih =>
    intro listed s s1 h ms hle hj hF hs hx H
    refine ⟨fun hr => (by rw [hr] at hj; cases hj), fun i hi => ?_⟩
    by_cases hij : i = j
    · subst hij
      exact ⟨oj, hoj, wl_x (hx.at hle) hdj (Nat.ble_eq_true_of_le hd) hg (wl_nil fun a w ha hw => ⟨rfl, s1, h, ms, ⟨ha.defers, ha.size, fun t u hu => ha.slots t u (hs t u hu)⟩, hw, hle, H⟩)⟩
    · obtain ⟨h1', o, ho, hall⟩ := mem_ready.1 hi
      have h1 := getD_false_some h1'
      have hjl := getD_false_some (mem_ready.1 hj).1
      have hjlt := (Array.getElem?_eq_some_iff.1 hjl).1
      have hr' : i ∈ Region.ready .any ops (listed.setIfInBounds j true) := mem_ready.2 ⟨by rw [getD_set_ne _ (Ne.symm hij)]; exact h1', o, ho, fun e he hb => by
        have := hall e he hb
        by_cases hej : j = e.on
        · rw [← hej]; simp [hjlt]
        · rw [getD_set_ne _ hej]; exact this⟩
      obtain ⟨f1, f2, f3, f4⟩ := hF i o hij h1 ho
      have f3' : d ∉ o.looksAt ops := fun hm => by
        obtain ⟨e, he, hb, hon⟩ := f3 hm
        have := hall e he hb
        rw [hon, Array.getD_eq_getD_getElem?, hjl] at this; cases this
      obtain ⟨o', ho', HW⟩ := H.2 i hr'
      rw [ho] at ho'; cases ho'
      refine ⟨o, ho, fun a w ha hw => ?_⟩
      have hza : ∀ (b : Act) t, t ≠ d → (zA [(d, v)] b).tmps[t]? = b.tmps[t]? := fun b t ht => by
        rw [zA_get, lk_cons_ne _ _ (Ne.symm ht)]; cases b.tmps[t]? <;> rfl
      have hzd : ∀ (b : Act), d < b.tmps.size → (zA [(d, v)] b).tmps[d]? = some v := fun b hb => by
        rw [zA_get, lk_cons_self]; simp [hb]
      have haz : Has e.n e.ds (zA [(d, v)] a) s1 := ⟨ha.defers, by simp [zA, ha.size], fun t u hu => by
        have := hs t u hu
        by_cases htd : d = t
        · subst htd; rw [lk_cons_self] at this; cases this; exact hzd a (by rw [ha.size]; exact hd)
        · rw [lk_cons_ne _ _ htd] at this; rw [hza a t (Ne.symm htd)]; exact ha.slots t u this⟩
      have H' := HW (zA [(d, v)] a) w haz hw
      unfold wpList at H' ⊢
      have hsame : ∀ t ∈ o.looksAt ops, (zA [(d, v)] a).tmps[t]? = a.tmps[t]? := fun t ht => hza a t (fun e' => f3' (e' ▸ ht))
      have hx' : execOp (zA [(d, v)] a).eval o = execOp a.eval o := execOp_congr o f4 fun x hx => by
        cases x with
        | tmp t =>
          have := hsame t (List.mem_append_left _ (List.mem_filterMap.2 ⟨.tmp t, by simpa using hx, rfl⟩))
          simp only [Act.eval]
          rw [Array.getD_eq_getD_getElem?, this, ← Array.getD_eq_getD_getElem?]
        | const v => rfl
        | global g => rfl
        | func f => rfl
      have hwant : Region.wanted o (yielded ops (zA [(d, v)] a).tmps) = Region.wanted o (yielded ops a.tmps) := by
        unfold Region.wanted
        cases hg : o.guard with
        | none => rfl
        | some p =>
          obtain ⟨k, b⟩ := p
          have : yielded ops (zA [(d, v)] a).tmps k = yielded ops a.tmps k := by
            unfold yielded
            cases hd : (ops[k]?).bind (·.dst) with
            | none => rfl
            | some t =>
              have ht : t ∈ o.looksAt ops := by
                unfold Oper.looksAt
                refine List.mem_append_right _ ?_
                simp only [hg]
                rw [hd]; simp
              simp [hd, hsame t ht]
          simp only [this]
      rw [hwant] at H'
      have hdz : ∀ t, o.dst = some t → lk [(d, v)] t = none := fun t ht => by
        rw [lk_cons_ne _ _ (fun e' => f1 (by rw [ht, e']))]; rfl
      have hnext : ∀ b w v', b.tmps = (a.put o.dst v').tmps → (QB e ops Q h0 n ((listed.setIfInBounds j true).setIfInBounds i true)) .normal (zA [(d, v)] b) w → (QB e ops Q h0 (n + 1) (listed.setIfInBounds i true)) .normal b w := fun b w v' hbt hh => by
        obtain ⟨-, s', h', ms', g1, g2, g3, g4⟩ := hh
        have hbget : ∀ t, o.dst ≠ some t → b.tmps[t]? = a.tmps[t]? := fun t ht => by
          rw [hbt]
          cases hd : o.dst with
          | none => rfl
          | some d' =>
            have : d' ≠ t := fun e' => ht (by rw [hd, e'])
            simp only [Act.put, Array.getElem?_setIfInBounds_ne this]
        have hbs : b.tmps.size = a.tmps.size := by rw [hbt]; cases o.dst <;> simp [Act.put]
        have hbn : b.tmps.size = e.n := by rw [hbs, ha.size]
        let L := oj.looksAt ops
        have hlf : ∀ (p : Nat → Bool) (s : Slots) t, lk (s.filter (fun x => p x.1)) t = if p t = true then lk s t else none := by
          intro p s t
          induction s with
          | nil => simp [lk]
          | cons x s ih =>
            obtain ⟨y, u⟩ := x
            by_cases hy : p y = true
            · rw [List.filter_cons_of_pos (by exact hy)]
              by_cases hyt : y = t
              · subst hyt; rw [lk_cons_self, lk_cons_self, if_pos hy]
              · rw [lk_cons_ne _ _ hyt, lk_cons_ne _ _ hyt, ih]
            · rw [List.filter_cons_of_neg (by exact hy), ih]
              by_cases hyt : y = t
              · subst hyt; rw [if_neg hy, if_neg hy]
              · rw [lk_cons_ne _ _ hyt]
        let sL := s.filter (fun x => L.contains x.1)
        let sR := s'.filter (fun x => !(x.1 == d))
        have hL : ∀ t u, lk sL t = some u → t ∈ L ∧ lk s t = some u := fun t u hu => by
          rw [hlf (fun t => L.contains t)] at hu
          split at hu
          · rename_i hc; exact ⟨List.contains_iff_mem.1 hc, hu⟩
          · cases hu
        have hLb : ∀ t u, lk sL t = some u → b.tmps[t]? = some u := fun t u hu => by
          obtain ⟨k1, k2⟩ := hL t u hu
          rw [hbget t (fun e' => f2 t e' k1)]
          exact ha.slots t u k2
        have hR : ∀ t, t ≠ d → lk sR t = lk s' t := fun t ht => by
          rw [hlf (fun t => !(t == d))]; simp [ht]
        have hRd : lk sR d = none := by rw [hlf (fun t => !(t == d))]; simp
        have hb' : ∀ t u, t ≠ d → lk s' t = some u → b.tmps[t]? = some u := fun t u ht hu => by
          rw [← hza b t ht]; exact g1.slots t u hu
        refine ⟨rfl, sL ++ sR, h', ms', ⟨g1.defers, hbn, fun t u hu => ?_⟩, g2, g3, ?_⟩
        · rw [lk_append] at hu
          cases hl : lk sL t with
          | some u' => rw [hl] at hu; cases hu; exact hLb t _ hl
          | none =>
            rw [hl] at hu
            have htd : t ≠ d := fun e' => by subst e'; simp only [Option.none_or] at hu; rw [hRd] at hu; cases hu
            simp only [Option.none_or] at hu
            rw [hR t htd] at hu; exact hb' t u htd hu
        · refine ih (listed.setIfInBounds i true) (sL ++ sR) s' h' ms' g3 ?_ ?_ ?_ ?_ (by rw [Array.setIfInBounds_comm _ _ hij]; exact g4)
          · obtain ⟨_, oj', hoj', hall'⟩ := mem_ready.1 hj
            refine mem_ready.2 ⟨by rw [getD_set_ne _ hij]; exact (mem_ready.1 hj).1, oj', hoj', fun ed he hb => ?_⟩
            have := hall' ed he hb
            by_cases hei : i = ed.on
            · rw [← hei]; have := (Array.getElem?_eq_some_iff.1 h1).1; simp [this]
            · rw [getD_set_ne _ hei]; exact this
          · intro k ok hk hl hok
            refine hF k ok hk ?_ hok
            by_cases hki : i = k
            · subst hki; have := (Array.getElem?_eq_some_iff.1 h1).1; simp [this] at hl
            · rw [Array.getElem?_setIfInBounds_ne hki] at hl; exact hl
          · intro t u hu
            by_cases htd : d = t
            · subst htd
              have k1 := g1.slots _ u hu
              rw [hzd b (by rw [hbn]; exact hd)] at k1
              rw [lk_cons_self]; exact k1
            · rw [lk_cons_ne _ _ htd, lk_append]
              cases hl : lk sL t with
              | some u' =>
                have k1 := hLb t u' hl
                rw [hb' t u (Ne.symm htd) hu] at k1
                simpa using k1.symm
              | none => rw [hR t (Ne.symm htd)]; simpa using hu
          · refine ox_looks (ops := ops) hsel (fun t ht u hu => ?_) hx
            rw [lk_append]
            have : lk sL t = some u := by rw [hlf (fun t => L.contains t), if_pos (List.contains_iff_mem.2 ht)]; exact hu
            rw [this]; rfl
      split
      · rename_i hw'
        rw [if_pos hw'] at H'
        rcases H' with H' | ⟨_, H'⟩
        · exact .inl (Oper.wp_sim2 (fun x a w h => h.1) qb_out hx' hdz (fun b w v hb hh => hnext b w v hb hh) H')
        · exact absurd H' qb_out
      · rename_i hw'
        rw [if_neg hw'] at H'
        exact hnext _ _ undef rfl (by rw [zA_put hdz]; exact H')
theorem wb_float {n : Nat} {listed : Array Bool} {ms : List Hp} (j d : Nat) (hF : flo ops listed j d = true) (hoj : ops[j]? = some o) (hle : h0.le h) (hn : Nat.blt d e.n = true) (hx : OX e.P o s h0 [] v) (k : WB e ops Q h0 n (listed.setIfInBounds j true) ((d, v) :: s) h ms) : WB e ops Q h0 (n + 1) listed s h ms := by
  obtain ⟨oj, g1, g2, g3, g4, g5, g6⟩ := flo_spec hF
  rw [hoj] at g1; cases g1
  exact wb_fl hoj g3 g2 (Nat.le_of_ble_eq_true hn) g4 n listed s _ h ms hle g5 g6 (fun t u hu => hu) hx k
end
theorem Hp.disj_le {a b a' : Hp} (h : a.disj b) (hl : a'.le a) : a'.disj b := fun g => by
  cases h1 : a' g with
  | none => exact .inl rfl
  | some o =>
    rcases h g with h2 | h2
    · rw [hl g o h1] at h2; cases h2
    · exact .inr h2
theorem fnt_aside {f : FuncId} {args : Array Value} {m : Hp} {post : Value → Hp → List Hp → Prop} (hm : m.le h) (k : FnT P f args (h.minus m) [] post) :
    FnT P f args h [] (fun r h' ms' => h.le h' ∧ ∃ h1, h1.le h' ∧ h1.disj m ∧ (h.minus m).le h1 ∧ post r h1 ms') := fun w hw => by
  have hmw : ∀ g o, m g = some o → g < w.heap.size := fun g o e => (Array.getElem?_eq_some_iff.1 (hw.imm g o (hm g o e))).1
  refine (k w ⟨fun g o e => hw.imm g o (Hp.minus_le h m g o e), fun m hm => by simp at hm, fun m hm => by simp at hm, List.Pairwise.nil⟩).mono fun x w' ⟨r, h1, ms', e1, e2, e3⟩ => ?_
  have hmin : ∀ g, (m g = none ∧ h.minus m g = h g) ∨ ∃ o, m g = some o ∧ h g = some o ∧ h.minus m g = none := fun g => by
    cases hg : m g with
    | none => exact .inl ⟨rfl, by unfold Hp.minus; rw [hg]⟩
    | some o => exact .inr ⟨o, rfl, hm g o hg, by unfold Hp.minus; rw [hg]⟩
  have h1m : ∀ g, (m g = none) ∨ ∃ o, m g = some o ∧ h g = some o ∧ h1 g = none := fun g => by
    rcases hmin g with ⟨h2, _⟩ | ⟨o, h2, h3, h4⟩
    · exact .inl h2
    · exact .inr ⟨o, h2, h3, by rw [e2.hnew g (hmw g o h2) (by simp)]; exact h4⟩
  have hd : h1.disj m := fun g => by
    rcases h1m g with h2 | ⟨o, _, _, h2⟩
    · exact .inr h2
    · exact .inl h2
  have hjm : ∀ g o, m g = some o → (h1.join m) g = some o := fun g o e => Hp.le_joinr hd g o e
  have hle : h.le (h1.join m) := fun g o e => by
    rcases hmin g with ⟨h2, h3⟩ | ⟨o', h2, h3, _⟩
    · exact Hp.le_joinl g o (e2.le g o (h3.trans e))
    · rw [e] at h3; cases h3; exact hjm g o h2
  have hlt : ∀ m' ∈ ms', m'.disj m := fun m' hm' g => by
    cases h2 : m g with
    | none => exact .inr rfl
    | some o =>
      left
      cases h3 : m' g with
      | none => rfl
      | some o' =>
        obtain ⟨m0, h4, _⟩ := e2.mnew m' hm' g (hmw g o h2) (by rw [h3]; simp)
        simp at h4
  refine ⟨r, h1.join m, ms', e1, ⟨⟨fun g o e => ?_, e2.st.own, fun m' hm' => ?_, e2.st.apart⟩, e2.os, e2.tape, e2.output, e2.size, e2.block, hle, fun g hg hn => ?_, e2.mnew⟩, hle, h1, Hp.le_joinl, hd, e2.le, e3⟩
  · cases h2 : m g with
    | none =>
      have h3 : (h1.join m) g = h1 g := by unfold Hp.join; cases h1 g <;> simp [h2]
      rw [h3] at e
      exact e2.st.imm g o e
    | some o' =>
      rw [hjm g o' h2] at e; cases e
      rw [e2.block g (hmw g o h2) (by simp)]
      exact hw.imm g o (hm g o h2)
  · exact Hp.disj_symm (Hp.disj_join (Hp.disj_symm (e2.st.off m' hm')) (Hp.disj_symm (hlt m' hm')))
  · rcases hmin g with ⟨h2, h3⟩ | ⟨o, h2, h3, h4⟩
    · have h5 : (h1.join m) g = h1 g := by unfold Hp.join; cases h1 g <;> simp [h2]
      rw [h5, e2.hnew g hg (by simp), h3]
    · rw [hjm g o h2, h3]
end Go.Eng
namespace Go.Eng
open Go.RowKit
theorem addr_g (g k : Nat) : (⟨g, 0, none⟩ : Addr).add k = ⟨g, k, none⟩ := by
  unfold Addr.add; split <;> simp_all
theorem flatMap_setK {α : Type} {F : α → List Value} {sz : Nat} (hF : ∀ x, (F x).length = sz) {l : List α} {j : Nat} (hj : j < l.length) (a : α) : (l.flatMap F).take (j * sz) ++ F a ++ (l.flatMap F).drop (j * sz + sz) = (l.set j a).flatMap F := by
  have e : j * sz + sz = (j + 1) * sz := by rw [Nat.add_mul, Nat.one_mul]
  rw [e, flatMap_take hF, flatMap_drop hF, List.set_eq_take_append_cons_drop, if_pos hj, List.flatMap_append, List.flatMap_cons, List.append_assoc]
section
variable {e : Entry} {Q : Exit → Act → World → Prop} {ops : Array Oper} {rest : List Oper} {o : Oper} {s : Slots} {h : Hp} {ms : List Hp} {α : Type} {F : α → List Value} {l : List α} {v : Value} {m : Hp} {el : TypeId} {sz : Nat}
theorem wl_storeEl {t : TypeId} {x y : Operand} {u z : Value} {bytes : Nat} (i j : Nat) (a : α) (O : OwnL F sz el m v l) (ho : o.op = .store t x y) (hs : Elem e.P t sz z bytes) (hx : ev s x = some (.pointer (some ((vbase v).add (j * sz))))) (hy : ev s y = some u) (hv : u.cells = (F a).toArray) (h1 : ∀ c ∈ F a, c.oneCell' = true)
    (hm : ms[i]? = some m) (hj : j < l.length) (hd : o.dst = none) (hg : o.guard = none)
    (K : ∀ m', OwnL F sz el m' v (l.set j a) → WL e ops Q rest s h (ms.set i m')) : WL e ops Q (o :: rest) s h ms := by
  obtain ⟨⟨h2, h3⟩, hF⟩ := O
  rcases h3 with ⟨rfl, h4, rfl⟩ | ⟨g, cap, spare, rfl, rfl, e1, e2, e3⟩
  · rw [h4] at hj; simp at hj
  · have hle : (j + 1) * sz ≤ l.length * sz := Nat.mul_le_mul_right sz hj
    have hjs : j * sz + sz = (j + 1) * sz := by rw [Nat.add_mul, Nat.one_mul]
    have hFa := hF a
    refine wl_t0 (post := fun _ h' ms' => h' = h ∧ ms' = ms.set i (Blk g el ((l.set j a).flatMap F ++ spare))) (fun ρ w hρ hw => ?_) hd hg fun _ _ _ ⟨e4, e5⟩ => ?_
    · have hgw : w.heap[g]? = some (.cells (l.flatMap F ++ spare).toArray el (0, 0)) := hw.st.own _ (List.mem_of_getElem? hm) g _ (Hp.one_self _ _)
      have hst := run_storeCells_at (P := e.P) g (j * sz) el (F a) 0 _ w hgw (by simp only [List.size_toArray, List.length_append]; omega) h1
      have hadd : (vbase (.slice (some ⟨g, 0, none⟩) l.length cap)).add (j * sz) = ⟨g, j * sz, none⟩ := by
        show (⟨g, 0, none⟩ : Addr).add (j * sz) = _
        exact addr_g g (j * sz)
      have hrow : (l.flatMap F ++ spare).take (j * sz) ++ F a ++ (l.flatMap F ++ spare).drop (j * sz + sz) = (l.set j a).flatMap F ++ spare := by
        rw [List.take_append_of_le_length (by omega), List.drop_append_of_le_length (by omega), ← List.append_assoc, flatMap_setK hF hj]
      have : (execOp ρ o).run e.P w = .ok .skip (w.setRow g ((l.set j a).flatMap F ++ spare).toArray) := by
        simp [execOp, ho, hρ _ _ hx, hρ _ _ hy, Instr.storeAt, Instr.sureAddr, storeVar, hs.sizeOf, hv, hFa, hadd]
        simp at hst
        rw [hFa] at hst
        rw [hst, ← List.append_assoc, hrow]; rfl
      unfold OpRes; rw [this]
      exact ⟨h, _, Ends.put hw hm rfl ⟨rfl, Nat.le_refl _⟩ rfl (by simp) (setRow_heap w g _ _ _ _ hgw) (fun k hk hne => setRow_other w g k _ hne), rfl, rfl⟩
    · subst e4 e5
      refine K _ ⟨⟨?_, .inr ⟨g, cap, spare, by rw [List.length_set], rfl, ?_, by rw [List.length_set]; omega, e3⟩⟩, hF⟩
      · rw [flatMap_len hF, List.length_set]
      · rw [List.length_append, flatMap_len hF, List.length_set, ← flatMap_len hF l, ← List.length_append]; exact e1
end
end Go.Eng
set_option linter.unusedSectionVars false
namespace Go.Eng
open Go.RowKit
def ItrG {ι : Type} (P : Program) (gf : FuncId) (lb : List Value) (h : Hp) (R : ι → List Value → ι → Prop) (i0 : ι) (fin : ι → Prop) : Prop :=
  ∀ (lp : Nat) (X : ι → Hp → List Hp → Prop) (h1 : Hp) (ms : List Hp), h.le h1 → (∀ i vs i' h2 ms2, R i vs i' → h1.le h2 → X i h2 ms2 → YdT P lp vs.toArray h2 ms2 (fun r h' ms' => r = .bool true ∧ X i' h' ms')) → X i0 h1 ms →
    FnT P gf ([Value.func (.yield lp) #[] #[]] ++ lb).toArray h1 ms (fun _ h' ms' => ∃ i, fin i ∧ X i h' ms')
theorem il_drop {e : Entry} {ops : Array Oper} {Q : Exit → Act → World → Prop} {rest : List Oper} {s : Slots} {h : Hp} {ms : List Hp} {m : Hp} (k : IL e ops Q rest s h ms) : IL e ops Q rest s h (m :: ms) := fun a w ha hw => k a w ha (Ends.drop hw)
theorem il_yieldF {e : Entry} {Q : Exit → Act → World → Prop} {s : Slots} {h : Hp} {ms pre fr : List Hp} {ops : Array Oper} {o : Oper} {rest : List Oper} {x : Operand} {lp : Nat} {l : List Operand} {ts : Array TypeId} {vs : List Value} {d : Nat} {post : Value → Hp → List Hp → Prop} (hp : ms.Perm (pre ++ fr)) (ho : o.op = .call { callee := .value x, args := l.toArray, argTypes := ts }) (hx : ev s x = some (.func (.yield lp) #[] #[])) (ha : evs s l = some vs) (k : YdT e.P lp vs.toArray h pre post) (hd : o.dst = some d) (hn : Nat.blt d e.n = true) (hg : o.guard = none)
    (K : ∀ v h' ms', h.le h' → post v h' ms' → IL e ops Q rest ((d, v) :: s) h' (ms' ++ fr)) : IL e ops Q (o :: rest) s h ms := fun a w hA hw0 => by
  have hw := Ends.perm hw0 hp
  unfold wpListIn
  rw [if_pos (by simp [Region.wanted, hg])]
  obtain ⟨fn, tmps, assign, body, hy, hr⟩ := k w hw.st.pre
  have hrun : (execOp a.eval o).run e.P w = .ok (.round lp fn tmps assign body) w := by
    simp [execOp, ho, resolve, hA.eval _ _ hx, Deferred.ofValue, invoke, (show Evs s a.eval from hA.eval).map l vs ha, hy]
  refine ⟨fun _ _ => trivial, ?_⟩
  rw [Oper.semAt_eq _ _ _ (fun c e => by rw [ho] at e; cases e), hrun]
  refine ⟨(fun h => by cases h), hr.mono fun x w' ⟨r, h', ms', e1, e2, e3⟩ => ?_⟩
  subst e1
  show wpListIn _ _ _ _ _ _ (a.put o.dst r) w'
  rw [hd]
  exact K r h' ms' e2.le e3 _ _ (hA.put (Nat.le_of_ble_eq_true hn) _) (Ends.call hw e2)
theorem ws_rangeFuncG {ι : Type} {e : Entry} {Q : Exit → Act → World → Prop} {s : Slots} {h : Hp} {ms : List Hp} {t gf : Nat} {lb : List Value} {ps : List Nat} {assign body : Code} (J : ι → Hp → List Hp → Prop) (A : ι → List Value → ι → Slots → Hp → List Hp → Prop) {R : ι → List Value → ι → Prop} {i0 : ι} {fin : ι → Prop}
    (hg : lk s t = some (.func (.func gf) #[] lb.toArray)) (hc : ∀ as w, (callFunc gf as).run e.P w = .ok (.enter gf as) w) (hit : ItrG e.P gf lb h R i0 fin) (hps : ∀ k vs k', R k vs k' → vs.length = ps.length) (hpn : ps.all (fun p => Nat.blt p e.n) = true)
    (h0 : J i0 h ms)
    (hA : ∀ w0 k vs k' h1 ms1, R k vs k' → h.le h1 → J k h1 ms1 → RS ⟨e.P, w0, h1, ms1, e.n, []⟩ assign (endR ⟨e.P, w0, h1, ms1, e.n, []⟩ (A k vs k')) (parS ps vs s) h1 ms1)
    (hB : ∀ w0 k vs k' s1 h1 ms1, R k vs k' → h.le h1 → A k vs k' s1 h1 ms1 → RS ⟨e.P, w0, h1, ms1, e.n, []⟩ body (endR ⟨e.P, w0, h1, ms1, e.n, []⟩ (fun _ => J k')) s1 h1 ms1)
    (hK : ∀ D k h1 ms1, fin k → h.le h1 → J k h1 ms1 → NX ⟨e.P, e.w0, e.h0, e.ms0, e.n, D :: e.ds⟩ Q .normal s h1 (ms1 ++ [Mk D])) :
    WS e (.rangeFunc (.tmp t) ps.toArray assign body) Q s h ms := by
  intro a w ha hw
  refine (wpIn_wide (n := 0)).1 (wpIn_rangeFunc fun fn _ => ?_)
  have hge : a.eval (.tmp t) = .func (.func gf) #[] lb.toArray := ha.eval (.tmp t) _ hg
  obtain ⟨rec, hrec⟩ : ∃ rec : LoopState → Loop, rec = fun st => { state := st, pending := none, fn, tmps := a.tmps, params := ps.toArray, assign, body, defers := w.heap.size } := ⟨_, rfl⟩
  obtain ⟨l, hl⟩ : ∃ l, l = w.heap.size + 1 := ⟨_, rfl⟩
  obtain ⟨W1, hW1⟩ : ∃ W1, (w.alloc (.deferred (some []))).alloc (.loop (rec .ready)) = W1 := ⟨_, rfl⟩
  have hE1 : e.Ends W1 h (ms ++ [Hp.one l (.loop (rec .ready)), Mk w.heap.size]) := by
    have h2 := (hw.alloc (.deferred (some []))).alloc (.loop (rec .ready))
    rw [World.size_alloc, ← hl, hW1] at h2
    exact h2.perm (by
      refine List.Perm.trans ?_ List.perm_append_comm
      exact List.Perm.refl _)
  have hN : w.heap.size = w.heap.size := rfl
  refine ⟨l, [{ target := .collected w.heap.size, args := #[] }], W1, { target := .fn (.func gf) lb.toArray, args := #[.func (.yield l) #[] #[]] }, W1, gf, ([Value.func (.yield l) #[] #[]] ++ lb).toArray, W1, ?_, ?_, fun _ _ => trivial, ?_, (fun h => by cases h), ?_⟩
  · rw [← hW1, hrec, hl]; exact run_enterLoop_outer _ _ _ _ _
  · simp only [resolve, hge]
    simp [go_sem]
  · simp [invoke, go_sem, hc]
  · refine (callsIn_wide (n := 0)).2 ((hit l (fun k h1 ms1 => h.le h1 ∧ ∃ ms2, ms1 = ms2 ++ [Hp.one l (.loop (rec .ready)), Mk w.heap.size] ∧ J k h1 ms2) h _ (Hp.le_refl _) ?_ ⟨Hp.le_refl _, ms, rfl, h0⟩ W1 hE1.st).mono ?_)
    · -- a round
      rintro k vs k' h2 ms2 hkN hl2 ⟨_, ms2, rfl, hJ⟩ w2 hS2
      have hlo : w2.heap[l]? = some (.loop (rec .ready)) := hS2.own _ (by simp) l _ (Hp.one_self _ _)
      have hy := run_yield (P := e.P) (args := vs.toArray) hlo (by rw [hrec]; simpa using hps k vs k' hkN)
      refine ⟨_, _, _, _, hy, ?_⟩
      have r1 : (rec .ready).params = ps.toArray := by rw [hrec]
      have r2 : (rec .ready).tmps = a.tmps := by rw [hrec]
      have r3 : (rec .ready).assign = assign := by rw [hrec]
      have r4 : (rec .ready).body = body := by rw [hrec]
      rw [r1, r2, r3, r4]
      refine roundIn_of_wpIn trivial ?_
      have hSp : St w2 h2 ms2 := hS2.pre
      have hHas : Has e.n [] { tmps := (ps.toArray.zip vs.toArray).foldl (fun t (p, v) => t.setIfInBounds p v) a.tmps, defers := [] } (parS ps vs s) := by
        have e1 : (ps.toArray.zip vs.toArray).foldl (fun t (p, v) => t.setIfInBounds p v) a.tmps = (ps.zip vs).foldl (fun t (p, v) => t.setIfInBounds p v) a.tmps := by simp
        rw [e1]
        exact has_par rfl ps vs s a.tmps (fun p hp => Nat.le_of_ble_eq_true (List.all_eq_true.1 hpn p hp)) ⟨rfl, ha.size, ha.slots⟩
      refine wpIn_mono (hA w2 k vs k' h2 ms2 hkN hl2 hJ l _ w2 hHas (Ends.refl hSp) endR_in) ?_
      intro x a1 w3 hx
      cases x with
      | normal =>
        obtain ⟨s3, h3, ms3, hA3, hHas3, hE3⟩ := hx
        have hEf : Ends w2 h2 (ms2 ++ [Hp.one l (.loop (rec .ready)), Mk w.heap.size]) w3 h3 (ms3 ++ [Hp.one l (.loop (rec .ready)), Mk w.heap.size]) := Ends.call (Ends.refl hS2) hE3
        have hEp := hEf.perm (ms' := Hp.one l (.loop (rec .ready)) :: Mk w.heap.size :: ms3) List.perm_append_comm
        have hl3 : w3.heap[l]? = some (.loop (rec .ready)) := hEp.st.own _ (List.mem_cons_self) l _ (Hp.one_self _ _)
        have hE4 := Ends.putL (.loop (rec .busy)) hEp
        refine ⟨_, run_beginRound hl3 (by rw [hrec]), ?_⟩
        have e2 : ({ rec .ready with state := .busy } : Loop) = rec .busy := by rw [hrec]
        rw [e2]
        have hE4' := hE4.perm (ms' := ms3 ++ [Hp.one l (.loop (rec .busy)), Mk w.heap.size]) (List.perm_append_comm (l₁ := [_, _]))
        refine wpIn_mono (hB _ k vs k' s3 h3 ms3 hkN (Hp.le_trans hl2 hE3.le) hA3 l a1 _ hHas3 (Ends.refl hE4'.st.pre) endR_in) ?_
        intro y a2 w5 hy5
        cases y with
        | normal =>
          obtain ⟨s5, h5, ms5, hJ5, _, hE5⟩ := hy5
          have hE6 := Ends.call hE4' hE5
          have hE6p := hE6.perm (ms' := Hp.one l (.loop (rec .busy)) :: Mk w.heap.size :: ms5) List.perm_append_comm
          have hl6 : w5.heap[l]? = some (.loop (rec .busy)) := hE6p.st.own _ (List.mem_cons_self) l _ (Hp.one_self _ _)
          refine ⟨_, _, run_endRound none hl6, ?_⟩
          have e3 : ({ rec .busy with state := if (none : Option Code).isNone then .ready else .done, pending := none } : Loop) = rec .ready := by rw [hrec]; rfl
          rw [e3]
          exact ⟨_, h5, _, rfl, (Ends.putL (.loop (rec .ready)) hE6p).perm (List.perm_append_comm (l₁ := [_, _])), rfl, Hp.le_trans hl2 (Hp.le_trans hE3.le hE5.le), ms5, rfl, hJ5⟩
        | _ => exact hy5.elim
      | _ => exact hx
    · rintro x w3 ⟨r, h3, ms3, rfl, hE3, kf, hfin, hl3, ms4, rfl, hJ⟩
      have hE4 := Ends.call (fr := []) (by rw [List.append_nil]; exact hE1) hE3
      rw [List.append_nil] at hE4
      have hE5 := hE4.perm (ms' := Hp.one l (.loop (rec .ready)) :: Mk w.heap.size :: ms4) List.perm_append_comm
      have hl5 : w3.heap[l]? = some (.loop (rec .ready)) := hE5.st.own _ (List.mem_cons_self) l _ (Hp.one_self _ _)
      refine ⟨_, _, run_endLoop hl5 (by rw [hrec]; simp), ?_⟩
      have e4 : (rec .ready).pending = none := by rw [hrec]
      rw [e4]
      exact hK w.heap.size kf h3 ms4 hfin hl3 hJ { a with defers := [{ target := .collected w.heap.size, args := #[] }] ++ a.defers } _ ⟨by show [_] ++ a.defers = _; rw [ha.defers]; rfl, ha.size, ha.slots⟩ ((Ends.putL _ hE5).drop.perm (List.perm_append_comm (l₁ := [_])))
section
variable {κ ν : Type} [DecidableEq κ] {K : κ → Value} {V : ν → Value} {Ok : κ → Prop} {P : Program} {t : TypeId} {gi g : Nat} {m mi : Hp} {T : List (κ × ν)} {bs vis : List Nat}
variable {o : Oper} {s : Slots} {h : Hp} {ms : List Hp} {e : Entry} {Q : Exit → Act → World → Prop} {ops : Array Oper} {rest : List Oper}
theorem wl_rangeF {x : Operand} {d : Nat} {kt et : TypeId} (O : OwnM K V g Ok m T bs) (hm : m.le h) (ho : o.op = .range t x) (ht : e.P.underlying t = some (.map kt et)) (hx : ev s x = some (.map (some g))) (hd : o.dst = some d) (hn : Nat.blt d e.n = true) (hg : o.guard = none)
    (k : ∀ gi mi, IterM gi g m mi bs [] → WL e ops Q rest ((d, .pointer (some ⟨gi, 0, none⟩)) :: s) h (mi :: ms)) : WL e ops Q (o :: rest) s h ms :=
  wl_t (post := fun v h' ms' => ∃ gi mi, IterM gi g m mi bs [] ∧ v = .pointer (some ⟨gi, 0, none⟩) ∧ h' = h ∧ ms' = mi :: ms) (fun ρ w hρ hw => by
    obtain ⟨es, clock, rfl, he, hb⟩ := O.ex
    have hgw : w.heap[g]? = some (.map es clock) := hw.st.imm g _ (hm g _ (Hp.one_self _ _))
    have hrun : (execOp ρ o).run e.P w = .ok (.value (.pointer (some ⟨w.heap.size, 0, none⟩))) (w.alloc (.mapIter (some g) clock #[] clock)) := by
      simp only [execOp, ho, hρ _ _ hx, Instr.range, Sem.run_bind, run_underlying ht, Result.andThen_ok, getObj, Sem.run_pure]
      simp [Sem.run, hgw, Result.andThen, newObj]
    unfold OpRes; rw [hrun]
    exact ⟨h, _, Ends.alloc hw _, _, _, ⟨⟨es, clock, clock, #[], clock, rfl, rfl, hb, Nat.le_refl _, Nat.le_refl _, rfl, fun h => absurd rfl h⟩, by simp, List.Pairwise.nil⟩, rfl, rfl, rfl⟩) hd hn hg fun v h' ms' ⟨gi, mi, e1, e2, e3, e4⟩ => by subst e2 e3 e4; exact k gi mi e1
theorem wl_nextF {x : Operand} {d : Nat} (i : Nat) (O : OwnM K V g Ok m T bs) (I : IterM gi g m mi bs vis) (hm : m.le h) (hi : ms[i]? = some mi) (ho : o.op = .next x false) (hx : ev s x = some (.pointer (some ⟨gi, 0, none⟩))) (hd : o.dst = some d) (hn : Nat.blt d e.n = true) (hg : o.guard = none)
    (k0 : (∀ j, j < T.length → j ∈ vis) → WL e ops Q rest ((d, .tuple #[.bool false]) :: s) h ms)
    (k1 : ∀ (j : Nat) (hj : j < T.length) (mi' : Hp), j ∉ vis → IterM gi g m mi' bs (vis ++ [j]) → WL e ops Q rest ((d, .tuple #[.bool true, K T[j].1, V T[j].2]) :: s) h (ms.set i mi')) : WL e ops Q (o :: rest) s h ms :=
  wl_t (post := fun v h' ms' => (v = .tuple #[.bool false] ∧ h' = h ∧ ms' = ms ∧ ∀ j, j < T.length → j ∈ vis) ∨ ∃ (j : Nat) (hj : j < T.length) (mi' : Hp), j ∉ vis ∧ IterM gi g m mi' bs (vis ++ [j]) ∧ v = .tuple #[.bool true, K T[j].1, V T[j].2] ∧ h' = h ∧ ms' = ms.set i mi') (fun ρ w hρ hw => by
    obtain ⟨es, clock, rfl, he, hb⟩ := O.ex
    obtain ⟨es', clock', since, seen, last, e1, rfl, i1, i2, i3, i4, i5⟩ := I.ex
    have e1 := one_inj e1
    cases e1
    have hgw : w.heap[g]? = some (.map es clock) := hw.st.imm g _ (hm g _ (Hp.one_self _ _))
    have hiw : w.heap[gi]? = some (.mapIter (some g) since seen last) := hw.st.own _ (List.mem_of_getElem? hi) gi _ (Hp.one_self _ _)
    have hent : ∀ x ∈ es.toList, ∃ (j : Nat) (hj : j < T.length) (hjb : j < bs.length), x = ent K V (T[j], bs[j]) := fun x hx => by
      rw [he] at hx
      obtain ⟨p, hp, rfl⟩ := List.mem_map.1 hx
      obtain ⟨j, hj⟩ := List.getElem?_of_mem hp
      obtain ⟨z1, z2⟩ := List.getElem?_zip_eq_some.1 hj
      obtain ⟨j1, j2⟩ := List.getElem?_eq_some_iff.1 z1
      obtain ⟨k1, k2⟩ := List.getElem?_eq_some_iff.1 z2
      exact ⟨j, j1, k1, by rw [j2, k2]⟩
    have hin : ∀ (j : Nat) (hj : j < T.length) (hjb : j < bs.length), ent K V (T[j], bs[j]) ∈ es.toList := fun j hj hjb => by
      rw [he]
      exact List.mem_map.2 ⟨(T[j], bs[j]), List.mem_of_getElem? (i := j) (List.getElem?_zip_eq_some.2 ⟨List.getElem?_eq_getElem hj, List.getElem?_eq_getElem hjb⟩), rfl⟩
    have hseen : ∀ b, seen.contains b = true ↔ ∃ j ∈ vis, bs[j]?.getD 0 = b := fun b => by
      rw [Array.contains_iff_mem, ← Array.mem_toList_iff, i4, List.mem_map]
    rcases run_next_at (P := e.P) w o.type gi g since last seen es clock hiw hgw (fun x hx => by
      obtain ⟨j, hj, hjb, rfl⟩ := hent x hx
      exact i1 _ (List.getElem_mem hjb)) i2 with ⟨h1, h2⟩ | ⟨x, h1, w1, h2, h3⟩
    · have hrun : (execOp ρ o).run e.P w = .ok (.value (.tuple #[.bool false])) w := by
        simp only [execOp, ho, hρ _ _ hx, Sem.run_bind, h2, Result.andThen_ok, Sem.run_pure]
      unfold OpRes; rw [hrun]
      refine ⟨h, ms, hw, .inl ⟨rfl, rfl, rfl, fun j hj => ?_⟩⟩
      have hjb : j < bs.length := by rw [O.len]; exact hj
      have hmem := hin j hj hjb
      have hc : seen.contains bs[j] = true := by
        cases hcc : seen.contains bs[j] with
        | true => rfl
        | false =>
          have : ent K V (T[j], bs[j]) ∈ leftOf es seen := by
            unfold leftOf
            rw [Array.mem_filter]
            exact ⟨Array.mem_toList_iff.1 hmem, by show (!seen.contains bs[j]) = true; rw [hcc]; rfl⟩
          rw [Array.size_eq_zero_iff.1 h1] at this
          simp at this
      obtain ⟨j', hj', e2⟩ := (hseen _).1 hc
      have hj'b := I.lt j' hj'
      rw [List.getElem?_eq_getElem hj'b] at e2
      have : j' = j := up_inj O.up (List.getElem?_eq_getElem hj'b) (by rw [List.getElem?_eq_getElem hjb]; exact congrArg some e2.symm)
      subst this; exact hj'
    · unfold leftOf at h1
      have h1 := Array.mem_filter.1 (Array.mem_toList_iff.1 h1)
      obtain ⟨j, hj, hjb, rfl⟩ := hent x (Array.mem_toList_iff.2 h1.1)
      have hjv : j ∉ vis := fun hv => by
        have : seen.contains bs[j] = true := (hseen _).2 ⟨j, hv, by rw [List.getElem?_eq_getElem hjb]; rfl⟩
        have h4 := h1.2
        simp only [ent] at h4
        rw [this] at h4; cases h4
      have hrun : (execOp ρ o).run e.P w = .ok (.value (.tuple #[.bool true, K T[j].1, V T[j].2])) (ChangeMaps.setBlock w1 gi (.mapIter (some g) since (seen.push bs[j]) clock)) := by
        simp only [execOp, ho, hρ _ _ hx, Sem.run_bind, h3, Result.andThen_ok, Sem.run_pure, ent]
      unfold OpRes; rw [hrun]
      have hw1 : e.Ends w1 h ms := by
        rcases h2 with rfl | rfl
        · exact hw
        · exact Ends.drew hw
      refine ⟨h, _, Ends.turn hw1 hi, .inr ⟨j, hj, _, hjv, ⟨⟨es, clock, since, seen.push bs[j], clock, rfl, rfl, i1, i3, i3, ?_, fun _ => rfl⟩, fun i hi => ?_, ?_⟩, rfl, rfl, rfl⟩⟩
      · rw [Array.toList_push, i4, List.map_append]
        simp [List.getElem?_eq_getElem hjb]
      · rcases List.mem_append.1 hi with hi | hi
        · exact I.lt i hi
        · simp at hi; subst hi; exact hjb
      · exact List.nodup_append.2 ⟨I.nodup, by simp, fun a ha b hb e => by simp at hb; subst hb; subst e; exact hjv ha⟩) hd hn hg fun v h' ms' hp => by
    rcases hp with ⟨e1, e2, e3, e4⟩ | ⟨j, hj, mi', e1, e2, e3, e4, e5⟩
    · subst e1 e2 e3; exact k0 e4
    · subst e3 e4 e5; exact k1 j hj mi' e1 e2
theorem ox_entryF {x : Operand} {j : Nat} (O : OwnM K V g Ok m T bs) (I : IterM gi g m mi bs (vis ++ [j])) (hm : m.le h) (hi : mi ∈ ms) (hj : j < T.length) (ho : o.op = .entry x) (hx : ev s x = some (.pointer (some ⟨gi, 0, none⟩))) : OX P o s h ms (.tuple #[K T[j].1, V T[j].2]) :=
  ox_of fun ρ w hρ hw => by
    obtain ⟨es, clock, rfl, he, hb⟩ := O.ex
    obtain ⟨es', clock', since, seen, last, e1, rfl, i1, i2, i3, i4, i5⟩ := I.ex
    have e1 := one_inj e1
    cases e1
    have hl : last = clock := i5 (by simp)
    subst hl
    have hgw : w.heap[g]? = some (.map es last) := hw.imm g _ (hm g _ (Hp.one_self _ _))
    have hjb : j < bs.length := by rw [O.len]; exact hj
    have hs : seen = (vis.map fun j => bs[j]?.getD 0).toArray.push bs[j] := by
      apply Array.toList_inj.1
      rw [i4, Array.toList_push, List.map_append]
      simp [List.getElem?_eq_getElem hjb]
    have hiw : w.heap[gi]? = some (.mapIter (some g) since ((vis.map fun j => bs[j]?.getD 0).toArray.push (ent K V (T[j], bs[j])).born) last) := by
      have := hw.own _ hi gi _ (Hp.one_self _ _)
      rw [hs] at this; exact this
    have hmem : ent K V (T[j], bs[j]) ∈ es.toList := by
      rw [he]
      exact List.mem_map.2 ⟨(T[j], bs[j]), List.mem_of_getElem? (i := j) (List.getElem?_zip_eq_some.2 ⟨List.getElem?_eq_getElem hj, List.getElem?_eq_getElem hjb⟩), rfl⟩
    have hn : (es.toList.map (·.born)).Nodup := by
      rw [he, List.map_map]
      have : (MapEntry.born ∘ ent K V) = (Prod.snd : (κ × ν) × Nat → Nat) := rfl
      rw [this, List.map_snd_zip (by rw [O.len]; exact Nat.le_refl _)]
      exact O.up.imp fun h => Nat.ne_of_lt h
    have := run_entry_at (P := P) w gi g since _ es last _ hiw hgw hmem hn
    simp only [execOp, ho, hρ _ _ hx, Sem.run_bind, this, Result.andThen_ok, Sem.run_pure, ent]
theorem ox_lookupF {kt et : TypeId} {x y : Operand} {z : ν} (a : κ) (L : Keys P kt K Ok) (O : OwnM K V g Ok m T bs) (hm : m.le h) (ho : o.op = .lookup t x y false) (ht : P.underlying t = some (.map kt et)) (hz : ∀ w, (zeroValue et).run P w = .ok (V z) w) (hx : ev s x = some (.map (some g))) (hy : ev s y = some (K a)) (ha : Ok a) :
    OX P o s h ms (V ((getK T a).getD z)) :=
  ox_of fun ρ w hρ hw => by
    obtain ⟨es, clock, rfl, he, hb⟩ := O.ex
    have hgw : w.heap[g]? = some (.map es clock) := hw.imm g _ (hm g _ (Hp.one_self _ _))
    obtain ⟨l, hk⟩ := L.key a ha
    have hc := L.law.check w es.isEmpty hk
    rcases find_own L O.keys O.ok O.len he w a ha with ⟨h1, h2⟩ | ⟨j, u, b, h1, h2, _, _⟩
    · rw [getK_none h2]
      simp only [execOp, ho, hρ _ _ hx, hρ _ _ hy, Instr.lookup, Sem.run_bind, run_underlying ht, Result.andThen_ok, getObj, Sem.run_pure, h1, hz]
      simp [Sem.run, hgw, hc, h1, hz, Result.andThen]
    · rw [getK_of O.keys h2]
      simp only [execOp, ho, hρ _ _ hx, hρ _ _ hy, Instr.lookup, Sem.run_bind, run_underlying ht, Result.andThen_ok, getObj, Sem.run_pure, h1, hz]
      simp [Sem.run, hgw, hc, h1, hz, Result.andThen]
end
end Go.Eng
namespace Go.Eng
open Go.RowKit
section
variable {e : Entry} {Q : Exit → Act → World → Prop} {ops : Array Oper} {rest : List Oper} {o : Oper} {s : Slots} {h : Hp} {ms : List Hp}
theorem wl_storeSeg {t el : TypeId} {x y : Operand} {v z : Value} {sz bytes g : Nat} {l : List Value} (i k : Nat) (vl : List Value) (ho : o.op = .store t x y) (hs : Elem e.P t sz z bytes) (hx : ev s x = some (.pointer (some ((⟨g, 0, none⟩ : Addr).add k)))) (hy : ev s y = some v) (hv : v.cells = vl.toArray) (hl : vl.length = sz) (h1 : ∀ u ∈ vl, u.oneCell' = true)
    (hm : ms[i]? = some (Blk g el l)) (hk : k + sz ≤ l.length) (hd : o.dst = none) (hg : o.guard = none)
    (K : WL e ops Q rest s h (ms.set i (Blk g el (l.take k ++ vl ++ l.drop (k + sz))))) : WL e ops Q (o :: rest) s h ms := by
  refine wl_t0 (post := fun _ h' ms' => h' = h ∧ ms' = ms.set i (Blk g el (l.take k ++ vl ++ l.drop (k + sz)))) (fun ρ w hρ hw => ?_) hd hg fun _ _ _ ⟨e4, e5⟩ => by subst e4 e5; exact K
  subst hl
  have hgw : w.heap[g]? = some (.cells l.toArray el (0, 0)) := hw.st.own _ (List.mem_of_getElem? hm) g _ (Hp.one_self _ _)
  have hst := run_storeCells_at (P := e.P) g k el vl 0 _ w hgw (by simp only [List.size_toArray]; omega) h1
  have : (execOp ρ o).run e.P w = .ok .skip (w.setRow g (l.take k ++ vl ++ l.drop (k + vl.length)).toArray) := by
    simp [execOp, ho, hρ _ _ hx, hρ _ _ hy, Instr.storeAt, Instr.sureAddr, storeVar, hs.sizeOf, hv, addr_g]
    simp at hst
    rw [hst]; rfl
  unfold OpRes; rw [this]
  exact ⟨h, _, Ends.put hw hm rfl ⟨rfl, Nat.le_refl _⟩ rfl (by simp) (setRow_heap w g _ _ _ _ hgw) (fun k hk hne => setRow_other w g k _ hne), rfl, rfl⟩
theorem wl_freezeM {r : List Oper} {m : Hp} (k : ∀ h', h.le h' → m.le h' → WL e ops Q r s h' ms) : WL e ops Q r s h (m :: ms) :=
  fun a w ha hw => k _ (Hp.le_join _ _) (Hp.join_le_right (hw.st.off m List.mem_cons_self)) a w ha (Ends.freeze hw)
end
end Go.Eng
namespace Go.Eng
open Go.RowKit
section
variable {P : Program} {o : Oper} {s : Slots} {h : Hp} {ms : List Hp} {t u : TypeId} {x y : Operand} {a n : Nat}
theorem ox_shr16 (ho : o.op = .binOp .shr t x y u) {k : IntKind} (hx : ev s x = some (.int .u16 a)) (hy : ev s y = some (.int k n)) (hn : n ≤ 16) : OX P o s h ms (.int .u16 ((a / 2 ^ n : Nat) : Int)) :=
  ox_of fun ρ w hρ _ => by
    have h1 : ¬ ((n : Int) < 0) := by omega
    have h2 : min n 16 = n := Nat.min_eq_left hn
    have h3 : (a : Int).fdiv (2 ^ n) = ((a / 2 ^ n : Nat) : Int) := by
      rw [Int.fdiv_eq_ediv_of_nonneg _ (Int.le_of_lt (Int.pow_pos (by decide)))]; simp
    simp [execOp, ho, hρ _ _ hx, hρ _ _ hy, Op.shift, h1, IntKind.bits, h2, h3, go_sem]
theorem ox_odd16 (ho : o.op = .binOp .and t x y u) (hx : ev s x = some (.int .u16 a)) (hy : ev s y = some (.int .u16 1)) (ha : a < 65536) : OX P o s h ms (.int .u16 ((a % 2 : Nat) : Int)) :=
  ox_of fun ρ w hρ _ => by
    have h3 : IntKind.u16.wrap (((BitVec.ofNat 16 a) &&& (BitVec.ofNat 16 1)).toNat : Int) = ((a % 2 : Nat) : Int) := by
      rw [BitVec.toNat_and, BitVec.toNat_ofNat, BitVec.toNat_ofNat, Nat.mod_eq_of_lt (by omega), Nat.mod_eq_of_lt (by omega), Nat.and_one_is_mod]
      unfold IntKind.wrap
      simp [IntKind.bits, IntKind.signed]
      omega
    simp [execOp, ho, hρ _ _ hx, hρ _ _ hy, Op.intBits, IntKind.bits, go_sem]
    exact h3
end
theorem wrap_bd (a : Int) : -9223372036854775808 ≤ IntKind.i64.wrap a ∧ IntKind.i64.wrap a ≤ 9223372036854775807 := by
  unfold IntKind.wrap
  simp [IntKind.bits, IntKind.signed]
  omega
end Go.Eng
set_option linter.unusedVariables false
namespace Go.Eng
open Go.RowKit
theorem Qs {s' s : Slots} (h : Eng.Sub s' s := by repeat (first | exact trivial | refine ⟨rfl, ?_⟩)) : Eng.Sub s' s := h
def dg (n : Nat) (o : Oper) : Option Nat := match o.dst, o.guard with
  | some d, none => match Nat.blt d n with
    | true => some d
    | false => none
  | _, _ => none
theorem dg_spec {n d : Nat} {o : Oper} (h : dg n o = some d) : o.dst = some d ∧ Nat.blt d n = true ∧ o.guard = none := by
  unfold dg at h
  split at h
  · rename_i d' h1 h2
    split at h
    · rename_i h3; cases h; exact ⟨h1, h3, h2⟩
    · cases h
  · cases h
def mv (s : Slots) (o : Oper) : Option Value := match o.op with
  | .move x => ev s x
  | .assign x => ev s x
  | _ => none
def gd (ops : Array Oper) (n : Nat) (s : Slots) (o : Oper) (w : Bool) : Option Nat := match o.dst, o.guard with
  | some d, some (j, b) => match Nat.blt d n, ops[j]? with
    | true, some oj => match oj.dst with
      | some dj => match lk s dj with
        | some (.bool b') => match (b' == b) == w with
          | true => some d
          | false => none
        | _ => none
      | none => none
    | _, _ => none
  | _, _ => none
theorem gd_spec {ops : Array Oper} {n d : Nat} {s : Slots} {o : Oper} {w : Bool} (h : gd ops n s o w = some d) : ∃ j b oj dj b', o.dst = some d ∧ Nat.blt d n = true ∧ o.guard = some (j, b) ∧ ops[j]? = some oj ∧ oj.dst = some dj ∧ lk s dj = some (.bool b') ∧ (b' == b) = w := by
  unfold gd at h
  split at h
  · rename_i d' j b h1 h2
    split at h
    · rename_i oj h3 h4
      split at h
      · rename_i dj h5
        split at h
        · rename_i b' h6
          split at h
          · rename_i h7; cases h; exact ⟨j, b, oj, dj, b', h1, h3, h2, h4, h5, h6, by simpa using h7⟩
          · cases h
        · cases h
      · cases h
    · cases h
  · cases h
section
variable {e : Entry} {Q : Exit → Act → World → Prop} {s : Slots} {h h0 : Hp} {ms : List Hp} {ops : Array Oper} {listed : Array Bool} {fuel : Nat} {o : Oper} {rest : List Oper} {v : Value} {d : Nat}
theorem Qx (hx : OX e.P o s h ms v) (hd : dg e.n o = some d) (k : WL e ops Q rest ((d, v) :: s) h ms) : WL e ops Q (o :: rest) s h ms :=
  let ⟨h1, h2, h3⟩ := dg_spec hd
  wl_x hx h1 h2 h3 k
def mvd (n : Nat) (s : Slots) (o : Oper) : Option (Nat × Value) := match dg n o, mv s o with
  | some d, some v => some (d, v)
  | _, _ => none
theorem Qm (hm : mvd e.n s o = some (d, v)) (k : WL e ops Q rest ((d, v) :: s) h ms) : WL e ops Q (o :: rest) s h ms := by
  obtain ⟨hd, hv⟩ : dg e.n o = some d ∧ mv s o = some v := by
    unfold mvd at hm
    split at hm
    · rename_i h1 h2; cases hm; exact ⟨h1, h2⟩
    · cases hm
  refine Qx ?_ hd k
  unfold mv at hv
  split at hv
  · exact ox_move (by assumption) hv
  · exact ox_assign (by assumption) hv
  · cases hv
theorem Qk (hd : gd ops e.n s o false = some d) (k : WL e ops Q rest ((d, undef) :: s) h ms) : WL e ops Q (o :: rest) s h ms :=
  let ⟨_, _, _, _, _, h1, h2, h3, h4, h5, h6, h7⟩ := gd_spec hd
  wl_skip h1 h2 h3 h4 h5 h6 h7 k
theorem Qg (hx : OX e.P o s h ms v) (hd : gd ops e.n s o true = some d) (k : WL e ops Q rest ((d, v) :: s) h ms) : WL e ops Q (o :: rest) s h ms :=
  let ⟨_, _, _, _, _, h1, h2, h3, h4, h5, h6, h7⟩ := gd_spec hd
  wl_gx hx h1 h2 h3 h4 h5 (by rw [h6]; congr 2; simpa using h7) k
theorem Qw (k : WB e ops Q h fuel listed s h ms) : WL e ops (QB e ops Q h fuel listed) [] s h ms := wl_nil (nx_qb (Hp.le_refl _) k)
theorem Qa (k : WB e ops Q h0 fuel listed s h ms) (hl : h0.le h := by assumption) : WL e ops (QB e ops Q h0 fuel listed) [] s h ms := wl_nil (nx_qb hl k)
theorem Qo (i : Nat) (ho : ops[i]? = some o) (k : WL e ops (QB e ops Q h0 fuel (listed.setIfInBounds i true)) [o] s h ms) (hr : Region.ready .any ops listed = [i] := by kernel_rfl) : WB e ops Q h0 (fuel + 1) listed s h ms := wb_step [i] hr rfl (wbl_cons ho k wbl_nil)
theorem Qe (k : NX e Q .normal s h ms) (hr : Region.ready .any ops listed = [] := by kernel_rfl) : WB e ops Q h0 fuel listed s h ms := wb_end hr k
theorem RnQ {y : Code} (k : WS e y Q s h ms) : WL e ops (Exit.then (fun a w => y.wp e.P Q a w) Q) [] s h ms := wl_nil (nx_then k)
theorem RsQ {id : Nat} {l : List Oper} {y : Code} (k : WL e l.toArray (Exit.then (fun a w => y.wp e.P Q a w) Q) l s h ms) : WS e (.seq (.region id l.toArray false) y) Q s h ms := ws_seq (ws_region k)
theorem RtQ {id : Nat} {l : List Oper} {y : Code} (k : WL e l.toArray (Exit.then (fun a w => y.wp e.P Q a w) Q) l s h ms) : WL e ops (Exit.then (fun a w => (Code.seq (.region id l.toArray false) y).wp e.P Q a w) Q) [] s h ms := wl_nil (nx_then (ws_seq (ws_region k)))
theorem RrQ {id : Nat} {l : List Oper} (k : WL e l.toArray Q l s h ms) : WL e ops (Exit.then (fun a w => (Code.region id l.toArray false).wp e.P Q a w) Q) [] s h ms := wl_nil (nx_then (ws_region k))
theorem AlQ {t : TypeId} {sz : Nat} {z : Value} {bytes : Nat} (zl : List Value) (ho : o.op = .alloc t) (hs : Elem e.P t sz z bytes) (hz : z.cells = zl.toArray) (hd : dg e.n o = some d) (k : ∀ g, WL e ops Q rest ((d, .pointer (some ⟨g, 0, none⟩)) :: s) h (Blk g t zl :: ms)) : WL e ops Q (o :: rest) s h ms :=
  let ⟨h1, h2, h3⟩ := dg_spec hd
  wl_alloc zl ho hs hz h1 h2 h3 k
end
def pzo (l : List Oper) (n : Nat) (zs : Slots) (i : Nat) : Option (Oper × Nat) := match l[i]? with
  | some o => match dg n o with
    | some d => match lk zs d with
      | none => some (o, d)
      | some _ => none
    | none => none
  | none => none
theorem Qp {P : Program} {l : List Oper} {n : Nat} {s z : Slots} {h0 : Hp} {K : Slots → Prop} {r : List Nat} {i d : Nat} {o : Oper} {v : Value} (ho : pzo l n (z ++ s) i = some (o, d)) (hx : OX P o (z ++ s) h0 [] v) (k : PZs P l n s h0 K r ((d, v) :: z)) : PZs P l n s h0 K (i :: r) z := by
  unfold pzo at ho
  split at ho
  · rename_i o' h1
    split at ho
    · rename_i d' h2
      split at ho
      · rename_i h3
        cases ho
        obtain ⟨h4, h5, _⟩ := dg_spec h2
        exact pzs_x h1 h4 h5 h3 hx k
      · cases ho
    · cases ho
  · cases ho
end Go.Eng
namespace Go.Lin
variable {p a : Nat}
def Prm (p : Nat) : Prop := 2 ≤ p ∧ ∀ d, d ∣ p → d = 1 ∨ d = p
theorem Prm.coprime (hp : Prm p) (h : ¬ p ∣ a) : Nat.Coprime p a := by
  rcases hp.2 (Nat.gcd p a) (Nat.gcd_dvd_left p a) with h1 | h1
  · exact h1
  · exact absurd (h1 ▸ Nat.gcd_dvd_right p a) h
theorem Prm.mul {b : Nat} (hp : Prm p) (h : p ∣ a * b) : p ∣ a ∨ p ∣ b := by
  by_cases hb : p ∣ b
  · exact .inr hb
  · exact .inl ((hp.coprime hb).dvd_of_dvd_mul_right h)
theorem prm_of_trial (h2 : 2 ≤ p) (h : ∀ k, 2 ≤ k → k * k ≤ p → p % k ≠ 0) : Prm p := by
  refine ⟨h2, fun d hd => ?_⟩
  obtain ⟨e, he⟩ := hd
  have hd0 : d ≠ 0 := fun h0 => by subst h0; simp at he; omega
  have he0 : e ≠ 0 := fun h0 => by subst h0; simp at he; omega
  by_cases hd1 : d = 1
  · exact .inl hd1
  by_cases he1 : e = 1
  · subst he1; exact .inr (by omega)
  exfalso
  rcases Nat.le_total d e with hle | hle
  · refine h d (by omega) (by rw [he]; exact Nat.mul_le_mul_left d hle) (by rw [he]; exact Nat.mul_mod_right d e)
  · refine h e (by omega) (by rw [he]; exact Nat.mul_le_mul_right e hle) (by rw [he]; exact Nat.mul_mod_left d e)
def prod (l : List Nat) : Nat := l.foldr (· * ·) 1
theorem prod_erase {l : List Nat} (h : a ∈ l) : prod l = a * prod (l.erase a) := by
  induction l with
  | nil => simp at h
  | cons b l ih =>
    by_cases e : b = a
    · subst e; simp [prod]
    · rw [List.erase_cons_tail (by simpa using e)]
      have := ih ((List.mem_cons.1 h).resolve_left fun h => e h.symm)
      show b * prod l = a * (b * prod (l.erase a))
      rw [this, Nat.mul_left_comm]
theorem prod_same : ∀ (l l' : List Nat), l.Nodup → l'.Nodup → (∀ x ∈ l, x ∈ l') → l.length = l'.length → prod l = prod l'
  | [], l', _, _, _, hl => by
    have : l' = [] := List.eq_nil_of_length_eq_zero hl.symm
    rw [this]
  | a :: l, l', hn, hn', h, hl => by
    have h1 : a ∈ l' := h a (by simp)
    have h2 : ∀ x ∈ l, x ∈ l'.erase a := fun x hx => by
      have : x ≠ a := fun e => (List.nodup_cons.1 hn).1 (e ▸ hx)
      exact (List.mem_erase_of_ne this).2 (h x (by simp [hx]))
    have h3 := prod_same l (l'.erase a) (List.nodup_cons.1 hn).2 (hn'.erase a) h2 (by rw [List.length_erase_of_mem h1, ← hl]; simp)
    rw [prod_erase h1, ← h3]; rfl
theorem prod_map (a p : Nat) : ∀ l : List Nat, prod (l.map fun x => a * x % p) % p = a ^ l.length * prod l % p
  | [] => by simp [prod]
  | x :: l => by
    have ih := prod_map a p l
    show (a * x % p * prod (l.map fun x => a * x % p)) % p = a ^ (l.length + 1) * (x * prod l) % p
    rw [Nat.mul_mod, ih, Nat.mod_mod, ← Nat.mul_mod]
    congr 1
    rw [Nat.pow_succ]
    simp only [Nat.mul_assoc, Nat.mul_left_comm, Nat.mul_comm]
theorem Prm.prod (hp : Prm p) : ∀ l : List Nat, (∀ x ∈ l, ¬ p ∣ x) → ¬ p ∣ Lin.prod l
  | [], _, h => by
    have := Nat.le_of_dvd (by decide) (show p ∣ 1 from h)
    have := hp.1; omega
  | x :: l, hl, h => by
    rcases hp.mul (show p ∣ x * Lin.prod l from h) with h | h
    · exact hl x (by simp) h
    · exact Prm.prod hp l (fun y hy => hl y (by simp [hy])) h
theorem fermat (hp : Prm p) (ha : ¬ p ∣ a) : a ^ (p - 1) % p = 1 := by
  have hp2 := hp.1
  have hr : ∀ x ∈ (List.range (p - 1)).map (· + 1), 1 ≤ x ∧ x < p := fun x hx => by
    obtain ⟨i, hi, rfl⟩ := List.mem_map.1 hx
    simp at hi; omega
  have hnd : ∀ x, 1 ≤ x → x < p → ¬ p ∣ x := fun x h1 h2 h => by have := Nat.le_of_dvd (by omega) h; omega
  have hn : ((List.range (p - 1)).map (· + 1)).Nodup := List.pairwise_map.2 (List.nodup_range.imp fun h e => h (by omega))
  have hinj : ∀ x y, 1 ≤ x → x < p → 1 ≤ y → y < p → a * x % p = a * y % p → x = y := by
    have go : ∀ x y, x ≤ y → 1 ≤ x → y < p → a * x % p = a * y % p → x = y := fun x y hxy h1 h2 h => by
      have h3 : p ∣ a * y - a * x := Nat.dvd_of_mod_eq_zero (Nat.sub_mod_eq_zero_of_mod_eq h.symm)
      rw [← Nat.mul_sub] at h3
      have h4 := (hp.mul h3).resolve_left ha
      rcases Nat.eq_zero_or_pos (y - x) with h5 | h5
      · omega
      · have := Nat.le_of_dvd h5 h4; omega
    intro x y h1 h2 h3 h4 h
    rcases Nat.le_total x y with h5 | h5
    · exact go x y h5 h1 h4 h
    · exact (go y x h5 h3 h2 h.symm).symm
  have hs := prod_same (((List.range (p - 1)).map (· + 1)).map fun x => a * x % p) ((List.range (p - 1)).map (· + 1))
    (List.pairwise_map.2 (hn.imp_of_mem fun {x y} hx hy hne e => hne (hinj x y (hr x hx).1 (hr x hx).2 (hr y hy).1 (hr y hy).2 e))) hn (fun y hy => by
      obtain ⟨x, hx, rfl⟩ := List.mem_map.1 hy
      have h1 : a * x % p < p := Nat.mod_lt _ (by omega)
      have h2 : a * x % p ≠ 0 := fun h0 => by
        rcases hp.mul (Nat.dvd_of_mod_eq_zero h0) with h | h
        · exact ha h
        · exact hnd x (hr x hx).1 (hr x hx).2 h
      exact List.mem_map.2 ⟨a * x % p - 1, by simp; omega, by omega⟩) (by simp)
  have hm := prod_map a p ((List.range (p - 1)).map (· + 1))
  rw [hs, List.length_map, List.length_range] at hm
  have hP := Prm.prod hp ((List.range (p - 1)).map (· + 1)) fun x hx => hnd x (hr x hx).1 (hr x hx).2
  generalize Lin.prod ((List.range (p - 1)).map (· + 1)) = P at hm hP
  have hpos : 0 < a ^ (p - 1) := Nat.pow_pos (Nat.pos_of_ne_zero fun h => ha (h ▸ Nat.dvd_zero p))
  have h5 : p ∣ a ^ (p - 1) * P - P := Nat.dvd_of_mod_eq_zero (Nat.sub_mod_eq_zero_of_mod_eq hm.symm)
  have e : a ^ (p - 1) * P - P = (a ^ (p - 1) - 1) * P := by rw [Nat.sub_mul, Nat.one_mul]
  rw [e] at h5
  have h6 := (hp.mul h5).resolve_right hP
  obtain ⟨k, hk⟩ := h6
  have h7 : a ^ (p - 1) = p * k + 1 := by omega
  rw [h7, Nat.mul_add_mod, Nat.mod_eq_of_lt (by omega)]
structure Fld (p : Int) : Prop where
  two : 2 ≤ p
  inv : ∀ a, ¬ p ∣ a → ∃ b, Cg p (a * b) 1
  mul : ∀ a b, p ∣ a * b → p ∣ a ∨ p ∣ b
theorem Prm.fld (hp : Prm p) : Fld p := by
  have hp2 := hp.1
  have hpp : (0 : Int) < p := by omega
  have key : ∀ a : Int, (p : Int) ∣ a ↔ p ∣ (a % p).toNat := fun a => by
    have h1 := Int.emod_nonneg a (show (p : Int) ≠ 0 by omega)
    rw [Int.dvd_iff_emod_eq_zero]
    constructor
    · intro h; rw [h]; exact Nat.dvd_zero p
    · intro h
      have h2 := Int.emod_lt_of_pos a hpp
      rcases Nat.eq_zero_or_pos (a % p).toNat with h3 | h3
      · omega
      · have := Nat.le_of_dvd h3 h; omega
  refine ⟨by omega, fun a ha => ?_, fun a b h => ?_⟩
  · have ha' : ¬ p ∣ (a % p).toNat := fun h => ha ((key a).2 h)
    have hf := fermat hp ha'
    have h1 := Int.emod_nonneg a (show (p : Int) ≠ 0 by omega)
    refine ⟨(((a % p).toNat ^ (p - 2) : Nat) : Int), ?_⟩
    have e1 : Cg p (a * (((a % p).toNat ^ (p - 2) : Nat) : Int)) ((((a % p).toNat : Nat) : Int) * (((a % p).toNat ^ (p - 2) : Nat) : Int)) := by
      refine Cg.mul ?_ (Cg.refl _ _)
      rw [Int.toNat_of_nonneg h1]; exact (Cg.mod p a).symm
    refine e1.trans ?_
    rw [← Int.natCast_mul, Nat.mul_comm, ← Nat.pow_succ, show (p - 2).succ = p - 1 by omega]
    refine Cg.iff_mod.2 ?_
    have := congrArg (fun n : Nat => (n : Int)) hf
    simp only [Int.natCast_emod] at this
    rw [this, Int.emod_eq_of_lt (by omega) (by omega)]; rfl
  · have h1 := Int.emod_nonneg a (show (p : Int) ≠ 0 by omega)
    have h2 := Int.emod_nonneg b (show (p : Int) ≠ 0 by omega)
    have h3 : p ∣ (a % p).toNat * (b % p).toNat := by
      have : ((p : Int)) ∣ (a % p) * (b % p) := by
        have h4 := ((Cg.mod p a).mul (Cg.mod p b))
        have h5 : Cg p (a * b) 0 := by unfold Cg; rw [Int.sub_zero]; exact h
        have := h4.trans h5
        unfold Cg at this; rwa [Int.sub_zero] at this
      rw [← Int.toNat_of_nonneg h1, ← Int.toNat_of_nonneg h2, ← Int.natCast_mul] at this
      exact Int.natCast_dvd_natCast.1 this
    rcases hp.mul h3 with h | h
    · exact .inl ((key a).2 h)
    · exact .inr ((key b).2 h)
end Go.Lin
namespace Go.Lin
def skip (j0 j : Nat) : Nat := if j < j0 then j else j + 1
theorem sm_skip (m j0 : Nat) (f : Nat → Int) (h : j0 < m + 1) : sm (m + 1) f = sm m (fun j => f (skip j0 j)) + f j0 := by
  induction m with
  | zero => have : j0 = 0 := by omega
            subst this; simp [sm]
  | succ m ih =>
    by_cases e : j0 = m + 1
    · subst e
      show sm (m + 1) f + f (m + 1) = _
      congr 1
      exact sm_congr fun i hi => by unfold skip; rw [if_pos hi]
    · show sm (m + 1) f + f (m + 1) = sm m (fun j => f (skip j0 j)) + f (skip j0 m) + f j0
      rw [ih (by omega)]
      have : skip j0 m = m + 1 := by unfold skip; rw [if_neg (by omega)]
      rw [this]; omega
theorem skip_lt {j0 j m : Nat} (h : j < m) : skip j0 j < m + 1 := by unfold skip; split <;> omega
theorem unknowns {p : Int} (F : Fld p) : ∀ (k m : Nat) (A : Nat → Nat → Int), k < m → ∃ c : Nat → Int, (∃ j, j < m ∧ ¬ p ∣ c j) ∧ ∀ i, i < k → Cg p (sm m fun j => A i j * c j) 0 := by
  intro k
  induction k with
  | zero =>
    intro m A hm
    refine ⟨fun _ => 1, ⟨0, hm, fun h => ?_⟩, fun i hi => by omega⟩
    have h : p ∣ 1 := h
    have := Int.le_of_dvd (by decide) h
    have := F.two; omega
  | succ k ih =>
    intro m A hm
    obtain ⟨m, rfl⟩ : ∃ m', m = m' + 1 := ⟨m - 1, by omega⟩
    by_cases hz : ∀ j, j < m + 1 → p ∣ A k j
    · obtain ⟨c, h1, h2⟩ := ih (m + 1) A (by omega)
      refine ⟨c, h1, fun i hi => ?_⟩
      by_cases e : i = k
      · subst e
        have : Cg p (sm (m + 1) fun j => A i j * c j) (sm (m + 1) fun _ => 0) := Cg.sm fun j hj => by
          have h3 : Cg p (A i j) 0 := by unfold Cg; rw [Int.sub_zero]; exact hz j hj
          have := h3.mul (Cg.refl p (c j))
          rwa [Int.zero_mul] at this
        rwa [sm_zero] at this
      · exact h2 i (by omega)
    · obtain ⟨j0, hj0⟩ := Classical.not_forall.1 hz
      obtain ⟨hj, hnd⟩ := Classical.not_imp.1 hj0
      obtain ⟨b, hb⟩ := F.inv _ hnd
      obtain ⟨c, ⟨j1, hj1, hc1⟩, h2⟩ := ih m (fun i j => A i (skip j0 j) - A i j0 * b * A k (skip j0 j)) (by omega)
      -- the unknown that is left out
      obtain ⟨t, ht⟩ : ∃ t, t = sm m fun j => A k (skip j0 j) * c j := ⟨_, rfl⟩
      let c' : Nat → Int := fun i => if i < j0 then c i else if i = j0 then -(b * t) else c (i - 1)
      have hc' : ∀ j, c' (skip j0 j) = c j := fun j => by
        show (if skip j0 j < j0 then c (skip j0 j) else if skip j0 j = j0 then -(b * t) else c (skip j0 j - 1)) = c j
        unfold skip
        by_cases h : j < j0
        · simp [h]
        · simp only [h, if_false]
          rw [if_neg (by omega), if_neg (by omega)]; congr 1
      have hc0 : c' j0 = -(b * t) := by
        show (if j0 < j0 then c j0 else if j0 = j0 then -(b * t) else c (j0 - 1)) = _
        rw [if_neg (by omega), if_pos rfl]
      refine ⟨c', ⟨skip j0 j1, skip_lt hj1, by rw [hc']; exact hc1⟩, fun i hi => ?_⟩
      rw [sm_skip m j0 _ hj, hc0]
      have e1 : sm m (fun j => A i (skip j0 j) * c' (skip j0 j)) = sm m fun j => A i (skip j0 j) * c j := sm_congr fun j _ => by rw [hc']
      rw [e1]
      by_cases e : i = k
      · subst e
        -- t - A b t
        rw [← ht]
        have h3 : Cg p (A i j0 * (-(b * t))) (-t) := by
          have := (hb.mul (Cg.refl p t)).neg
          rw [Int.one_mul] at this
          have e2 : A i j0 * -(b * t) = -(A i j0 * b * t) := by rw [Int.mul_neg, Int.mul_assoc]
          rw [e2]; exact this
        have := (Cg.refl p t).add h3
        rw [show t + -t = 0 by omega] at this
        exact this
      · have h3 := h2 i (by omega)
        have e2 : (sm m fun j => (A i (skip j0 j) - A i j0 * b * A k (skip j0 j)) * c j) = (sm m fun j => A i (skip j0 j) * c j) + A i j0 * -(b * t) := by
          rw [sm_congr (g := fun j => A i (skip j0 j) * c j - A i j0 * b * (A k (skip j0 j) * c j)) fun j _ => by rw [Int.sub_mul, Int.mul_assoc (A i j0 * b)], sm_sub, sm_mul, ← ht, Int.mul_neg, Int.mul_assoc]
          omega
        rw [e2] at h3; exact h3
end Go.Lin
namespace Go.Lin
variable {n : Nat} {b : Nat → Bool} {p : Int}
def sel (n : Nat) (b : Nat → Bool) : List Nat := (List.range n).filter b
def cnt (n : Nat) (b : Nat → Bool) : Nat := (sel n b).length
theorem sel_nodup (n : Nat) (b : Nat → Bool) : (sel n b).Nodup := List.Pairwise.filter _ List.nodup_range
theorem mem_sel {l : Nat} : l ∈ sel n b ↔ l < n ∧ b l = true := by simp [sel]
theorem nodup_at {l : List Nat} (hn : l.Nodup) {i j : Nat} {a : Nat} (h1 : l[i]? = some a) (h2 : l[j]? = some a) : i = j := by
  obtain ⟨i1, i2⟩ := List.getElem?_eq_some_iff.1 h1
  obtain ⟨j1, j2⟩ := List.getElem?_eq_some_iff.1 h2
  have hp := List.pairwise_iff_getElem.1 hn
  rcases Nat.lt_trichotomy i j with h | h | h
  · exact absurd (i2.trans j2.symm) (hp i j i1 j1 h)
  · exact h
  · exact absurd (j2.trans i2.symm) (hp j i j1 i1 h)
theorem sel_succ (n : Nat) (b : Nat → Bool) : sel (n + 1) b = sel n b ++ if b n then [n] else [] := by
  unfold sel
  rw [List.range_succ, List.filter_append]
  congr 1
  cases h : b n <;> simp [h]
theorem cnt_succ (n : Nat) (b : Nat → Bool) : cnt (n + 1) b = cnt n b + if b n then 1 else 0 := by
  unfold cnt
  rw [sel_succ, List.length_append]
  cases b n <;> simp
theorem sm_sel (n : Nat) (b : Nat → Bool) (f : Nat → Int) : sm n (fun l => if b l then f l else 0) = sm (cnt n b) fun t => f ((sel n b).getD t 0) := by
  induction n with
  | zero => rfl
  | succ n ih =>
    show sm n (fun l => if b l then f l else 0) + (if b n then f n else 0) = _
    rw [ih, cnt_succ]
    cases h : b n with
    | false =>
      simp only [Bool.false_eq_true, if_false, Nat.add_zero, Int.add_zero]
      exact sm_congr fun t ht => by rw [sel_succ, h]; simp
    | true =>
      simp only [if_true]
      show _ = sm (cnt n b) (fun t => f ((sel (n + 1) b).getD t 0)) + f ((sel (n + 1) b).getD (cnt n b) 0)
      have e1 : (sel (n + 1) b).getD (cnt n b) 0 = n := by rw [sel_succ, h]; simp [cnt, List.getD]
      rw [e1]
      congr 1
      exact sm_congr fun t ht => by
        have : t < (sel n b).length := ht
        rw [sel_succ, h]; simp [List.getD, List.getElem?_append_left this]
theorem cnt_congr {b' : Nat → Bool} (h : ∀ l, l < n → b l = b' l) : cnt n b = cnt n b' := by
  unfold cnt sel
  congr 1
  exact List.filter_congr fun l hl => h l (by simpa using hl)
theorem unknowns_sel (F : Fld p) (k n : Nat) (b : Nat → Bool) (A : Nat → Nat → Int) (h : k < cnt n b) : ∃ c : Nat → Int, (∃ l, l < n ∧ b l = true ∧ ¬ p ∣ c l) ∧ ∀ i, i < k → Cg p (sm n fun l => if b l then A i l * c l else 0) 0 := by
  obtain ⟨c, ⟨t, ht, hc⟩, h2⟩ := unknowns F k (cnt n b) (fun i t => A i ((sel n b).getD t 0)) h
  have hat : ∀ t, t < cnt n b → (sel n b).idxOf ((sel n b).getD t 0) = t := fun t ht => by
    have ht' : t < (sel n b).length := ht
    have e : (sel n b).getD t 0 = (sel n b)[t] := by simp [List.getD, ht']
    rw [e]
    have hm : (sel n b)[t] ∈ sel n b := List.getElem_mem ht'
    have hlt := List.idxOf_lt_length_of_mem hm
    refine nodup_at (sel_nodup n b) (a := (sel n b)[t]) ?_ (List.getElem?_eq_getElem ht')
    rw [List.getElem?_eq_getElem hlt, List.getElem_idxOf]
  refine ⟨fun l => c ((sel n b).idxOf l), ⟨(sel n b).getD t 0, ?_, ?_, by show ¬ p ∣ c _; rw [hat t ht]; exact hc⟩, fun i hi => ?_⟩
  · have ht' : t < (sel n b).length := ht
    have : (sel n b).getD t 0 ∈ sel n b := by simp [List.getD, ht']
    exact (mem_sel.1 this).1
  · have ht' : t < (sel n b).length := ht
    have : (sel n b).getD t 0 ∈ sel n b := by simp [List.getD, ht']
    exact (mem_sel.1 this).2
  · rw [sm_sel n b fun l => A i l * c ((sel n b).idxOf l)]
    have := h2 i hi
    rwa [sm_congr (g := fun t => A i ((sel n b).getD t 0) * c ((sel n b).idxOf ((sel n b).getD t 0))) fun t ht => by rw [hat t ht]] at this
def comb (n : Nat) (b : Nat → Bool) (c : Nat → Int) (v : Nat → Nat → Int) (i : Nat) : Int := sm n fun l => if b l then c l * v l i else 0
def Ind (p : Int) (n : Nat) (b : Nat → Bool) (d : Nat) (v : Nat → Nat → Int) : Prop := ∀ c : Nat → Int, (∀ i, i < d → Cg p (comb n b c v i) 0) → ∀ l, l < n → b l = true → p ∣ c l
def Spn (p : Int) (n : Nat) (b : Nat → Bool) (d : Nat) (v : Nat → Nat → Int) (x : Nat → Int) : Prop := ∃ c : Nat → Int, ∀ i, i < d → Cg p (x i) (comb n b c v i)
theorem exchange (F : Fld p) {n' d : Nat} {b' : Nat → Bool} {v v' : Nat → Nat → Int} (hI : Ind p n b d v) (hS : ∀ l, l < n → b l = true → Spn p n' b' d v' (v l)) : cnt n b ≤ cnt n' b' := by
  refine Nat.le_of_not_lt fun hlt => ?_
  have hex : ∀ l, ∃ a : Nat → Int, l < n → b l = true → ∀ i, i < d → Cg p (v l i) (comb n' b' a v' i) := fun l => by
    by_cases h : l < n ∧ b l = true
    · obtain ⟨a, ha⟩ := hS l h.1 h.2
      exact ⟨a, fun _ _ => ha⟩
    · exact ⟨fun _ => 0, fun h1 h2 => absurd ⟨h1, h2⟩ h⟩
  obtain ⟨a, ha⟩ := Classical.axiomOfChoice hex
  obtain ⟨c, ⟨l, hl, hb, hc⟩, h2⟩ := unknowns_sel F (cnt n' b') n b (fun e l => a l ((sel n' b').getD e 0)) hlt
  refine hc (hI c (fun i hi => ?_) l hl hb)
  -- the sum by the second family
  have e1 : Cg p (comb n b c v i) (sm n fun l => if b l then sm n' (fun l' => if b' l' then c l * (a l l' * v' l' i) else 0) else 0) := by
    refine Cg.sm fun l hl => ?_
    cases hbl : b l with
    | false => exact Cg.refl _ _
    | true =>
      simp only [if_true]
      have := (Cg.refl p (c l)).mul (ha l hl hbl i hi)
      refine this.trans (Cg.of_eq ?_)
      unfold comb
      rw [← sm_mul]
      exact sm_congr fun l' _ => by cases b' l' <;> simp
  have e2 : (sm n fun l => if b l then sm n' (fun l' => if b' l' then c l * (a l l' * v' l' i) else 0) else 0) = sm n' fun l' => if b' l' then (sm n fun l => if b l then a l l' * c l else 0) * v' l' i else 0 := by
    rw [sm_congr (g := fun l => sm n' fun l' => if b l then (if b' l' then c l * (a l l' * v' l' i) else 0) else 0) fun l _ => by
      cases b l
      · simp [sm_zero]
      · simp, sm_comm]
    refine sm_congr fun l' _ => ?_
    cases b' l' with
    | false => simp only [Bool.false_eq_true, if_false]; exact sm_zero' fun l _ => by cases b l <;> rfl
    | true =>
      simp only [if_true]
      rw [← sm_mul_r]
      refine sm_congr fun l _ => ?_
      cases b l
      · simp
      · simp only [if_true]; rw [← Int.mul_assoc, Int.mul_comm (c l)]
  rw [e2] at e1
  refine e1.trans ?_
  have : Cg p (sm n' fun l' => if b' l' then (sm n fun l => if b l then a l l' * c l else 0) * v' l' i else 0) (sm n' fun _ => 0) := Cg.sm fun l' hl' => by
    cases hb' : b' l' with
    | false => exact Cg.refl _ _
    | true =>
      simp only [if_true]
      obtain ⟨e, he, hee⟩ := List.getElem_of_mem (mem_sel.2 ⟨hl', hb'⟩)
      have h3 := h2 e he
      have e3 : (sel n' b').getD e 0 = l' := by simp [List.getD, he, hee]
      simp only [e3] at h3
      have := h3.mul (Cg.refl p (v' l' i))
      rwa [Int.zero_mul] at this
  rwa [sm_zero] at this
theorem spans (F : Fld p) {d : Nat} {v : Nat → Nat → Int} (hI : Ind p n b d v) (hc : cnt n b = d) (x : Nat → Int) : Spn p n b d v x := by
  -- the family with x
  let b1 : Nat → Bool := fun l => if l = n then true else b l
  let v1 : Nat → Nat → Int := fun l => if l = n then x else v l
  have hcnt : cnt (n + 1) b1 = d + 1 := by
    rw [cnt_succ, cnt_congr (b' := b) fun l hl => by simp only [b1]; rw [if_neg (by omega)], hc]
    simp [b1]
  obtain ⟨c, ⟨l, hl, hb, hnc⟩, h2⟩ := unknowns_sel F d (n + 1) b1 (fun i l => v1 l i) (by omega)
  have key : ∀ i, i < d → Cg p (comb n b c v i + c n * x i) 0 := fun i hi => by
    have h3 := h2 i hi
    have e : (sm (n + 1) fun l => if b1 l then v1 l i * c l else 0) = comb n b c v i + c n * x i := by
      show sm n _ + _ = _
      congr 1
      · refine sm_congr fun l hl => ?_
        have h1 : b1 l = b l := by simp only [b1]; rw [if_neg (by omega)]
        have h2 : v1 l = v l := by simp only [v1]; rw [if_neg (by omega)]
        rw [h1, h2, Int.mul_comm]
      · simp [b1, v1, Int.mul_comm]
    rw [e] at h3; exact h3
  by_cases hn : p ∣ c n
  · -- then the family itself would be dependent
    exfalso
    have h4 := hI c fun i hi => by
      have h5 := key i hi
      have h6 : Cg p (c n * x i) 0 := by
        unfold Cg; rw [Int.sub_zero]; exact Int.dvd_mul_of_dvd_left hn
      have := h5.sub h6
      rwa [Int.add_sub_cancel, Int.sub_zero] at this
    by_cases e : l = n
    · subst e; exact hnc hn
    · have : b1 l = b l := by simp only [b1]; rw [if_neg e]
      exact hnc (h4 l (by omega) (this ▸ hb))
  · obtain ⟨u, hu⟩ := F.inv _ hn
    refine ⟨fun l => -(u * c l), fun i hi => ?_⟩
    have h5 := key i hi
    have h6 : Cg p (u * (comb n b c v i + c n * x i)) 0 := by
      have := (Cg.refl p u).mul h5
      rwa [Int.mul_zero] at this
    have h7 : Cg p (u * (c n * x i)) (x i) := by
      have := hu.mul (Cg.refl p (x i))
      rwa [Int.one_mul, Int.mul_comm (c n), Int.mul_assoc] at this
    have h8 : comb n b (fun l => -(u * c l)) v i = -(u * comb n b c v i) := by
      unfold comb
      rw [← Int.neg_mul, ← sm_mul]
      exact sm_congr fun l _ => by
        cases b l
        · simp
        · simp only [if_true]; rw [Int.neg_mul, Int.mul_assoc, Int.neg_mul]
    rw [h8]
    rw [Int.mul_add] at h6
    have h9 := h6.sub h7
    -- u comb + u c x - u c x ≡ - x
    have e : u * comb n b c v i + u * (c n * x i) - u * (c n * x i) = u * comb n b c v i := by omega
    have h10 : Cg p (u * comb n b c v i) (0 - x i) := by
      have := h6.sub h7
      rwa [e] at this
    have := h10.neg
    rw [show -(0 - x i) = x i by omega] at this
    exact this.symm
end Go.Lin
namespace Go.Lin
variable {a b l n : Nat} {p : Int} {y : Nat → Int} {v : Nat → Nat → Int}
structure Zg where
  p : Int
  n : Nat
  d : Nat → Nat
  back : Nat → Bool
  mat : Nat → Nat → Nat → Int
def ap (A : Nat → Nat → Int) (cols : Nat) (v : Nat → Int) (i : Nat) : Int := sm cols fun j => A i j * v j
def Zg.src (Z : Zg) (k : Nat) : Nat := if Z.back k then k + 1 else k
def Zg.tgt (Z : Zg) (k : Nat) : Nat := if Z.back k then k else k + 1
structure Dc where
  N : Nat
  fr : Nat → Nat
  to : Nat → Nat
  vec : Nat → Nat → Nat → Int
def Dc.on (D : Dc) (k : Nat) (l : Nat) : Bool := decide (D.fr l ≤ k) && decide (k ≤ D.to l)
theorem Dc.on_iff {D : Dc} {k : Nat} : D.on k l = true ↔ D.fr l ≤ k ∧ k ≤ D.to l := by simp [Dc.on]
structure Valid (Z : Zg) (D : Dc) : Prop where
  ends : ∀ l, l < D.N → D.fr l ≤ D.to l ∧ D.to l < Z.n
  ind : ∀ k, k < Z.n → Ind Z.p D.N (D.on k) (Z.d k) fun l => D.vec l k
  cnt : ∀ k, k < Z.n → Lin.cnt D.N (D.on k) = Z.d k
  arr : ∀ k, k + 1 < Z.n → ∀ l, l < D.N → D.on (Z.src k) l = true → ∀ i, i < Z.d (Z.tgt k) → Cg Z.p (ap (Z.mat k) (Z.d (Z.src k)) (D.vec l (Z.src k)) i) (if D.on (Z.tgt k) l then D.vec l (Z.tgt k) i else 0)
theorem ap_cg {A : Nat → Nat → Int} {cols : Nat} {v w : Nat → Int} (h : ∀ j, j < cols → Cg p (v j) (w j)) (i : Nat) : Cg p (ap A cols v i) (ap A cols w i) :=
  Cg.sm fun j hj => (Cg.refl p _).mul (h j hj)
theorem ap_comb (A : Nat → Nat → Int) (cols n : Nat) (b : Nat → Bool) (c : Nat → Int) (v : Nat → Nat → Int) (i : Nat) : ap A cols (comb n b c v) i = sm n fun l => if b l then c l * ap A cols (v l) i else 0 := by
  unfold ap comb
  rw [sm_congr (g := fun j => sm n fun l => A i j * (if b l then c l * v l j else 0)) fun j _ => (sm_mul _ _ _).symm, sm_comm]
  refine sm_congr fun l _ => ?_
  cases b l with
  | false => simp [sm_zero]
  | true =>
    simp only [if_true]
    rw [← sm_mul]
    exact sm_congr fun j _ => by rw [← Int.mul_assoc, Int.mul_comm (A i j), Int.mul_assoc]
theorem ap_zero (A : Nat → Nat → Int) (cols i : Nat) : ap A cols (fun _ => 0) i = 0 := sm_zero' fun j _ => Int.mul_zero _
theorem comb_sub (n : Nat) (b : Nat → Bool) (c c' : Nat → Int) (v : Nat → Nat → Int) (i : Nat) : comb n b (fun l => c l - c' l) v i = comb n b c v i - comb n b c' v i := by
  unfold comb
  rw [← sm_sub]
  exact sm_congr fun l _ => by cases b l <;> simp [Int.sub_mul]
def Thr (Z : Zg) (a b : Nat) (x : Nat → Nat → Int) : Prop := ∀ k, a ≤ k → k < b → ∀ i, i < Z.d (Z.tgt k) → Cg Z.p (ap (Z.mat k) (Z.d (Z.src k)) (x (Z.src k)) i) (x (Z.tgt k) i)
def Im (Z : Zg) (a b : Nat) (y : Nat → Int) : Prop := ∃ x, Thr Z a b x ∧ ∀ i, i < Z.d b → Cg Z.p (x b i) (y i)
def Ker (Z : Zg) (a b : Nat) (y : Nat → Int) : Prop := ∃ x, Thr Z a b x ∧ (∀ i, i < Z.d a → Cg Z.p (x a i) 0) ∧ ∀ i, i < Z.d b → Cg Z.p (x b i) (y i)
section
variable {Z : Zg} {D : Dc}
theorem Zg.src_tgt (Z : Zg) (k : Nat) : (Z.src k = k ∧ Z.tgt k = k + 1 ∧ Z.back k = false) ∨ (Z.src k = k + 1 ∧ Z.tgt k = k ∧ Z.back k = true) := by
  unfold Zg.src Zg.tgt
  cases Z.back k
  · exact .inl ⟨rfl, rfl, rfl⟩
  · exact .inr ⟨rfl, rfl, rfl⟩
theorem thr_coef (V : Valid Z D) (hb : b < Z.n) {x : Nat → Nat → Int} (T : Thr Z a b x) {C : Nat → Nat → Int} (hC : ∀ k, a ≤ k → k ≤ b → ∀ i, i < Z.d k → Cg Z.p (x k i) (comb D.N (D.on k) (C k) (fun l => D.vec l k) i)) {k : Nat} (hak : a ≤ k) (hkb : k < b) (hl : l < D.N) (hon : D.on (Z.tgt k) l = true) :
    Cg Z.p (C (Z.tgt k) l) (if D.on (Z.src k) l then C (Z.src k) l else 0) := by
  have hs : a ≤ Z.src k ∧ Z.src k ≤ b := by rcases Z.src_tgt k with ⟨e, _, _⟩ | ⟨e, _, _⟩ <;> omega
  have ht : a ≤ Z.tgt k ∧ Z.tgt k ≤ b := by rcases Z.src_tgt k with ⟨_, e, _⟩ | ⟨_, e, _⟩ <;> omega
  have h := V.ind (Z.tgt k) (by omega) (fun l => C (Z.tgt k) l - if D.on (Z.src k) l then C (Z.src k) l else 0) (fun i hi => ?_) l hl hon
  · exact h
  · rw [comb_sub]
    have h1 := hC (Z.tgt k) ht.1 ht.2 i hi
    have h2 := T k hak hkb i hi
    have h3 := ap_cg (A := Z.mat k) (hC (Z.src k) hs.1 hs.2) i
    rw [ap_comb] at h3
    have h4 : Cg Z.p (sm D.N fun l => if D.on (Z.src k) l then C (Z.src k) l * ap (Z.mat k) (Z.d (Z.src k)) (D.vec l (Z.src k)) i else 0) (comb D.N (D.on (Z.tgt k)) (fun l => if D.on (Z.src k) l then C (Z.src k) l else 0) (fun l => D.vec l (Z.tgt k)) i) := by
      refine Cg.sm fun l hl => ?_
      cases hsl : D.on (Z.src k) l with
      | false => cases D.on (Z.tgt k) l <;> simp [Cg.refl, hsl]
      | true =>
        have h5 := (Cg.refl Z.p (C (Z.src k) l)).mul (V.arr k (by omega) l hl hsl i hi)
        cases htl : D.on (Z.tgt k) l with
        | false => rw [htl] at h5; simpa using h5
        | true => rw [htl] at h5; simpa [hsl] using h5
    -- x tgt ≡ both
    have h6 := h1.symm.trans (h2.symm.trans (h3.trans h4))
    have := h6.sub (Cg.refl Z.p (comb D.N (D.on (Z.tgt k)) (fun l => if D.on (Z.src k) l then C (Z.src k) l else 0) (fun l => D.vec l (Z.tgt k)) i))
    rwa [Int.sub_self] at this
theorem thr_keep (V : Valid Z D) (hb : b < Z.n) {x : Nat → Nat → Int} (T : Thr Z a b x) {C : Nat → Nat → Int} (hC : ∀ k, a ≤ k → k ≤ b → ∀ i, i < Z.d k → Cg Z.p (x k i) (comb D.N (D.on k) (C k) (fun l => D.vec l k) i)) (hl : l < D.N) {m : Nat} (hm : a ≤ m) (hon : D.on m l = true) (hob : D.on b l = true) : ∀ j, m + j ≤ b → Cg Z.p (C (m + j) l) (C m l)
  | 0, _ => Cg.refl _ _
  | j + 1, h => by
    have ih := thr_keep V hb T hC hl hm hon hob j (by omega)
    have o1 := Dc.on_iff.1 hon
    have o2 := Dc.on_iff.1 hob
    have oa : D.on (m + j) l = true := Dc.on_iff.2 ⟨by omega, by omega⟩
    have ob : D.on (m + j + 1) l = true := Dc.on_iff.2 ⟨by omega, by omega⟩
    refine Cg.trans ?_ ih
    rcases Z.src_tgt (m + j) with ⟨e1, e2, _⟩ | ⟨e1, e2, _⟩
    · have := thr_coef V hb T hC (k := m + j) (by omega) (by omega) hl (by rw [e2]; exact ob)
      rw [e1, e2, oa] at this; exact (by simpa using this : Cg Z.p (C (m + j + 1) l) (C (m + j) l))
    · have := thr_coef V hb T hC (k := m + j) (by omega) (by omega) hl (by rw [e2]; exact oa)
      rw [e1, e2, ob] at this
      exact (by simpa using this : Cg Z.p (C (m + j) l) (C (m + j + 1) l)).symm
def Dc.s1 (Z : Zg) (D : Dc) (a b : Nat) (l : Nat) : Bool := D.on b l && (decide (D.fr l ≤ a) || Z.back (D.fr l - 1))
def Dc.s0 (Z : Zg) (D : Dc) (a b : Nat) (l : Nat) : Bool := D.on b l && (decide (a < D.fr l) && Z.back (D.fr l - 1))
def Dc.cov (D : Dc) (a b : Nat) (l : Nat) : Bool := decide (D.fr l ≤ a) && decide (b ≤ D.to l)
theorem coefs (F : Fld Z.p) (V : Valid Z D) (hb : b < Z.n) (x : Nat → Nat → Int) : ∃ C : Nat → Nat → Int, ∀ k, a ≤ k → k ≤ b → ∀ i, i < Z.d k → Cg Z.p (x k i) (comb D.N (D.on k) (C k) (fun l => D.vec l k) i) := by
  have hex : ∀ k, ∃ c : Nat → Int, k ≤ b → ∀ i, i < Z.d k → Cg Z.p (x k i) (comb D.N (D.on k) c (fun l => D.vec l k) i) := fun k => by
    by_cases h : k ≤ b
    · obtain ⟨c, hc⟩ := spans F (V.ind k (by omega)) (V.cnt k (by omega)) (x k)
      exact ⟨c, fun _ => hc⟩
    · exact ⟨fun _ => 0, fun h' => absurd h' h⟩
  obtain ⟨C, hC⟩ := Classical.axiomOfChoice hex
  exact ⟨C, fun k _ h2 => hC k h2⟩
theorem comb_drop {b b' : Nat → Bool} {c : Nat → Int} (h1 : ∀ l, l < n → b' l = true → b l = true) (h2 : ∀ l, l < n → b l = true → b' l = false → Cg p (c l) 0) (i : Nat) : Cg p (comb n b c v i) (comb n b' c v i) := by
  refine Cg.sm fun l hl => ?_
  cases hb : b l with
  | false =>
    cases hb' : b' l with
    | false => exact Cg.refl _ _
    | true => have := h1 l hl hb'; rw [hb] at this; cases this
  | true =>
    cases hb' : b' l with
    | true => exact Cg.refl _ _
    | false =>
      have := (h2 l hl hb hb').mul (Cg.refl p (v l i))
      rw [Int.zero_mul] at this
      simpa using this
theorem im_spn (F : Fld Z.p) (V : Valid Z D) (hab : a ≤ b) (hb : b < Z.n) (h : Im Z a b y) : Spn Z.p D.N (D.s1 Z a b) (Z.d b) (fun l => D.vec l b) y := by
  obtain ⟨x, T, hy⟩ := h
  obtain ⟨C, hC⟩ := coefs F V (a := a) hb x
  refine ⟨C b, fun i hi => (hy i hi).symm.trans ((hC b hab (Nat.le_refl _) i hi).trans (comb_drop (fun l _ h => ?_) (fun l hl ho hn => ?_) i))⟩
  · unfold Dc.s1 at h; simp only [Bool.and_eq_true] at h; exact h.1
  · -- born by an arrow that leads forward
    unfold Dc.s1 at hn
    rw [ho] at hn
    simp only [Bool.true_and, Bool.or_eq_false_iff, decide_eq_false_iff_not] at hn
    obtain ⟨h1, h2⟩ := hn
    have o := Dc.on_iff.1 ho
    have hfr : D.on (D.fr l) l = true := Dc.on_iff.2 ⟨Nat.le_refl _, by omega⟩
    have k1 := thr_keep V hb T hC hl (m := D.fr l) (by omega) hfr ho (b - D.fr l) (by omega)
    rw [show D.fr l + (b - D.fr l) = b by omega] at k1
    refine k1.trans ?_
    rcases Z.src_tgt (D.fr l - 1) with ⟨e1, e2, _⟩ | ⟨_, _, e3⟩
    · have e2 : Z.tgt (D.fr l - 1) = D.fr l := by omega
      have := thr_coef V hb T hC (k := D.fr l - 1) (by omega) (by omega) hl (by rw [e2]; exact hfr)
      have hno : D.on (Z.src (D.fr l - 1)) l = false := by
        cases hh : D.on (Z.src (D.fr l - 1)) l with
        | false => rfl
        | true => have := (Dc.on_iff.1 hh).1; omega
      rw [e2, hno] at this; simpa using this
    · rw [e3] at h2; cases h2
theorem ker_spn (F : Fld Z.p) (V : Valid Z D) (hab : a ≤ b) (hb : b < Z.n) (h : Ker Z a b y) : Spn Z.p D.N (D.s0 Z a b) (Z.d b) (fun l => D.vec l b) y := by
  obtain ⟨x, T, h0, hy⟩ := h
  obtain ⟨C, hC⟩ := coefs F V (a := a) hb x
  refine ⟨C b, fun i hi => (hy i hi).symm.trans ((hC b hab (Nat.le_refl _) i hi).trans (comb_drop (fun l _ h => ?_) (fun l hl ho hn => ?_) i))⟩
  · unfold Dc.s0 at h; simp only [Bool.and_eq_true] at h; exact h.1
  · have o := Dc.on_iff.1 ho
    by_cases hfa : D.fr l ≤ a
    · have hoa : D.on a l = true := Dc.on_iff.2 ⟨hfa, by omega⟩
      have k1 := thr_keep V hb T hC hl (m := a) (Nat.le_refl _) hoa ho (b - a) (by omega)
      rw [show a + (b - a) = b by omega] at k1
      refine k1.trans ?_
      have := V.ind a (by omega) (C a) (fun i hi => (hC a (Nat.le_refl _) hab i hi).symm.trans (h0 i hi)) l hl hoa
      unfold Cg; rwa [Int.sub_zero]
    · unfold Dc.s0 at hn
      rw [ho] at hn
      have : decide (a < D.fr l) = true := decide_eq_true (by omega)
      rw [this] at hn
      simp only [Bool.true_and] at hn
      have hfr : D.on (D.fr l) l = true := Dc.on_iff.2 ⟨Nat.le_refl _, by omega⟩
      have k1 := thr_keep V hb T hC hl (m := D.fr l) (by omega) hfr ho (b - D.fr l) (by omega)
      rw [show D.fr l + (b - D.fr l) = b by omega] at k1
      refine k1.trans ?_
      rcases Z.src_tgt (D.fr l - 1) with ⟨e1, e2, _⟩ | ⟨_, _, e3⟩
      · have e2 : Z.tgt (D.fr l - 1) = D.fr l := by omega
        have := thr_coef V hb T hC (k := D.fr l - 1) (by omega) (by omega) hl (by rw [e2]; exact hfr)
        have hno : D.on (Z.src (D.fr l - 1)) l = false := by
          cases hh : D.on (Z.src (D.fr l - 1)) l with
          | false => rfl
          | true => have := (Dc.on_iff.1 hh).1; omega
        rw [e2, hno] at this; simpa using this
      · rw [e3] at hn; cases hn
theorem strand_thr (V : Valid Z D) (hb : b < Z.n) (hl : l < D.N) (hs : D.s1 Z a b l = true) : Thr Z a b fun k i => if D.on k l then D.vec l k i else 0 := by
  intro k hak hkb i hi
  unfold Dc.s1 at hs
  simp only [Bool.and_eq_true, Bool.or_eq_true, decide_eq_true_eq] at hs
  obtain ⟨ho, hs⟩ := hs
  have o := Dc.on_iff.1 ho
  cases hsrc : D.on (Z.src k) l with
  | true =>
    simp only [hsrc, if_true]
    exact V.arr k (by omega) l hl hsrc i hi
  | false =>
    simp only [hsrc, Bool.false_eq_true, if_false]
    rw [ap_zero]
    have htgt : D.on (Z.tgt k) l = false := by
      cases ht : D.on (Z.tgt k) l with
      | false => rfl
      | true =>
        exfalso
        have t := Dc.on_iff.1 ht
        have hns : ¬ (D.fr l ≤ Z.src k ∧ Z.src k ≤ D.to l) := fun h => by rw [Dc.on_iff.2 h] at hsrc; cases hsrc
        rcases Z.src_tgt k with ⟨e1, e2, e3⟩ | ⟨e1, e2, e3⟩
        · rcases hs with hs | hs
          · omega
          · have : D.fr l - 1 = k := by omega
            rw [this, e3] at hs; cases hs
        · omega
    rw [htgt]; exact Cg.refl _ _
theorem thr_comb (n : Nat) (b : Nat → Bool) (c : Nat → Int) {e : Nat} {X : Nat → Nat → Nat → Int} (h : ∀ l, l < n → b l = true → Thr Z a e (X l)) : Thr Z a e fun k => comb n b c fun l => X l k := by
  intro k h1 h2 i hi
  rw [ap_comb]
  refine Cg.sm fun l hl => ?_
  cases hb : b l with
  | false => exact Cg.refl _ _
  | true => simp only [if_true]; exact (Cg.refl _ _).mul (h l hl hb k h1 h2 i hi)
theorem spn_im (V : Valid Z D) (hb : b < Z.n) (h : Spn Z.p D.N (D.s1 Z a b) (Z.d b) (fun l => D.vec l b) y) : Im Z a b y := by
  obtain ⟨c, hc⟩ := h
  refine ⟨_, thr_comb D.N (D.s1 Z a b) c fun l hl hs => strand_thr V hb hl hs, fun i hi => Cg.trans (Cg.of_eq ?_) (hc i hi).symm⟩
  unfold comb
  refine sm_congr fun l _ => ?_
  cases hs : D.s1 Z a b l with
  | false => rfl
  | true =>
    have : D.on b l = true := by unfold Dc.s1 at hs; simp only [Bool.and_eq_true] at hs; exact hs.1
    simp [this]
theorem s0_s1 (h : D.s0 Z a b l = true) : D.s1 Z a b l = true := by
  unfold Dc.s0 at h; unfold Dc.s1
  simp only [Bool.and_eq_true, Bool.or_eq_true] at *
  exact ⟨h.1, .inr h.2.2⟩
theorem spn_ker (V : Valid Z D) (hb : b < Z.n) (h : Spn Z.p D.N (D.s0 Z a b) (Z.d b) (fun l => D.vec l b) y) : Ker Z a b y := by
  obtain ⟨c, hc⟩ := h
  refine ⟨_, thr_comb D.N (D.s0 Z a b) c fun l hl hs => strand_thr V hb hl (s0_s1 hs), fun i hi => Cg.of_eq ?_, fun i hi => Cg.trans (Cg.of_eq ?_) (hc i hi).symm⟩
  · unfold comb
    refine sm_zero' fun l _ => ?_
    cases hs : D.s0 Z a b l with
    | false => rfl
    | true =>
      have : D.on a l = false := by
        unfold Dc.s0 at hs; simp only [Bool.and_eq_true, decide_eq_true_eq] at hs
        cases ho : D.on a l with
        | false => rfl
        | true => have := (Dc.on_iff.1 ho).1; omega
      simp [this]
  · unfold comb
    refine sm_congr fun l _ => ?_
    cases hs : D.s0 Z a b l with
    | false => rfl
    | true =>
      have : D.on b l = true := by unfold Dc.s0 at hs; simp only [Bool.and_eq_true] at hs; exact hs.1
      simp [this]
theorem Ind.sub {d : Nat} {b b' : Nat → Bool} (h : Ind p n b d v) (hs : ∀ l, l < n → b' l = true → b l = true) : Ind p n b' d v := by
  intro c hc l hl hb
  have := h (fun l => if b' l then c l else 0) (fun i hi => ?_) l hl (hs l hl hb)
  · rwa [if_pos hb] at this
  · refine Cg.trans (Cg.of_eq ?_) (hc i hi)
    unfold comb
    refine sm_congr fun l hl => ?_
    cases hb' : b' l with
    | false => cases b l <;> simp [hb']
    | true => simp [hs l hl hb', hb']
theorem Spn.self {d : Nat} {b : Nat → Bool} (hl : l < n) (hb : b l = true) : Spn p n b d v (v l) := by
  refine ⟨fun k => if k = l then 1 else 0, fun i hi => Cg.of_eq ?_⟩
  unfold comb
  rw [sm_one n l _ hl fun k _ hne => by simp [hne]]
  simp [hb]
theorem cnt_cov : cnt D.N (D.s1 Z a b) = cnt D.N (fun l => D.cov a b l && D.on b l) + cnt D.N (D.s0 Z a b) := by
  have : ∀ n, cnt n (D.s1 Z a b) = cnt n (fun l => D.cov a b l && D.on b l) + cnt n (D.s0 Z a b) := by
    intro n
    induction n with
    | zero => rfl
    | succ n ih =>
      rw [cnt_succ, cnt_succ, cnt_succ, ih]
      have : (if D.s1 Z a b n then 1 else 0) = (if (D.cov a b n && D.on b n) then 1 else 0) + (if D.s0 Z a b n then 1 else 0) := by
        unfold Dc.s1 Dc.s0 Dc.cov
        cases ho : D.on b n with
        | false => simp
        | true =>
          have o := Dc.on_iff.1 ho
          have h1 : decide (b ≤ D.to n) = true := decide_eq_true o.2
          rw [h1]
          by_cases hf : D.fr n ≤ a
          · have h2 : decide (a < D.fr n) = false := decide_eq_false (by omega)
            simp [hf, h2]
          · have h2 : a < D.fr n := by omega
            simp [hf, h2]
      omega
  exact this D.N
theorem cov_on (V : Valid Z D) (hab : a ≤ b) : cnt D.N (D.cov a b) = cnt D.N (fun l => D.cov a b l && D.on b l) := cnt_congr fun l hl => by
  unfold Dc.cov Dc.on
  by_cases h1 : D.fr l ≤ a
  · by_cases h2 : b ≤ D.to l
    · have : D.fr l ≤ b := by omega
      simp [h1, h2, this]
    · simp [h2]
  · simp [h1]
theorem cover (F : Fld Z.p) (V : Valid Z D) (hab : a ≤ b) (hb : b < Z.n) : cnt D.N (D.s1 Z a b) = cnt D.N (D.cov a b) + cnt D.N (D.s0 Z a b) := by rw [cov_on V hab]; exact cnt_cov
theorem cover_unique (F : Fld Z.p) {D' : Dc} (V : Valid Z D) (V' : Valid Z D') (hab : a ≤ b) (hb : b < Z.n) : cnt D.N (D.cov a b) = cnt D'.N (D'.cov a b) := by
  have go : ∀ {D D' : Dc}, Valid Z D → Valid Z D' → cnt D.N (D.s1 Z a b) ≤ cnt D'.N (D'.s1 Z a b) ∧ cnt D.N (D.s0 Z a b) ≤ cnt D'.N (D'.s0 Z a b) := fun {D D'} V V' => by
    have o1 : ∀ l, l < D.N → D.s1 Z a b l = true → D.on b l = true := fun l _ h => by unfold Dc.s1 at h; simp only [Bool.and_eq_true] at h; exact h.1
    have o0 : ∀ l, l < D.N → D.s0 Z a b l = true → D.on b l = true := fun l _ h => by unfold Dc.s0 at h; simp only [Bool.and_eq_true] at h; exact h.1
    exact ⟨exchange F ((V.ind b hb).sub o1) fun l hl h => im_spn F V' hab hb (spn_im V hb (Spn.self hl h)),
      exchange F ((V.ind b hb).sub o0) fun l hl h => ker_spn F V' hab hb (spn_ker V hb (Spn.self hl h))⟩
  have h1 := go V V'
  have h2 := go V' V
  have c1 := cover F V hab hb
  have c2 := cover F V' hab hb
  omega
end
end Go.Lin
