/- Parts of the proof: Eng27 Eng28 Eng29 Eng30 Eng31 Eng32 Eng33 Eng34 Eng35 Eng36 Eng37 Eng38 Pr ZEl. -/
import Derived.Test.YtdnelknieikbaaaGreatTC
import Derived.RangeFuncLeaves
import Derived.RangeFuncRecord
import Derived.OrdersIn
import Derived.TacticsIn
import Derived.Shelf.GgSortFunc.InsertionK
import Derived.Test.YtdnelknieikbaaaGreatChecked
import Derived.KernelRfl
set_option linter.unusedSimpArgs false
set_option linter.unusedVariables false
namespace Go.Eng
open Go.RowKit
variable {n l id t : Nat} {P : Program} {w : World} {a : Act} {next : Act → World → Prop} {y c x : Code} {args : Array Value} {post : Value → Hp → List Hp → Prop}
abbrev FR (l : Nat) : Fence := Fence.wide.inRound l
theorem R7 {f : FuncId} {R : Ending → World → Prop} (h : Calls P f args w R) : CallsIn (FR l) n P f args w R := by
  have := (callsIn_wide (n := n)).2 h
  exact this
theorem JE {row : String} {R : Value → World → Prop} (h : Rows P row args w R) : RowsIn Fence.wide n P row args w R :=
  fun c cs _ => let ⟨v, w', r, s⟩ := h c cs; ⟨v, w', r, stepsIn_wide.2 s⟩
theorem Tx {row : String} {R : Value → World → Prop} (h : Rows P row args w R) : RowsIn (FR l) n P row args w R := JE (n := n) h
theorem TK {o : Oper} {Q : Exit → Act → World → Prop} {r : Result Next} (h : o.upon P a next Q r) : o.uponIn (FR l) n P a next Q r := by
  have nod : (FR l).depth.isSome = true → 1 ≤ n := fun h => by cases h
  cases r with
  | ok x w' =>
    cases x <;> simp only [Oper.upon] at h <;> simp only [Oper.uponIn] <;>
      first
        | exact h
        | exact ⟨nod, (R7 h).mono fun e w he => by cases e <;> exact he⟩
        | exact ⟨nod, Tx h⟩
        | exact h.elim
  | halt x w' => cases x <;> simp only [Oper.upon] at h <;> simp only [Oper.uponIn] <;> first | exact h | exact h.elim
theorem Pw {o : Oper} {Q : Exit → Act → World → Prop} {r : Result Next} (h : o.upon P a next Q r) : o.uponIn Fence.wide n P a next Q r := by
  have nod : Fence.wide.depth.isSome = true → 1 ≤ n := fun h => by cases h
  cases r with
  | ok x w' =>
    cases x <;> simp only [Oper.upon] at h <;> simp only [Oper.uponIn] <;>
      first
        | exact h
        | exact ⟨nod, (callsIn_wide.2 h).mono fun e w he => by cases e <;> exact he⟩
        | exact ⟨nod, JE h⟩
        | exact h.elim
  | halt x w' => cases x <;> simp only [Oper.upon] at h <;> simp only [Oper.uponIn] <;> first | exact h | exact h.elim
theorem NM {o : Oper} {Q : Exit → Act → World → Prop} (hd : ∀ c, o.op ≠ .defer c) (h : o.wp P a w next Q) : o.wpIn (FR l) n P a w next Q :=
  ⟨fun _ _ => trivial, by rw [Oper.semAt_eq _ _ _ hd]; exact TK h⟩
theorem Pe {o : Oper} {Q : Exit → Act → World → Prop} (h : o.wp P a w next Q) : o.wpIn Fence.wide n P a w next Q :=
  ⟨fun _ _ => trivial, Pw h⟩
def SD (o : Op) : Bool := match o with
  | .defer _ => true
  | _ => false
theorem Qh {o : Op} (h : SD o = false) (c : Call) : o ≠ .defer c := fun e => by
  have h2 : SD (.defer c) = true := rfl
  rw [e, h2] at h
  cases h
def GP : List Oper → Bool
  | [] => true
  | o :: l => !SD o.op && GP l
theorem Gx : ∀ {l : List Oper}, GP l = true → ∀ o ∈ l, ∀ c, o.op ≠ .defer c
  | [], _, o, ho, c => by cases ho
  | o' :: l, h, o, ho, c => by
    simp only [GP, Bool.and_eq_true, Bool.not_eq_true'] at h
    rcases List.mem_cons.1 ho with rfl | ho
    · exact Qh h.1 c
    · exact Gx h.2 o ho c
theorem Kt {k : Nat} {ops : Array Oper} {Q : Exit → Act → World → Prop} (hq : ¬ LetsOut Q) : ∀ (l : List Oper), GP l = true → ∀ a w, wpList P ops Q l a w → wpListIn (FR k) n P ops Q l a w
  | [], _, a, w, h => h
  | o :: l, hn, a, w, h => by
    have hn2 : GP l = true := by simp only [GP, Bool.and_eq_true] at hn; exact hn.2
    have hd := Gx hn o (List.mem_cons_self)
    unfold wpList at h
    unfold wpListIn
    split at h
    · rename_i hw
      rw [if_pos hw]
      rcases h with h | h
      · exact Oper.wpIn_mono (fun a w => Kt hq l hn2 a w) (NM hd h)
      · exact absurd h.2 hq
    · rename_i hw
      rw [if_neg hw]
      exact ⟨fun _ _ => trivial, Kt hq l hn2 _ _ h⟩
theorem Vl {k : Nat} {l : List Oper} {Q : Exit → Act → World → Prop} (hq : ¬ LetsOut Q) (hn : GP l = true) : ∀ fuel listed a w, wpAny P .any l.toArray Q fuel listed a w → wpAnyIn (FR k) n P .any l.toArray Q fuel listed a w := by
  intro fuel
  induction fuel with
  | zero => intro listed a w h; exact h
  | succ fuel ih =>
    intro listed a w h
    refine ⟨h.1, fun i hi => ?_⟩
    have h2 := h.2 i hi
    unfold wpOp at h2
    unfold wpOpIn
    cases ho : l.toArray[i]? with
    | none => rw [ho] at h2; exact ih _ _ _ h2
    | some o =>
      rw [ho] at h2
      simp only at h2 ⊢
      split at h2
      · rename_i hw
        rw [if_pos hw]
        rcases h2 with h2 | h2
        · exact Oper.wpIn_mono (fun a w => ih _ a w) (NM (Gx hn o (List.mem_of_getElem? (by simpa using ho))) h2)
        · exact absurd h2.2 hq
      · rename_i hw
        rw [if_neg hw]
        exact ⟨fun _ _ => trivial, ih _ _ _ h2⟩
def RS (e : Entry) (c : Code) (Q : Exit → Act → World → Prop) (s : Ay) (h : Hp) (ms : List Hp) : Prop :=
  ∀ l a w, Has e.n e.ds a s → e.Ends w h ms → ¬ LetsOut Q → c.wpIn (FR l) 0 e.P Q a w
def cR (e : Entry) (y : Code) (Q : Exit → Act → World → Prop) (a : Act) (w : World) : Prop := ∀ l, ¬ LetsOut Q → y.wpIn (FR l) 0 e.P Q a w
section
variable {e : Entry} {Q : Exit → Act → World → Prop} {s s' : Ay} {h : Hp} {ms : List Hp} {ops : Array Oper}
theorem DW (k : RS e x (Exit.then (cR e y Q) Q) s h ms) : RS e (.seq x y) Q s h ms := fun l a w ha hw hq =>
  wpIn_seq (wpIn_mono (k l a w ha hw fun ⟨a, w, h⟩ => hq ⟨a, w, h⟩) fun x a w q => by
    cases x with
    | normal => exact q l hq
    | _ => exact q)
theorem CK (k : RS e y Q s h ms) : NX e (Exit.then (cR e y Q) Q) .normal s h ms := fun a w ha hw l hq => k l a w ha hw hq
theorem EV (k : RS e c (Exit.inBlock id Q) s h ms) : RS e (.block id c) Q s h ms :=
  fun l a w ha hw hq => wpIn_block (k l a w ha hw fun ⟨a, w, h⟩ => hq ⟨a, w, h⟩)
theorem N2 (k : NX e Q (.exit id) s h ms) : RS e (.exit id) Q s h ms := fun l a w ha hw _ => wpIn_exit (k a w ha hw)
theorem Ny (k : NX e Q .normal s h ms) : RS e .skip Q s h ms := fun l a w ha hw _ => wpIn_skip (k a w ha hw)
theorem TA {b : Bool} (hc : lk s t = some (.bool b)) (kt : b = true → RS e x Q s h ms) (kf : b = false → RS e y Q s h ms) : RS e (.cond (.tmp t) x y) Q s h ms :=
  fun l a w ha hw hq => wpIn_cond_split (ha.eval (.tmp t) _ hc) (fun hb => kt hb l a w ha hw hq) (fun hb => kf hb l a w ha hw hq)
theorem Uf {p : Prop} {_ : Decidable p} (hc : lk s t = some (.bool (decide p))) (kt : p → RS e x Q s h ms) (kf : ¬ p → RS e y Q s h ms) : RS e (.cond (.tmp t) x y) Q s h ms :=
  TA hc (fun hb => kt (of_decide_eq_true hb)) (fun hb => kf (of_decide_eq_false hb))
theorem BV {l : List Oper} (hn : GP l = true) (k : WL e l.toArray Q l s h ms) : RS e (.region id l.toArray false) Q s h ms :=
  fun _ a w ha hw hq => wpIn_region_lit (Kt hq l hn a w (k a w ha hw))
theorem KD {l : List Oper} {bs : List Bool} (m : List Bool) (hm : e.P.follows .mixedOrders = true) (hpu : HG (Gy m 0) l.toArray = true) (hbk : FZ l.toArray = true) (hn : l.length = n)
    (hbs : (List.range n).map (fun i => (Gy m 0).contains i) = bs) (hnd : GP l = true) (k : CD e.P l e.n s h (fun z => WB e l.toArray Q h n bs.toArray (z ++ s) h ms) (Gy m 0) []) : RS e (.region id l.toArray true) Q s h ms :=
  fun _ a w ha hw hq => wpIn_region_any hm (Vl hq hnd _ _ _ _ (Lf m hpu hbk hn hbs k a w ha hw))
theorem To {ms' : List Hp} (p : ms.Perm ms') (k : RS e c Q s h ms') : RS e c Q s h ms := fun l a w ha hw => k l a w ha (Ends.perm hw p)
theorem Uc (I : Nat → Ay → Hp → List Hp → Prop) (n : Nat) (s' : Ay) (hI : I n s' h ms) (hs : Sub s' s)
    (round : ∀ n s h ms, I n s h ms → RS e c (Exit.then (fun a w => ∃ n', n' < n ∧ Ui e (I n') a w) Q) s h ms) : RS e (.loop c) Q s h ms := by
  intro l a w ha hw hq b k cs hro hb hr
  have key : ∀ n a w, Ui e (I n) a w → ∃ x a' w', Q x a' w' ∧ ArrivesIn (Machine.fenced e.P (FR l)) e.P (lone (b.atR a (.code c :: .inLoop c :: k)) cs w) b k cs x a' w' := by
    intro n
    induction n using Nat.strongRecOn with
    | _ n ih =>
      intro a w ⟨s, h, ms, hI, ha, hw⟩
      obtain ⟨x, a₁, w₁, hq1, harr⟩ := round n s h ms hI l a w ha hw (fun ⟨a, w, h⟩ => hq ⟨a, w, h⟩) b (.inLoop c :: k) cs hro hb hr
      cases x with
      | normal =>
        obtain ⟨n', hlt, hinv⟩ := hq1
        obtain ⟨x₂, a₂, w₂, hq₂, harr₂⟩ := ih n' hlt a₁ w₁ hinv
        exact ⟨x₂, a₂, w₂, hq₂, .of_steps (StepsIn.trans harr (.one (fenced_calm hb hr rfl) stepR_inLoop)) harr₂⟩
      | exit id => exact ⟨_, a₁, w₁, hq1, .pass (x := .inLoop c) rfl (fun _ _ => .inl (by simp)) harr⟩
      | goto l => exact ⟨_, a₁, w₁, hq1, .pass (x := .inLoop c) rfl (fun _ _ => .inl (by simp)) harr⟩
      | ret => exact ⟨_, a₁, w₁, hq1, .pass (x := .inLoop c) rfl (fun _ _ => .inl (by simp)) harr⟩
      | panic ch => exact ⟨_, a₁, w₁, hq1, .pass (x := .inLoop c) rfl (fun _ _ => .inl (by simp)) harr⟩
      | outgrown => exact ⟨_, a₁, w₁, hq1, .pass (x := .inLoop c) rfl (fun _ _ => .inl (by simp)) harr⟩
  obtain ⟨x, a', w', hq, harr⟩ := key n a w ⟨s', h, ms, hI, ha.sub hs, hw⟩
  exact ⟨x, a', w', hq, .of_steps (.one (fenced_calm hb hr rfl) stepR_loop) harr⟩
end
abbrev RU (e : Entry) (I : Ay → Hp → List Hp → Prop) : Exit → Act → World → Prop := Exit.then (Ui e I) (fun _ _ _ => False)
theorem Ic {e : Entry} {I : Ay → Hp → List Hp → Prop} : ¬ LetsOut (RU e I) := fun ⟨_, _, h⟩ => h
def Wk (P : Program) (l : Nat) (args : Array Value) (h : Hp) (ms : List Hp) (post : Value → Hp → List Hp → Prop) : Prop :=
  ∀ w, St w h ms → ∃ fn tmps assign body, (Instr.yield l args).run P w = .ok (.round l fn tmps assign body) w ∧ RoundIn Fence.wide 0 P l fn tmps assign body w (RP w h ms post)
def IL (e : Entry) (ops : Array Oper) (Q : Exit → Act → World → Prop) (l : List Oper) (s : Ay) (h : Hp) (ms : List Hp) : Prop :=
  ∀ a w, Has e.n e.ds a s → e.Ends w h ms → wpListIn Fence.wide 0 e.P ops Q l a w
section
variable {e : Entry} {Q : Exit → Act → World → Prop} {s : Ay} {h : Hp} {ms : List Hp} {ops : Array Oper} {o : Oper} {rest : List Oper}
theorem B8 {l : List Oper} (k : IL e l.toArray Q l s h ms) : WS e (.region id l.toArray false) Q s h ms :=
  fun a w ha hw => wpIn_wide.1 (wpIn_region_lit (k a w ha hw))
theorem DD (k : NX e Q .normal s h ms) : IL e ops Q [] s h ms := fun a w ha hw => k a w ha hw
theorem Ct {d : Nat} {v : Value} (hx : OX e.P o s h ms v) (hd : o.dst = some d) (hn : Nat.blt d e.n = true) (hg : o.guard = none) (k : IL e ops Q rest ((d, v) :: s) h ms) : IL e ops Q (o :: rest) s h ms := fun a w ha hw => by
  unfold wpListIn
  rw [if_pos (by simp [Region.wanted, hg])]
  refine Pe ((hx a.eval w ha.eval hw.st).wp fun v' w' ⟨e1, e2⟩ => ?_)
  subst e1; rw [hd]
  exact k _ _ (ha.put (Nat.le_of_ble_eq_true hn) _) (hw.ext e2)
theorem IF {x : Operand} {lp : Nat} {l : List Operand} {ts : Array TypeId} {vs : List Value} {d : Nat} (ho : o.op = .call { callee := .value x, args := l.toArray, argTypes := ts }) (hx : ev s x = some (.func (.yield lp) #[] #[])) (ha : MF s l = some vs) (k : Wk e.P lp vs.toArray h ms post) (hd : o.dst = some d) (hn : Nat.blt d e.n = true) (hg : o.guard = none)
    (K : ∀ v h' ms', h.le h' → post v h' ms' → IL e ops Q rest ((d, v) :: s) h' ms') : IL e ops Q (o :: rest) s h ms := fun a w hA hw => by
  unfold wpListIn
  rw [if_pos (by simp [Region.wanted, hg])]
  obtain ⟨fn, tmps, assign, body, hy, hr⟩ := k w hw.st
  have hrun : (execOp a.eval o).run e.P w = .ok (.round lp fn tmps assign body) w := by
    simp [execOp, ho, resolve, hA.eval _ _ hx, Deferred.ofValue, invoke, (show Evs s a.eval from hA.eval).map l vs ha, hy]
  refine ⟨fun _ _ => trivial, ?_⟩
  rw [Oper.semAt_eq _ _ _ (fun c e => by rw [ho] at e; cases e), hrun]
  refine ⟨(fun h => by cases h), hr.mono fun x w' ⟨r, h', ms', e1, e2, e3⟩ => ?_⟩
  subst e1
  show wpListIn _ _ _ _ _ _ (a.put o.dst r) w'
  rw [hd]
  refine K r h' ms' e2.le e3 _ _ (hA.put (Nat.le_of_ble_eq_true hn) _) ?_
  have := Ends.call (fr := []) (by rw [List.append_nil]; exact hw) e2
  rwa [List.append_nil] at this
end
def Wh (P : Program) (gf : FuncId) (lb : List Value) (h : Hp) (N : Nat) (enc : Nat → List Value) : Prop :=
  ∀ (lp : Nat) (X : Nat → Hp → List Hp → Prop) (h1 : Hp) (ms : List Hp), h.le h1 → (∀ k h2 ms2, k < N → h1.le h2 → X k h2 ms2 → Wk P lp (enc k).toArray h2 ms2 (fun r h' ms' => r = .bool true ∧ X (k + 1) h' ms')) → X 0 h1 ms →
    FnT P gf ([Value.func (.yield lp) #[] #[]] ++ lb).toArray h1 ms (fun _ h' ms' => X N h' ms')
def MU : List Nat → List Value → Ay → Ay
  | p :: ps, v :: vs, s => MU ps vs ((p, v) :: s)
  | _, _, s => s
theorem Kd {ds : List Nat} {D : List Deferred} (hD : D = Ws ds) : ∀ (ps : List Nat) (vs : List Value) (s : Ay) (t : Array Value), (∀ p ∈ ps, p < n) → Has n ds { tmps := t, defers := D } s → Has n ds { tmps := (ps.zip vs).foldl (fun t (p, v) => t.setIfInBounds p v) t, defers := D } (MU ps vs s)
  | [], vs, s, t, _, H => by cases vs <;> exact H
  | p :: ps, [], s, t, _, H => H
  | p :: ps, v :: vs, s, t, hp, H => by
    show Has n ds { tmps := (ps.zip vs).foldl (fun t (p, v) => t.setIfInBounds p v) (t.setIfInBounds p v), defers := D } (MU ps vs ((p, v) :: s))
    exact Kd hD ps vs _ _ (fun q hq => hp q (List.mem_cons_of_mem _ hq)) (H.put (hp p List.mem_cons_self) v)
def Mk (D : Nat) : Hp := Hp.one D (.deferred (some []))
theorem Ends.putL {w0 : World} {h0 h : Hp} {ms0 ms : List Hp} {o : Obj} (o' : Obj) (H : Ends w0 h0 ms0 w h (Hp.one l o :: ms)) : Ends w0 h0 ms0 (w.putObj l o') h (Hp.one l o' :: ms) := by
  have hl : w.heap[l]? = some o := H.st.own _ (List.mem_cons_self) l o (Hp.one_self l o)
  have hlt := (Array.getElem?_eq_some_iff.1 hl).1
  exact H.change rfl ⟨rfl, Nat.le_refl _⟩ rfl (by simp) (World.putObj_heap_same hlt) fun k _ hk => World.putObj_heap_other hk
theorem Fk {e : Entry} {Q : Exit → Act → World → Prop} {s : Ay} {h : Hp} {ms : List Hp} {gf : Nat} {lb : List Value} {ps : List Nat} {assign body : Code} (J : Nat → Hp → List Hp → Prop) (A : Nat → Ay → Hp → List Hp → Prop) {N : Nat} {enc : Nat → List Value}
    (hg : lk s t = some (.func (.func gf) #[] lb.toArray)) (hc : ∀ az w, (callFunc gf az).run e.P w = .ok (.enter gf az) w) (hit : Wh e.P gf lb h N enc) (hps : ∀ k, (enc k).length = ps.length) (hpn : ps.all (fun p => Nat.blt p e.n) = true)
    (h0 : J 0 h ms)
    (hA : ∀ w0 k h1 ms1, k < N → h.le h1 → J k h1 ms1 → RS ⟨e.P, w0, h1, ms1, e.n, []⟩ assign (RU ⟨e.P, w0, h1, ms1, e.n, []⟩ (A k)) (MU ps (enc k) s) h1 ms1)
    (hB : ∀ w0 k s1 h1 ms1, k < N → h.le h1 → A k s1 h1 ms1 → RS ⟨e.P, w0, h1, ms1, e.n, []⟩ body (RU ⟨e.P, w0, h1, ms1, e.n, []⟩ (fun _ => J (k + 1))) s1 h1 ms1)
    (hK : ∀ D h1 ms1, h.le h1 → J N h1 ms1 → NX ⟨e.P, e.w0, e.h0, e.ms0, e.n, D :: e.ds⟩ Q .normal s h1 (ms1 ++ [Mk D])) :
    WS e (.rangeFunc (.tmp t) ps.toArray assign body) Q s h ms := by
  intro a w ha hw
  refine (wpIn_wide (n := 0)).1 (wpIn_rangeFunc fun fn _ => ?_)
  have hge : a.eval (.tmp t) = .func (.func gf) #[] lb.toArray := ha.eval (.tmp t) _ hg
  obtain ⟨rec, hrec⟩ : ∃ rec : LoopState → Loop, rec = fun st => { state := st, pending := none, fn, tmps := a.tmps, params := ps.toArray, assign, body, defers := w.heap.size } := ⟨_, rfl⟩
  obtain ⟨l, hl⟩ : ∃ l, l = w.heap.size + 1 := ⟨_, rfl⟩
  obtain ⟨W1, hW1⟩ : ∃ W1, (w.alloc (.deferred (some []))).alloc (.loop (rec .ready)) = W1 := ⟨_, rfl⟩
  have hE1 : e.Ends W1 h (ms ++ [Hp.one l (.loop (rec .ready)), Mk w.heap.size]) := by
    have h2 := (hw.alloc (.deferred (some []))).alloc (.loop (rec .ready))
    rw [World.size_alloc, ← hl, hW1] at h2
    exact h2.perm (by
      refine List.Perm.trans ?_ List.perm_append_comm
      exact List.Perm.refl _)
  have hN : w.heap.size = w.heap.size := rfl
  refine ⟨l, [{ target := .collected w.heap.size, args := #[] }], W1, { target := .fn (.func gf) lb.toArray, args := #[.func (.yield l) #[] #[]] }, W1, gf, ([Value.func (.yield l) #[] #[]] ++ lb).toArray, W1, ?_, ?_, fun _ _ => trivial, ?_, (fun h => by cases h), ?_⟩
  · rw [← hW1, hrec, hl]; exact run_enterLoop_outer _ _ _ _ _
  · simp only [resolve, hge]
    simp [go_sem]
  · simp [invoke, go_sem, hc]
  · refine (callsIn_wide (n := 0)).2 ((hit l (fun k h1 ms1 => h.le h1 ∧ ∃ ms2, ms1 = ms2 ++ [Hp.one l (.loop (rec .ready)), Mk w.heap.size] ∧ J k h1 ms2) h _ (Hp.le_refl _) ?_ ⟨Hp.le_refl _, ms, rfl, h0⟩ W1 hE1.st).mono ?_)
    · -- a round
      rintro k h2 ms2 hkN hl2 ⟨_, ms2, rfl, hJ⟩ w2 hS2
      have hlo : w2.heap[l]? = some (.loop (rec .ready)) := hS2.own _ (by simp) l _ (Hp.one_self _ _)
      have hy := run_yield (P := e.P) (args := (enc k).toArray) hlo (by rw [hrec]; simpa using hps k)
      refine ⟨_, _, _, _, hy, ?_⟩
      have r1 : (rec .ready).params = ps.toArray := by rw [hrec]
      have r2 : (rec .ready).tmps = a.tmps := by rw [hrec]
      have r3 : (rec .ready).assign = assign := by rw [hrec]
      have r4 : (rec .ready).body = body := by rw [hrec]
      rw [r1, r2, r3, r4]
      refine roundIn_of_wpIn trivial ?_
      have hSp : St w2 h2 ms2 := hS2.pre
      have hHas : Has e.n [] { tmps := (ps.toArray.zip (enc k).toArray).foldl (fun t (p, v) => t.setIfInBounds p v) a.tmps, defers := [] } (MU ps (enc k) s) := by
        have e1 : (ps.toArray.zip (enc k).toArray).foldl (fun t (p, v) => t.setIfInBounds p v) a.tmps = (ps.zip (enc k)).foldl (fun t (p, v) => t.setIfInBounds p v) a.tmps := by simp
        rw [e1]
        exact Kd rfl ps (enc k) s a.tmps (fun p hp => Nat.le_of_ble_eq_true (List.all_eq_true.1 hpn p hp)) ⟨rfl, ha.size, ha.slots⟩
      refine wpIn_mono (hA w2 k h2 ms2 hkN hl2 hJ l _ w2 hHas (Ends.refl hSp) Ic) ?_
      intro x a1 w3 hx
      cases x with
      | normal =>
        obtain ⟨s3, h3, ms3, hA3, hHas3, hE3⟩ := hx
        have hEf : Ends w2 h2 (ms2 ++ [Hp.one l (.loop (rec .ready)), Mk w.heap.size]) w3 h3 (ms3 ++ [Hp.one l (.loop (rec .ready)), Mk w.heap.size]) := Ends.call (Ends.refl hS2) hE3
        have hEp := hEf.perm (ms' := Hp.one l (.loop (rec .ready)) :: Mk w.heap.size :: ms3) List.perm_append_comm
        have hl3 : w3.heap[l]? = some (.loop (rec .ready)) := hEp.st.own _ (List.mem_cons_self) l _ (Hp.one_self _ _)
        have hE4 := Ends.putL (.loop (rec .busy)) hEp
        refine ⟨_, run_beginRound hl3 (by rw [hrec]), ?_⟩
        have e2 : ({ rec .ready with state := .busy } : Loop) = rec .busy := by rw [hrec]
        rw [e2]
        have hE4' := hE4.perm (ms' := ms3 ++ [Hp.one l (.loop (rec .busy)), Mk w.heap.size]) (List.perm_append_comm (l₁ := [_, _]))
        refine wpIn_mono (hB _ k s3 h3 ms3 hkN (Hp.le_trans hl2 hE3.le) hA3 l a1 _ hHas3 (Ends.refl hE4'.st.pre) Ic) ?_
        intro y a2 w5 hy5
        cases y with
        | normal =>
          obtain ⟨s5, h5, ms5, hJ5, _, hE5⟩ := hy5
          have hE6 := Ends.call hE4' hE5
          have hE6p := hE6.perm (ms' := Hp.one l (.loop (rec .busy)) :: Mk w.heap.size :: ms5) List.perm_append_comm
          have hl6 : w5.heap[l]? = some (.loop (rec .busy)) := hE6p.st.own _ (List.mem_cons_self) l _ (Hp.one_self _ _)
          refine ⟨_, _, run_endRound none hl6, ?_⟩
          have e3 : ({ rec .busy with state := if (none : Option Code).isNone then .ready else .done, pending := none } : Loop) = rec .ready := by rw [hrec]; rfl
          rw [e3]
          exact ⟨_, h5, _, rfl, (Ends.putL (.loop (rec .ready)) hE6p).perm (List.perm_append_comm (l₁ := [_, _])), rfl, Hp.le_trans hl2 (Hp.le_trans hE3.le hE5.le), ms5, rfl, hJ5⟩
        | _ => exact hy5.elim
      | _ => exact hx
    · rintro x w3 ⟨r, h3, ms3, rfl, hE3, hl3, ms4, rfl, hJ⟩
      have hE4 := Ends.call (fr := []) (by rw [List.append_nil]; exact hE1) hE3
      rw [List.append_nil] at hE4
      have hE5 := hE4.perm (ms' := Hp.one l (.loop (rec .ready)) :: Mk w.heap.size :: ms4) List.perm_append_comm
      have hl5 : w3.heap[l]? = some (.loop (rec .ready)) := hE5.st.own _ (List.mem_cons_self) l _ (Hp.one_self _ _)
      refine ⟨_, _, run_endLoop hl5 (by rw [hrec]; simp), ?_⟩
      have e4 : (rec .ready).pending = none := by rw [hrec]
      rw [e4]
      exact hK w.heap.size h3 ms4 hl3 hJ { a with defers := [{ target := .collected w.heap.size, args := #[] }] ++ a.defers } _ ⟨by show [_] ++ a.defers = _; rw [ha.defers]; rfl, ha.size, ha.slots⟩ ((Ends.putL _ hE5).drop.perm (List.perm_append_comm (l₁ := [_])))
theorem Gd {f : FuncId} {fn : Func} {l : List Value} {h : Hp} {ms : List Hp}
    (hf : P.funcs[f]? = some fn) (hn : fn.ntmps = n) (hb : fn.body = some c) (hl : Nat.ble l.length n = true)
    (k : ∀ w0, St w0 h ms → WS ⟨P, w0, h, ms, n, []⟩ c (bodyPostM Fence.wide 0 P fn (RP w0 h ms post)) (A4 0 l) h ms) : FnT P f l.toArray h ms post := by
  intro w hw
  refine (callsIn_wide (n := 0)).1 (callsIn_of_wp_marks hf hb trivial (wpIn_wide.2 (k w hw _ w ?_ (Ends.refl hw))))
  have hl' := Nat.le_of_ble_eq_true hl
  refine ⟨rfl, by simp [hn]; omega, fun i v e => ?_⟩
  obtain ⟨_, h2⟩ := N1 l 0 i v e
  have hi : i < l.length := by
    rcases Nat.lt_or_ge i l.length with h' | h'
    · exact h'
    · rw [List.getElem?_eq_none (by omega)] at h2; cases h2
  simp only [Nat.sub_zero] at h2
  rw [Array.getElem?_append_left (by simpa using hi)]
  simpa using h2
theorem In {w0 : World} {h0 : Hp} {ms0 : List Hp} {D : Nat} {fn : Func} {s : Ay} {h : Hp} {ms : List Hp} {x : Exit} (i : Nat) (hx : x = .normal ∨ x = .ret) (hm : ms[i]? = some (Mk D)) (k : NX ⟨P, w0, h0, ms0, n, []⟩ (bodyPost P fn (RP w0 h0 ms0 post)) x s h (ms.eraseIdx i)) :
    NX ⟨P, w0, h0, ms0, n, [D]⟩ (bodyPostM Fence.wide 0 P fn (RP w0 h0 ms0 post)) x s h ms := by
  intro a w ha hw
  have hp := hw.perm (Cw hm)
  have hD : w.heap[D]? = some (.deferred (some [])) := hp.st.own _ (List.mem_cons_self) D _ (Hp.one_self _ _)
  have hE := (Ends.putL (.deferred none) hp).drop
  have hb := k { a with defers := [] } _ ⟨rfl, ha.size, ha.slots⟩ hE
  have hd : a.defers = [{ target := .collected D, args := #[] }] := ha.defers
  have goal : LeavesInM Fence.wide 0 P fn a.tmps (RP w0 h0 ms0 post) a.defers .returning w := by
    rw [hd]
    refine ⟨by simp, .inl ⟨D, _, rfl, run_takeDeferred hD, ?_⟩⟩
    rcases hx with rfl | rfl <;> · obtain ⟨_, v, hr, hR⟩ := hb; exact ⟨v, hr, hR⟩
  rcases hx with rfl | rfl <;> exact goal
end Go.Eng
namespace Go.Eng
open Go.RowKit
variable {f : Nat → Hp} {N l : Nat} {m : Hp} {R : Nat → Hp → Prop}
def CU (f : Nat → Hp) : Nat → Hp
  | 0 => Hp.emp
  | n + 1 => (CU f n).join (f n)
def FC (f : Nat → Hp) (l : Nat) (m : Hp) : Nat → Hp := fun k => if k = l then m else f k
theorem B5 (f : Nat → Hp) (l : Nat) (m : Hp) : FC f l m l = m := if_pos rfl
theorem BT (f : Nat → Hp) {k : Nat} (m : Hp) (h : k ≠ l) : FC f l m k = f k := if_neg h
theorem joinN_none {g : Nat} : ∀ {n : Nat}, CU f n g = none ↔ ∀ i, i < n → f i g = none
  | 0 => ⟨fun _ i h => by omega, fun _ => rfl⟩
  | n + 1 => by
    show (match CU f n g with | some o => some o | none => f n g) = none ↔ _
    cases h : CU f n g with
    | some o =>
      constructor
      · intro e; cases e
      · intro e
        have := (joinN_none (n := n)).2 fun i hi => e i (by omega)
        rw [h] at this; cases this
    | none =>
      constructor
      · intro e i hi
        rcases (by omega : i < n ∨ i = n) with h2 | rfl
        · exact joinN_none.1 h i h2
        · exact e
      · intro e; exact e n (by omega)
def Dj (N : Nat) (f : Nat → Hp) : Prop := ∀ i j, i < N → j < N → i ≠ j → (f i).disj (f j)
theorem DG {g : Nat} {o : Obj} : ∀ {n : Nat}, Dj n f → ∀ {l : Nat}, l < n → f l g = some o → CU f n g = some o
  | n + 1, hd, l, hl, e => by
    show (match CU f n g with | some o => some o | none => f n g) = some o
    rcases (by omega : l < n ∨ l = n) with h | rfl
    · rw [DG (fun i j hi hj => hd i j (by omega) (by omega)) h e]
    · have : CU f l g = none := joinN_none.2 fun i hi => by
        rcases hd i l (by omega) (by omega) (by omega) g with h | h
        · exact h
        · rw [h] at e; cases e
      rw [this]; exact e
theorem Dj.upd (h : Dj N f) (l : Nat) : Dj N (FC f l Hp.emp) := fun i j hi hj hne g => by
  by_cases h1 : i = l
  · subst h1; left; rw [B5]; rfl
  · by_cases h2 : j = l
    · subst h2; right; rw [B5]; rfl
    · rw [BT f _ h1, BT f _ h2]; exact h i j hi hj hne g
theorem I6 (hd : Dj N f) (hl : l < N) : CU f N = (f l).join (CU (FC f l Hp.emp) N) ∧ (f l).disj (CU (FC f l Hp.emp) N) := by
  have key : ∀ g, f l g ≠ none → CU (FC f l Hp.emp) N g = none := fun g hg => joinN_none.2 fun i hi => by
    by_cases h : i = l
    · subst h; rw [B5]; rfl
    · rw [BT f _ h]
      rcases hd i l hi hl h g with h2 | h2
      · exact h2
      · exact absurd h2 hg
  constructor
  · funext g
    show _ = match f l g with | some o => some o | none => CU (FC f l Hp.emp) N g
    cases h : f l g with
    | some o => exact DG hd hl h
    | none =>
      show CU f N g = CU (FC f l Hp.emp) N g
      cases h2 : CU (FC f l Hp.emp) N g with
      | none =>
        refine joinN_none.2 fun i hi => ?_
        by_cases h3 : i = l
        · subst h3; exact h
        · have := joinN_none.1 h2 i hi
          rwa [BT f _ h3] at this
      | some o =>
        have : ∃ i, i < N ∧ FC f l Hp.emp i g ≠ none := Classical.byContradiction fun hc => by
          have := (joinN_none (f := FC f l Hp.emp) (g := g) (n := N)).2 fun i hi => Classical.byContradiction fun hn => hc ⟨i, hi, hn⟩
          rw [h2] at this; cases this
        obtain ⟨i, hi, hne⟩ := this
        obtain ⟨o', ho'⟩ := Hp.ne_none hne
        have := DG (hd.upd l) hi ho'
        rw [h2] at this; cases this
        have hil : i ≠ l := fun he => by subst he; rw [B5] at ho'; cases ho'
        rw [BT f _ hil] at ho'
        exact DG hd hi ho'
  · intro g
    by_cases h : f l g = none
    · exact .inl h
    · exact .inr (key g h)
def Bag (N : Nat) (R : Nat → Hp → Prop) (m : Hp) : Prop := ∃ f : Nat → Hp, Dj N f ∧ m = CU f N ∧ ∀ l, l < N → R l (f l)
theorem Bag.zero (R : Nat → Hp → Prop) : Bag 0 R Hp.emp := ⟨fun _ => Hp.emp, fun i j h => by omega, rfl, fun l h => by omega⟩
theorem Bag.mono {R' : Nat → Hp → Prop} (B : Bag N R m) (h : ∀ l, l < N → ∀ x, R l x → R' l x) : Bag N R' m :=
  let ⟨f, h1, h2, h3⟩ := B
  ⟨f, h1, h2, fun l hl => h l hl _ (h3 l hl)⟩
theorem disj_joinN {n : Nat} : m.disj (CU f n) ↔ ∀ i, i < n → m.disj (f i) := by
  constructor
  · intro h i hi g
    rcases h g with h1 | h1
    · exact .inl h1
    · exact .inr (joinN_none.1 h1 i hi)
  · intro h g
    by_cases hg : m g = none
    · exact .inl hg
    · refine .inr (joinN_none.2 fun i hi => ?_)
      rcases h i hi g with h1 | h1
      · exact absurd h1 hg
      · exact h1
theorem Fz {f' : Nat → Hp} : ∀ {n : Nat}, (∀ i, i < n → f i = f' i) → CU f n = CU f' n
  | 0, _ => rfl
  | n + 1, h => by
    show (CU f n).join (f n) = (CU f' n).join (f' n)
    rw [Fz fun i hi => h i (by omega), h n (by omega)]
theorem Bag.snoc {x : Hp} (B : Bag N R m) (hx : R N x) (hd : m.disj x) : Bag (N + 1) R (m.join x) := by
  obtain ⟨f, h1, rfl, h3⟩ := B
  have hc : CU (FC f N x) N = CU f N := Fz fun i hi => BT f x (by omega)
  refine ⟨FC f N x, fun i j hi hj hne => ?_, ?_, fun l hl => ?_⟩
  · have hd' := disj_joinN.1 (Hp.disj_symm hd)
    rcases (by omega : i < N ∨ i = N) with h | rfl
    · rw [BT f x (by omega : i ≠ N)]
      rcases (by omega : j < N ∨ j = N) with h2 | rfl
      · rw [BT f x (by omega : j ≠ N)]; exact h1 i j h h2 hne
      · rw [B5]; exact Hp.disj_symm (hd' i h)
    · rw [B5, BT f x (by omega : j ≠ i)]
      exact hd' j (by omega)
  · show _ = (CU (FC f N x) N).join (FC f N x N)
    rw [hc, B5]
  · rcases (by omega : l < N ∨ l = N) with h | rfl
    · rw [BT f x (by omega)]; exact h3 l h
    · rw [B5]; exact hx
theorem Bag.open (B : Bag N R m) (hl : l < N) : ∃ m1 m2, m = m1.join m2 ∧ m1.disj m2 ∧ R l m1 ∧ (∀ k, k < N → k ≠ l → ∃ x, x.le m2 ∧ R k x) ∧
    ∀ (R' : Nat → Hp → Prop) m1', m1'.disj m2 → R' l m1' → (∀ k, k < N → k ≠ l → ∀ x, R k x → R' k x) → Bag N R' (m1'.join m2) := by
  obtain ⟨f, h1, rfl, h3⟩ := B
  obtain ⟨e1, e2⟩ := I6 h1 hl
  refine ⟨f l, _, e1, e2, h3 l hl, fun k hk hne => ⟨f k, fun g o ho => ?_, h3 k hk⟩, fun R' m1' hd hR hk => ⟨FC f l m1', ?_, ?_, fun k hkN => ?_⟩⟩
  · exact DG (h1.upd l) hk (by rw [BT f _ hne]; exact ho)
  · have hd' := disj_joinN.1 hd
    intro i j hi hj hne
    by_cases hil : i = l
    · subst hil
      rw [B5, BT f _ (Ne.symm hne)]
      have := hd' j hj
      rwa [BT f _ (Ne.symm hne)] at this
    · rw [BT f _ hil]
      by_cases hjl : j = l
      · subst hjl
        rw [B5]
        have := hd' i hi
        rw [BT f _ hil] at this
        exact Hp.disj_symm this
      · rw [BT f _ hjl]; exact h1 i j hi hj hne
  · have hD : Dj N (FC f l m1') := by
      have hd' := disj_joinN.1 hd
      intro i j hi hj hne
      by_cases hil : i = l
      · subst hil
        rw [B5, BT f _ (Ne.symm hne)]
        have := hd' j hj
        rwa [BT f _ (Ne.symm hne)] at this
      · rw [BT f _ hil]
        by_cases hjl : j = l
        · subst hjl
          rw [B5]
          have := hd' i hi
          rw [BT f _ hil] at this
          exact Hp.disj_symm this
        · rw [BT f _ hjl]; exact h1 i j hi hj hne
    have := (I6 hD hl).1
    rw [B5] at this
    rw [this]
    congr 1
    refine Fz fun i _ => ?_
    by_cases hil : i = l
    · subst hil; rw [B5, B5]
    · rw [BT _ _ hil, BT _ _ hil, BT _ _ hil]
  · by_cases hkl : k = l
    · subst hkl; rw [B5]; exact hR
    · rw [BT f _ hkl]; exact hk k hkN hkl _ (h3 k hkN)
theorem Bag.all (B : Bag N R m) : ∀ k, k < N → ∃ x, x.le m ∧ R k x := fun k hk => by
  obtain ⟨f, h1, rfl, h3⟩ := B
  exact ⟨f k, fun g o ho => DG h1 hk ho, h3 k hk⟩
def Jz : Hp → List Hp → Hp
  | h, [] => h
  | h, m :: ms => Jz (h.join m) ms
theorem St.freezeL {w : World} : ∀ {fr : List Hp} {h : Hp} {pre : List Hp}, St w h (pre ++ fr) → St w (Jz h fr) pre
  | [], h, pre, s => by
    show St w h pre
    simpa using s
  | m :: fr, h, pre, s => by
    have h1 : St w h (m :: (pre ++ fr)) := (Ends.perm (Ends.refl s) List.perm_middle).st
    show St w (Jz (h.join m) fr) pre
    exact St.freezeL (Ends.freeze (Ends.refl h1)).st
theorem GI : ∀ {fr : List Hp} {h : Hp}, h.le (Jz h fr)
  | [], h => Hp.le_refl _
  | m :: fr, h => Hp.le_trans (Hp.le_join h m) GI
theorem IQ : ∀ {fr : List Hp} {h : Hp}, (∀ m ∈ fr, m.disj h) → fr.Pairwise Hp.disj → ∀ m ∈ fr, m.le (Jz h fr)
  | m' :: fr, h, hd, hp, m, hm => by
    have hp' := List.pairwise_cons.1 hp
    rcases List.mem_cons.1 hm with rfl | hm
    · exact Hp.le_trans (Hp.join_le_right (hd _ List.mem_cons_self)) GI
    · refine IQ (h := h.join m') (fun m hm => ?_) hp'.2 m hm
      refine Hp.disj_symm (Hp.disj_join (Hp.disj_symm (hd m (List.mem_cons_of_mem _ hm))) (hp'.1 m hm))
theorem K2 {P : Program} {f : FuncId} {args : Array Value} {h : Hp} {pre fr : List Hp} {post : Value → List Hp → Prop} (k : ∀ h', h.le h' → (∀ m ∈ fr, m.le h') → FnT P f args h' pre (fun r _ ms' => post r ms')) : FnT P f args h (pre ++ fr) (fun r h2 ms2 => h = h2 ∧ ∃ ms', ms2 = ms' ++ fr ∧ post r ms') := fun w hw => by
  have hap := List.pairwise_append.1 hw.apart
  refine ((k (Jz h fr) GI (IQ (fun m hm => hw.off m (List.mem_append_right _ hm)) hap.2.1)) w hw.freezeL).mono fun x w' ⟨r, h', ms', e1, e2, e3⟩ => ⟨r, h, ms' ++ fr, e1, ?_, rfl, ms', rfl, e3⟩
  -- what was frozen is owned again
  have hin : ∀ m ∈ fr, m.le h' := fun m hm => Hp.le_trans (IQ (fun m hm => hw.off m (List.mem_append_right _ hm)) hap.2.1 m hm) e2.le
  have hle : h.le h' := Hp.le_trans GI e2.le
  have hoff : ∀ m ∈ ms', ∀ m' , m'.le h' → m.disj m' := fun m hm m' hl g => by
    rcases e2.st.off m hm g with h1 | h1
    · exact .inl h1
    · refine .inr ?_
      cases h2 : m' g with
      | none => rfl
      | some o => rw [hl g o h2] at h1; cases h1
  refine ⟨⟨fun g o ho => e2.st.imm g o (hle g o ho), fun m hm => ?_, fun m hm => ?_, ?_⟩, e2.os, e2.tape, e2.output, e2.size, fun k hk hn => ?_, Hp.le_refl _, fun _ _ _ => rfl, fun m hm k hk hne => ?_⟩
  · rcases List.mem_append.1 hm with hm | hm
    · exact e2.st.own m hm
    · exact fun g o ho => e2.st.imm g o (hin m hm g o ho)
  · rcases List.mem_append.1 hm with hm | hm
    · exact hoff m hm h hle
    · exact hw.off m (List.mem_append_right _ hm)
  · exact List.pairwise_append.2 ⟨e2.st.apart, hap.2.1, fun m hm m' hm' => hoff m hm m' (hin m' hm')⟩
  · exact e2.block k hk fun m hm => hn m (List.mem_append_left _ hm)
  · rcases List.mem_append.1 hm with hm | hm
    · obtain ⟨m0, h1, h2⟩ := e2.mnew m hm k hk hne
      exact ⟨m0, List.mem_append_left _ h1, h2⟩
    · exact ⟨m, List.mem_append_right _ hm, hne⟩
theorem Hp.le_joinl {a b : Hp} : a.le (a.join b) := Hp.le_join a b
theorem Hp.le_joinr {a b : Hp} (h : a.disj b) : b.le (a.join b) := Hp.join_le_right (Hp.disj_symm h)
theorem Hp.emp_join (a : Hp) : Hp.emp.join a = a := rfl
theorem Ba {α : Type} {F : α → List Value} {e : Entry} {Q : Exit → Act → World → Prop} {ops : Array Oper} {rest : List Oper} {o : Oper} {s : Ay} {h : Hp} {ms : List Hp} {t el : TypeId} {sz d : Nat} {z : Value} {bytes : Nat} {x y : Operand} {v u : Value} {l r : List α} (i : Nat) (O : OwnL F sz el m v l) (R : RdL F sz h ms u r) (ho : o.op = .call { callee := .builtin .append, args := #[x, y], argTypes := #[t, t] }) (ht : e.P.underlying t = some (.slice el)) (hs : Elem e.P el sz z bytes) (hzs : z.cells.size = sz) (hsz : 0 < sz)
    (hx : ev s x = some v) (hy : ev s y = some u) (hm : ms[i]? = some m) (h1 : ∀ a ∈ r, ∀ c ∈ F a, c.oneCell' = true) (hb : (l.length + r.length) * bytes ≤ 140737488355328) (hb63 : l.length + r.length ≤ 9223372036854775807) (hd : o.dst = some d) (hn : Nat.blt d e.n = true) (hg : o.guard = none)
    (K : ∀ v' m', OwnL F sz el m' v' (l ++ r) → WL e ops Q rest ((d, v') :: s) h (ms.set i m')) : WL e ops Q (o :: rest) s h ms :=
  Jy i ho ht hs hzs hsz hx hy hm O.own R.rd (fun c hc => by obtain ⟨a, hm', ha⟩ := List.mem_flatMap.1 hc; exact h1 a hm' c ha) hb hb63 hd hn hg fun v' m' O' => K v' m' ⟨by rw [List.length_append, List.flatMap_append]; exact O', O.len⟩
end Go.Eng
namespace Go.Eng
open Go.RowKit
variable {ms a b : List Hp}
def Goes (ms ms' : List Hp) : Prop := ∀ w0 h0 ms0 w h, Ends w0 h0 ms0 w h ms → Ends w0 h0 ms0 w h ms'
theorem Goes.trans {c : List Hp} (h : Goes a b) (k : Goes b c) : Goes a c := fun _ _ _ _ _ x => k _ _ _ _ _ (h _ _ _ _ _ x)
theorem Goes.perm (h : a.Perm b) : Goes a b := fun _ _ _ _ _ x => x.perm h
theorem Goes.join (a b : Hp) (ms : List Hp) : Goes (a :: b :: ms) (a.join b :: ms) := fun _ _ _ _ _ x => x.join
theorem Goes.part {a b : Hp} (hd : a.disj b) (ms : List Hp) : Goes (a.join b :: ms) (a :: b :: ms) := fun _ _ _ _ _ x => x.part hd
theorem LU {P : Program} {f : FuncId} {args : Array Value} {h : Hp} {post post' : Value → Hp → List Hp → Prop} (k : FnT P f args h ms post) (hc : ∀ r h' ms', post r h' ms' → ms'.Pairwise Hp.disj → ∃ ms'', Goes ms' ms'' ∧ post' r h' ms'') : FnT P f args h ms post' := fun w hw =>
  (k w hw).mono fun _ _ ⟨r, h', ms', e1, e2, e3⟩ => let ⟨ms'', g, p⟩ := hc r h' ms' e3 e2.st.apart; ⟨r, h', ms'', e1, g _ _ _ _ _ e2, p⟩
def Ut (ms : List Hp) (k : Nat) : Prop := ∃ m ∈ ms, m k ≠ none
theorem Lh {P : Program} {f : FuncId} {args : Array Value} {h : Hp} {ms1 : List Hp} {post : Value → Hp → List Hp → Prop} (g : Goes ms ms1) (hd : ∀ k, Ut ms1 k → Ut ms k) (k : FnT P f args h ms1 post) : FnT P f args h ms post := fun w hw =>
  (k w (g _ _ _ _ _ (Ends.refl hw)).st).mono fun _ _ ⟨r, h', ms', e1, e2, e3⟩ => by
    have hn : ∀ k, (∀ m ∈ ms, m k = none) → ∀ m ∈ ms1, m k = none := fun k hm m hm1 => Classical.byContradiction fun hne => by
      obtain ⟨m0, h0, h1⟩ := hd k ⟨m, hm1, hne⟩
      exact h1 (hm m0 h0)
    exact ⟨r, h', ms', e1, ⟨e2.st, e2.os, e2.tape, e2.output, e2.size, fun k hk hm => e2.block k hk (hn k hm), e2.le, fun k hk hm => e2.hnew k hk (hn k hm), fun m hm k hk hne => hd k (e2.mnew m hm k hk hne)⟩, e3⟩
theorem Ly (p : a.Perm b) : ∀ k, Ut b k → Ut a k := fun k ⟨m, hm, hne⟩ => ⟨m, p.mem_iff.2 hm, hne⟩
theorem I4 {a b : Hp} : ∀ k, Ut (a :: b :: ms) k → Ut (a.join b :: ms) k := fun k ⟨m, hm, hne⟩ => by
  rcases List.mem_cons.1 hm with rfl | hm
  · obtain ⟨o, ho⟩ := Hp.ne_none hne
    exact ⟨_, List.mem_cons_self, by rw [Hp.le_join m b k o ho]; simp⟩
  · rcases List.mem_cons.1 hm with rfl | hm
    · refine ⟨_, List.mem_cons_self, fun h => hne ?_⟩
      unfold Hp.join at h
      split at h
      · cases h
      · exact h
    · exact ⟨m, List.mem_cons_of_mem _ hm, hne⟩
theorem Goes.parts {a b : Hp} {ms' : List Hp} (hd : a.disj b) (p : (a :: b :: ms).Perm ms') : Goes (a.join b :: ms) ms' ∧ ∀ k, Ut ms' k → Ut (a.join b :: ms) k :=
  ⟨(Goes.part hd ms).trans (Goes.perm p), fun k h => I4 k (Ly p k h)⟩
end Go.Eng
namespace Go.Eng
open Go.RowKit
variable {c : Code}
def Hp.minus (h m : Hp) : Hp := fun g => match m g with | some _ => none | none => h g
theorem Hp.minus_le (h m : Hp) : (h.minus m).le h := fun g o e => by
  unfold Hp.minus at e
  split at e
  · cases e
  · exact e
theorem Hp.le_minus {a h m : Hp} (hl : a.le h) (hd : a.disj m) : a.le (h.minus m) := fun g o e => by
  unfold Hp.minus
  rcases hd g with h1 | h1
  · rw [h1] at e; cases e
  · rw [h1]; exact hl g o e
theorem Hp.minus_disj (h m : Hp) : m.disj (h.minus m) := fun g => by
  unfold Hp.minus
  cases hm : m g with
  | none => exact .inl rfl
  | some o => exact .inr rfl
def KY (e : Entry) (m : Hp) : Prop := e.h0.disj m ∧ ∀ k, k < e.w0.heap.size → m k ≠ none → ∃ m0 ∈ e.ms0, m0 k ≠ none
theorem UK {e : Entry} {w : World} {h : Hp} {ms : List Hp} {m : Hp} (H : e.Ends w h (m :: ms)) : m.disj h ∧ KY e m :=
  ⟨H.st.off m List.mem_cons_self, And.intro (fun g => by
    rcases H.st.off m List.mem_cons_self g with h1 | h1
    · exact .inr h1
    · left
      cases h2 : e.h0 g with
      | none => rfl
      | some o => have := H.le g o h2; rw [h1] at this; cases this) fun k hk hne => H.mnew m List.mem_cons_self k hk hne⟩
theorem back {e : Entry} {w : World} {h : Hp} {ms : List Hp} {m : Hp} (L : KY e m) (hm : m.le h) (H : e.Ends w h ms) : e.Ends w (h.minus m) (m :: ms) := by
  refine ⟨⟨fun g o ho => H.st.imm g o (Hp.minus_le h m g o ho), fun x hx => ?_, fun x hx => ?_, ?_⟩, H.os, H.tape, H.output, H.size, H.block, Hp.le_minus H.le L.1, fun k hk hn => ?_, fun x hx k hk hne => ?_⟩
  · rcases List.mem_cons.1 hx with rfl | hx
    · exact fun g o ho => H.st.imm g o (hm g o ho)
    · exact H.st.own x hx
  · rcases List.mem_cons.1 hx with rfl | hx
    · exact Hp.minus_disj h x
    · intro g
      rcases H.st.off x hx g with h1 | h1
      · exact .inl h1
      · right
        cases h2 : h.minus m g with
        | none => rfl
        | some o => rw [Hp.minus_le h m g o h2] at h1; cases h1
  · refine List.pairwise_cons.2 ⟨fun x hx g => ?_, H.st.apart⟩
    rcases H.st.off x hx g with h1 | h1
    · exact .inr h1
    · left
      cases h2 : m g with
      | none => rfl
      | some o => rw [hm g o h2] at h1; cases h1
  · have h1 := H.hnew k hk hn
    unfold Hp.minus
    cases h2 : m k with
    | none => exact h1
    | some o =>
      obtain ⟨m0, hm0, hne⟩ := L.2 k hk (by rw [h2]; simp)
      exact absurd (hn m0 hm0) hne
  · rcases List.mem_cons.1 hx with rfl | hx
    · exact L.2 k hk hne
    · exact H.mnew x hx k hk hne
section
variable {e : Entry} {Q : Exit → Act → World → Prop} {s : Ay} {h : Hp} {ms : List Hp} {m : Hp}
theorem Cu (i : Nat) {m : Hp} (hm : ms[i]? = some m) (k : WS e c Q s h (m :: ms.eraseIdx i)) : WS e c Q s h ms := Ea (Cw hm) k
theorem Db {x : Exit} (i : Nat) {m : Hp} (hm : ms[i]? = some m) (k : NX e Q x s h (m :: ms.eraseIdx i)) : NX e Q x s h ms := CF (Cw hm) k
theorem Qu (i : Nat) {m : Hp} (hm : ms[i]? = some m) (k : RS e c Q s h (m :: ms.eraseIdx i)) : RS e c Q s h ms := To (Cw hm) k
theorem CV (k : ∀ h1, h.le h1 → m.le h1 → h.disj m → KY e m → WS e c Q s h1 ms) : WS e c Q s h (m :: ms) := fun a w ha hw =>
  let l := UK hw
  k _ (Hp.le_join h m) (Hp.join_le_right l.1) (Hp.disj_symm l.1) l.2 a w ha (Ends.freeze hw)
theorem EB {ops : Array Oper} {r : List Oper} (k : ∀ h1, h.le h1 → m.le h1 → h.disj m → KY e m → WL e ops Q r s h1 ms) : WL e ops Q r s h (m :: ms) := fun a w ha hw =>
  let l := UK hw
  k _ (Hp.le_join h m) (Hp.join_le_right l.1) (Hp.disj_symm l.1) l.2 a w ha (Ends.freeze hw)
theorem J5 (k : ∀ h1, h.le h1 → m.le h1 → h.disj m → KY e m → RS e c Q s h1 ms) : RS e c Q s h (m :: ms) := fun r a w ha hw =>
  let l := UK hw
  k _ (Hp.le_join h m) (Hp.join_le_right l.1) (Hp.disj_symm l.1) l.2 r a w ha (Ends.freeze hw)
theorem F6 (L : KY e m) (hm : m.le h) (k : ∀ h2, h2.le h → (∀ a : Hp, a.le h → a.disj m → a.le h2) → WS e c Q s h2 (m :: ms)) : WS e c Q s h ms := fun a w ha hw =>
  k _ (Hp.minus_le h m) (fun _ h1 h2 => Hp.le_minus h1 h2) a w ha (back L hm hw)
theorem Ig {ops : Array Oper} {r : List Oper} (L : KY e m) (hm : m.le h) (k : ∀ h2, h2.le h → (∀ a : Hp, a.le h → a.disj m → a.le h2) → WL e ops Q r s h2 (m :: ms)) : WL e ops Q r s h ms := fun a w ha hw =>
  k _ (Hp.minus_le h m) (fun _ h1 h2 => Hp.le_minus h1 h2) a w ha (back L hm hw)
theorem E1 {x : Exit} (L : KY e m) (hm : m.le h) (k : ∀ h2, h2.le h → (∀ a : Hp, a.le h → a.disj m → a.le h2) → NX e Q x s h2 (m :: ms)) : NX e Q x s h ms := fun a w ha hw =>
  k _ (Hp.minus_le h m) (fun _ h1 h2 => Hp.le_minus h1 h2) a w ha (back L hm hw)
end
end Go.Eng
namespace Go.Eng
open Go.RowKit
section
variable {κ ν : Type} [DecidableEq κ] {K : κ → Value} {V : ν → Value} {Ok : κ → Prop} {kt et t : TypeId} {g : Nat} {m : Hp} {T : List (κ × ν)} {bs : List Nat}
variable {e : Entry} {Q : Exit → Act → World → Prop} {ops : Array Oper} {rest : List Oper} {o : Oper} {s : Ay} {h : Hp} {ms : List Hp}
theorem GN {x y u : Operand} {z : Value} (i : Nat) (a : κ) (y' : ν) (L : LS e.P kt K Ok) (O : DI K V g Ok m T bs) (hm : ms[i]? = some m) (ho : o.op = .mapUpdate t x y u) (ht : e.P.underlying t = some (.map kt et)) (hx : ev s x = some (.map (some g))) (hy : ev s y = some (K a)) (hu : ev s u = some (V y')) (ha : Ok a)
    (hd : o.dst = none) (hg : o.guard = none) (k : ∀ m' bs', DI K V g Ok m' (Dt T a y') bs' → WL e ops Q rest s h (ms.set i m')) : WL e ops Q (o :: rest) s h ms :=
  Jp (post := fun _ h' ms' => ∃ m' bs', DI K V g Ok m' (Dt T a y') bs' ∧ h' = h ∧ ms' = ms.set i m') (fun ρ w hρ hw => by
    obtain ⟨es, clock, rfl, he, hb⟩ := O.ex
    have hgw : w.heap[g]? = some (.map es clock) := hw.st.own _ (List.mem_of_getElem? hm) g _ (Hp.one_self _ _)
    obtain ⟨l, hk⟩ := L.key a ha
    have hc := L.law.check w false hk
    have hs := L.law.stays w hk
    rcases He L O.keys O.ok O.len he w a ha with ⟨h1, h2⟩ | ⟨j, v, b, h1, h2, h3, h4⟩
    · have hT : Dt T a y' = T ++ [(a, y')] := by unfold Dt; rw [if_neg h2]
      have hrun : (execOp ρ o).run e.P w = .ok .skip { w with heap := w.heap.setIfInBounds g (.map (es.push ⟨K a, V y', clock⟩) (clock + 1)) } := by
        simp only [execOp, ho, hρ _ _ hx, hρ _ _ hy, hρ _ _ hu, Instr.mapUpdate, Sem.run_bind, run_underlying ht, Result.andThen_ok, getObj, Sem.run_pure]
        simp [Sem.run, hgw, hc, h1, Result.andThen, setObj]
      unfold OpRes; rw [hrun]
      refine ⟨h, _, Ends.turn hw hm, _, bs ++ [clock], ?_, rfl, rfl⟩
      rw [hT]
      refine ⟨⟨_, _, rfl, ?_, fun b hb' => ?_⟩, by simp [O.len], N5 O.up hb, ?_, fun p hp => ?_⟩
      · rw [Array.toList_push, he, LA T bs O.len, List.map_append]; rfl
      · rcases List.mem_append.1 hb' with hb' | hb'
        · have := hb b hb'; omega
        · simp at hb'; omega
      · have := F0 O.keys a y'; rw [hT] at this; exact this
      · rcases List.mem_append.1 hp with hp | hp
        · exact O.ok p hp
        · simp at hp; subst hp; exact ha
    · have hj4 := (Array.getElem?_eq_some_iff.1 h4)
      have hrun : (execOp ρ o).run e.P w = .ok .skip { w with heap := w.heap.setIfInBounds g (.map (es.modify j fun e => { e with key := K a, val := V y' }) clock) } := by
        simp only [execOp, ho, hρ _ _ hx, hρ _ _ hy, hρ _ _ hu, Instr.mapUpdate, Sem.run_bind, run_underlying ht, Result.andThen_ok, getObj, Sem.run_pure]
        simp [Sem.run, hgw, hc, h1, Result.andThen, setObj, h4, hs]
      unfold OpRes; rw [hrun]
      refine ⟨h, _, Ends.turn hw hm, _, bs, ?_, rfl, rfl⟩
      refine ⟨⟨_, _, rfl, ?_, hb⟩, ?_, O.up, F0 O.keys a y', fun p hp => ?_⟩
      · rw [Fc O.keys h2, NA T bs j _ b h3, List.map_set, ← he]
        refine List.ext_getElem? fun k => ?_
        rw [Array.getElem?_toList, Array.getElem?_modify, List.getElem?_set]
        by_cases hjk : j = k
        · subst hjk
          rw [if_pos rfl, if_pos rfl, h4]
          have : j < es.toList.length := by simpa using (Array.getElem?_eq_some_iff.1 h4).1
          rw [if_pos this]; rfl
        · rw [if_neg hjk, if_neg hjk, Array.getElem?_toList]
      · rw [Fc O.keys h2, List.length_set]; exact O.len
      · rw [Fc O.keys h2] at hp
        rcases List.mem_or_eq_of_mem_set hp with hp | hp
        · exact O.ok p hp
        · subst hp; exact ha) hd hg fun v h' ms' ⟨m', bs', e1, e2, e3⟩ => by subst e2 e3; exact k m' bs' e1
end
end Go.Eng
namespace Go.Eng
open Go.RowKit
variable {s : Ay} {h : Hp} {o : Oper} {P : Program} {ms : List Hp} {listed : Array Bool}
def WN (ops : Array Oper) (listed : Array Bool) (j d : Nat) (oj : Oper) : Prop :=
  ∀ i oi, i ≠ j → listed[i]? = some false → ops[i]? = some oi → oi.dst ≠ some d ∧ (∀ t, oi.dst = some t → t ∉ oj.looksAt ops) ∧ (d ∈ oi.looksAt ops → ∃ e ∈ oi.after, Region.binds .any e = true ∧ e.on = j) ∧ ∀ cs b, oi.op ≠ .select cs b
def QD : Op → Bool
  | .select .. => false
  | _ => true
theorem IM {o : Op} (h : QD o = true) : ∀ cs b, o ≠ .select cs b := fun cs b e => by rw [e] at h; cases h
def VO (ops : Array Oper) (L : List Nat) (j d : Nat) (oi : Oper) : Bool :=
  (match oi.dst with | none => true | some t => !(t == d) && !(L.contains t)) && (!((oi.looksAt ops).contains d) || oi.after.any (fun e => Region.binds .any e && e.on == j)) && QD oi.op
def Wn (ops : Array Oper) (listed : Array Bool) (j d : Nat) : Bool :=
  match ops[j]? with
  | none => false
  | some oj => (oj.dst == some d) && QD oj.op && (Region.ready .any ops listed).contains j && (List.range ops.size).all fun i => i == j || listed.getD i true || match ops[i]? with
    | none => true
    | some oi => VO ops (oj.looksAt ops) j d oi
theorem K8 {ops : Array Oper} {j d : Nat} (h : Wn ops listed j d = true) : ∃ oj, ops[j]? = some oj ∧ oj.dst = some d ∧ (∀ cs b, oj.op ≠ .select cs b) ∧ j ∈ Region.ready .any ops listed ∧ WN ops listed j d oj := by
  unfold Wn at h
  split at h
  · cases h
  · rename_i oj hoj
    simp only [Bool.and_eq_true, List.all_eq_true, List.contains_iff_mem, beq_iff_eq] at h
    obtain ⟨⟨⟨h2, h3⟩, h4⟩, h5⟩ := h
    refine ⟨oj, hoj, h2, IM h3, h4, fun i oi hi hl ho => ?_⟩
    have := h5 i (List.mem_range.2 (Array.getElem?_eq_some_iff.1 ho).1)
    simp only [ho, Bool.or_eq_true, beq_iff_eq] at this
    rcases this with (h6 | h6) | h6
    · exact absurd h6 hi
    · rw [Array.getD_eq_getD_getElem?, hl] at h6; cases h6
    · unfold VO at h6
      simp only [Bool.and_eq_true] at h6
      obtain ⟨⟨h7, h8⟩, h9⟩ := h6
      refine ⟨fun e => ?_, fun t ht hm => ?_, fun hm => ?_, IM h9⟩
      · rw [e] at h7; simp at h7
      · rw [ht] at h7; simp at h7; exact h7.2 hm
      · simp only [Bool.or_eq_true] at h8
        rcases h8 with h8 | h8
        · simp at h8; exact absurd hm h8
        · simp only [Array.any_eq_true', List.any_eq_true, Bool.and_eq_true, beq_iff_eq] at h8
          obtain ⟨e, he, h10, h11⟩ := h8
          exact ⟨e, he, h10, h11⟩
theorem RK {ops : Array Oper} {s' : Ay} {v : Value} (hsel : ∀ cs b, o.op ≠ .select cs b) (hs : ∀ t ∈ o.looksAt ops, ∀ u, lk s t = some u → lk s' t = some u) (k : OX P o s h [] v) : OX P o s' h [] v := fun ρ w hρ hw => by
  classical
  unfold OpRes
  rw [execOp_congr (ρ := ρ) (ρ' := fun x => if x ∈ o.op.operands then ρ x else (ev s x).getD undef) o hsel (fun x hx => (if_pos hx).symm)]
  refine k _ w (fun x u hu => ?_) hw
  show (if x ∈ o.op.operands then ρ x else (ev s x).getD undef) = u
  split
  · rename_i hx
    cases x with
    | tmp t => exact hρ _ _ (hs t (List.mem_append_left _ (List.mem_filterMap.2 ⟨.tmp t, by simpa using hx, rfl⟩)) u hu)
    | const v => exact hρ _ _ hu
    | global g => exact hρ _ _ hu
    | func f => exact hρ _ _ hu
  · rw [hu]; rfl
theorem Oper.wp_sim2 {z : Ay} {a : Act} {w : World} {K K' : Act → World → Prop} {Qb Qc : Exit → Act → World → Prop} (hq : ∀ x a w, Qb x a w → x = .normal) (hlo : ¬ LetsOut Qb) (hx : execOp (zA z a).eval o = execOp a.eval o) (hd : ∀ t, o.dst = some t → lk z t = none) (hK : ∀ b w v, b.tmps = (a.put o.dst v).tmps → K' (zA z b) w → K b w)
    (h : o.wp P (zA z a) w K' Qb) : o.wp P a w K Qc := by
  unfold Oper.wp at *
  rw [hx] at h
  generalize (execOp a.eval o).run P w = r at *
  have hv : ∀ v w, K' ((zA z a).put o.dst v) w → K (a.put o.dst v) w := fun v w hh => hK _ _ v rfl (by rw [E2 hd]; exact hh)
  cases r with
  | ok n w' =>
    cases n <;> simp only [Oper.upon] at h ⊢ <;>
      first
        | exact hv _ _ h
        | exact Calls.mono h (fun e w'' he => by
            cases e
            · exact hv _ _ he
            · exact absurd (hq _ _ _ he) (by simp)
            · exact absurd he hlo)
        | exact Rows.mono h (fun _ _ he => hv _ _ he)
        | exact hK _ _ undef (by cases o.dst <;> rfl) (by rw [E2 hd]; exact h)
  | halt x w' => cases x <;> simp only [Oper.upon] at h ⊢ <;> first | exact h | exact absurd (hq _ _ _ h) (by simp)
theorem OX.at {h0 : Hp} {v : Value} (k : OX P o s h0 [] v) (hl : h0.le h) : OX P o s h ms v := fun ρ w hρ hw =>
  k ρ w hρ ⟨fun g o e => hw.imm g o (hl g o e), fun m hm => by simp at hm, fun m hm => by simp at hm, List.Pairwise.nil⟩
def GK (ops : Array Oper) (oj : Oper) (s : Ay) : Prop := oj.guard = none ∨ ∃ k b ok dk, oj.guard = some (k, b) ∧ ops[k]? = some ok ∧ ok.dst = some dk ∧ lk s dk = some (.bool b)
theorem GK.mono {ops : Array Oper} {oj : Oper} {s' : Ay} (h : GK ops oj s) (hs : ∀ t ∈ oj.looksAt ops, ∀ u, lk s t = some u → lk s' t = some u) : GK ops oj s' := by
  rcases h with h | ⟨k, b, ok, dk, h1, h2, h3, h4⟩
  · exact .inl h
  · refine .inr ⟨k, b, ok, dk, h1, h2, h3, hs dk ?_ _ h4⟩
    unfold Oper.looksAt
    refine List.mem_append_right _ ?_
    simp [h1, h2, h3]
section
variable {e : Entry} {ops : Array Oper} {Q : Exit → Act → World → Prop} {h0 : Hp} {j d : Nat} {v : Value} {oj : Oper}
theorem Ur {rest : List Oper} {Q : Exit → Act → World → Prop} (hG : GK ops oj s) (hx : OX e.P oj s h ms v) (hd : oj.dst = some d) (hn : Nat.blt d e.n = true) (k : WL e ops Q rest ((d, v) :: s) h ms) : WL e ops Q (oj :: rest) s h ms := by
  rcases hG with h | ⟨q, b, ok, dk, h1, h2, h3, h4⟩
  · exact VM hx hd hn h k
  · exact Um hx hd hn h1 h2 h3 h4 k
theorem Up (hoj : ops[j]? = some oj) (hdj : oj.dst = some d) (hd : d < e.n) (hsel : ∀ cs b, oj.op ≠ .select cs b) :
    ∀ n listed s s1 h ms, h0.le h → j ∈ Region.ready .any ops listed → WN ops listed j d oj → (∀ t u, lk s1 t = some u → lk ((d, v) :: s) t = some u) → GK ops oj s → OX e.P oj s h0 [] v → WB e ops Q h0 n (listed.setIfInBounds j true) s1 h ms → WB e ops Q h0 (n + 1) listed s h ms := by
  intro n
  induction n with
  | zero =>
    intro listed s s1 h ms hle hj hF hs hG hx H
    refine ⟨fun hr => (by rw [hr] at hj; cases hj), fun i hi => ?_⟩
    by_cases hij : i = j
    · subst hij
      exact ⟨oj, hoj, Ur hG (hx.at hle) hdj (Nat.ble_eq_true_of_le hd) (Ak fun a w ha hw => ⟨rfl, s1, h, ms, ⟨ha.defers, ha.size, fun t u hu => ha.slots t u (hs t u hu)⟩, hw, hle, H⟩)⟩
    · obtain ⟨h1', o, ho, hall⟩ := mem_ready.1 hi
      have h1 := Be h1'
      have : i ∈ Region.ready .any ops (listed.setIfInBounds j true) := mem_ready.2 ⟨by rw [getD_set_ne _ (Ne.symm hij)]; exact h1', o, ho, fun e he hb => by
        have := hall e he hb
        by_cases hej : j = e.on
        · rw [← hej]; have hlt := (Array.getElem?_eq_some_iff.1 (Be (mem_ready.1 hj).1)).1; simp [hlt]
        · rw [getD_set_ne _ hej]; exact this⟩
      rw [H.1] at this; cases this
  | succ n ih =>
    intro listed s s1 h ms hle hj hF hs hG hx H
    refine ⟨fun hr => (by rw [hr] at hj; cases hj), fun i hi => ?_⟩
    by_cases hij : i = j
    · subst hij
      exact ⟨oj, hoj, Ur hG (hx.at hle) hdj (Nat.ble_eq_true_of_le hd) (Ak fun a w ha hw => ⟨rfl, s1, h, ms, ⟨ha.defers, ha.size, fun t u hu => ha.slots t u (hs t u hu)⟩, hw, hle, H⟩)⟩
    · obtain ⟨h1', o, ho, hall⟩ := mem_ready.1 hi
      have h1 := Be h1'
      have hjl := Be (mem_ready.1 hj).1
      have hjlt := (Array.getElem?_eq_some_iff.1 hjl).1
      have hr' : i ∈ Region.ready .any ops (listed.setIfInBounds j true) := mem_ready.2 ⟨by rw [getD_set_ne _ (Ne.symm hij)]; exact h1', o, ho, fun e he hb => by
        have := hall e he hb
        by_cases hej : j = e.on
        · rw [← hej]; simp [hjlt]
        · rw [getD_set_ne _ hej]; exact this⟩
      obtain ⟨f1, f2, f3, f4⟩ := hF i o hij h1 ho
      have f3' : d ∉ o.looksAt ops := fun hm => by
        obtain ⟨e, he, hb, hon⟩ := f3 hm
        have := hall e he hb
        rw [hon, Array.getD_eq_getD_getElem?, hjl] at this; cases this
      obtain ⟨o', ho', HW⟩ := H.2 i hr'
      rw [ho] at ho'; cases ho'
      refine ⟨o, ho, fun a w ha hw => ?_⟩
      have hza : ∀ (b : Act) t, t ≠ d → (zA [(d, v)] b).tmps[t]? = b.tmps[t]? := fun b t ht => by
        rw [DY, Bq _ _ (Ne.symm ht)]; cases b.tmps[t]? <;> rfl
      have hzd : ∀ (b : Act), d < b.tmps.size → (zA [(d, v)] b).tmps[d]? = some v := fun b hb => by
        rw [DY, Bt]; simp [hb]
      have haz : Has e.n e.ds (zA [(d, v)] a) s1 := ⟨ha.defers, by simp [zA, ha.size], fun t u hu => by
        have := hs t u hu
        by_cases htd : d = t
        · subst htd; rw [Bt] at this; cases this; exact hzd a (by rw [ha.size]; exact hd)
        · rw [Bq _ _ htd] at this; rw [hza a t (Ne.symm htd)]; exact ha.slots t u this⟩
      have H' := HW (zA [(d, v)] a) w haz hw
      unfold wpList at H' ⊢
      have hsame : ∀ t ∈ o.looksAt ops, (zA [(d, v)] a).tmps[t]? = a.tmps[t]? := fun t ht => hza a t (fun e' => f3' (e' ▸ ht))
      have hx' : execOp (zA [(d, v)] a).eval o = execOp a.eval o := execOp_congr o f4 fun x hx => by
        cases x with
        | tmp t =>
          have := hsame t (List.mem_append_left _ (List.mem_filterMap.2 ⟨.tmp t, by simpa using hx, rfl⟩))
          simp only [Act.eval]
          rw [Array.getD_eq_getD_getElem?, this, ← Array.getD_eq_getD_getElem?]
        | const v => rfl
        | global g => rfl
        | func f => rfl
      have hwant : Region.wanted o (yielded ops (zA [(d, v)] a).tmps) = Region.wanted o (yielded ops a.tmps) := by
        unfold Region.wanted
        cases hg : o.guard with
        | none => rfl
        | some p =>
          obtain ⟨k, b⟩ := p
          have : yielded ops (zA [(d, v)] a).tmps k = yielded ops a.tmps k := by
            unfold yielded
            cases hd : (ops[k]?).bind (·.dst) with
            | none => rfl
            | some t =>
              have ht : t ∈ o.looksAt ops := by
                unfold Oper.looksAt
                refine List.mem_append_right _ ?_
                simp only [hg]
                rw [hd]; simp
              simp [hd, hsame t ht]
          simp only [this]
      rw [hwant] at H'
      have hdz : ∀ t, o.dst = some t → lk [(d, v)] t = none := fun t ht => by
        rw [Bq _ _ (fun e' => f1 (by rw [ht, e']))]; rfl
      have hnext : ∀ b w v', b.tmps = (a.put o.dst v').tmps → (QB e ops Q h0 n ((listed.setIfInBounds j true).setIfInBounds i true)) .normal (zA [(d, v)] b) w → (QB e ops Q h0 (n + 1) (listed.setIfInBounds i true)) .normal b w := fun b w v' hbt hh => by
        obtain ⟨-, s', h', ms', g1, g2, g3, g4⟩ := hh
        have hbget : ∀ t, o.dst ≠ some t → b.tmps[t]? = a.tmps[t]? := fun t ht => by
          rw [hbt]
          cases hd : o.dst with
          | none => rfl
          | some d' =>
            have : d' ≠ t := fun e' => ht (by rw [hd, e'])
            simp only [Act.put, Array.getElem?_setIfInBounds_ne this]
        have hbs : b.tmps.size = a.tmps.size := by rw [hbt]; cases o.dst <;> simp [Act.put]
        have hbn : b.tmps.size = e.n := by rw [hbs, ha.size]
        let L := oj.looksAt ops
        have hlf : ∀ (p : Nat → Bool) (s : Ay) t, lk (s.filter (fun x => p x.1)) t = if p t = true then lk s t else none := by
          intro p s t
          induction s with
          | nil => simp [lk]
          | cons x s ih =>
            obtain ⟨y, u⟩ := x
            by_cases hy : p y = true
            · rw [List.filter_cons_of_pos (by exact hy)]
              by_cases hyt : y = t
              · subst hyt; rw [Bt, Bt, if_pos hy]
              · rw [Bq _ _ hyt, Bq _ _ hyt, ih]
            · rw [List.filter_cons_of_neg (by exact hy), ih]
              by_cases hyt : y = t
              · subst hyt; rw [if_neg hy, if_neg hy]
              · rw [Bq _ _ hyt]
        let sL := s.filter (fun x => L.contains x.1)
        let sR := s'.filter (fun x => !(x.1 == d))
        have hL : ∀ t u, lk sL t = some u → t ∈ L ∧ lk s t = some u := fun t u hu => by
          rw [hlf (fun t => L.contains t)] at hu
          split at hu
          · rename_i hc; exact ⟨List.contains_iff_mem.1 hc, hu⟩
          · cases hu
        have hLb : ∀ t u, lk sL t = some u → b.tmps[t]? = some u := fun t u hu => by
          obtain ⟨k1, k2⟩ := hL t u hu
          rw [hbget t (fun e' => f2 t e' k1)]
          exact ha.slots t u k2
        have hR : ∀ t, t ≠ d → lk sR t = lk s' t := fun t ht => by
          rw [hlf (fun t => !(t == d))]; simp [ht]
        have hRd : lk sR d = none := by rw [hlf (fun t => !(t == d))]; simp
        have hb' : ∀ t u, t ≠ d → lk s' t = some u → b.tmps[t]? = some u := fun t u ht hu => by
          rw [← hza b t ht]; exact g1.slots t u hu
        refine ⟨rfl, sL ++ sR, h', ms', ⟨g1.defers, hbn, fun t u hu => ?_⟩, g2, g3, ?_⟩
        · rw [B9] at hu
          cases hl : lk sL t with
          | some u' => rw [hl] at hu; cases hu; exact hLb t _ hl
          | none =>
            rw [hl] at hu
            have htd : t ≠ d := fun e' => by subst e'; simp only [Option.none_or] at hu; rw [hRd] at hu; cases hu
            simp only [Option.none_or] at hu
            rw [hR t htd] at hu; exact hb' t u htd hu
        · refine ih (listed.setIfInBounds i true) (sL ++ sR) s' h' ms' g3 ?_ ?_ ?_ ?_ ?_ (by rw [Array.setIfInBounds_comm _ _ hij]; exact g4)
          · obtain ⟨_, oj', hoj', hall'⟩ := mem_ready.1 hj
            refine mem_ready.2 ⟨by rw [getD_set_ne _ hij]; exact (mem_ready.1 hj).1, oj', hoj', fun ed he hb => ?_⟩
            have := hall' ed he hb
            by_cases hei : i = ed.on
            · rw [← hei]; have := (Array.getElem?_eq_some_iff.1 h1).1; simp [this]
            · rw [getD_set_ne _ hei]; exact this
          · intro k ok hk hl hok
            refine hF k ok hk ?_ hok
            by_cases hki : i = k
            · subst hki; have := (Array.getElem?_eq_some_iff.1 h1).1; simp [this] at hl
            · rw [Array.getElem?_setIfInBounds_ne hki] at hl; exact hl
          · intro t u hu
            by_cases htd : d = t
            · subst htd
              have k1 := g1.slots _ u hu
              rw [hzd b (by rw [hbn]; exact hd)] at k1
              rw [Bt]; exact k1
            · rw [Bq _ _ htd, B9]
              cases hl : lk sL t with
              | some u' =>
                have k1 := hLb t u' hl
                rw [hb' t u (Ne.symm htd) hu] at k1
                simpa using k1.symm
              | none => rw [hR t (Ne.symm htd)]; simpa using hu
          · have hlk : ∀ t ∈ oj.looksAt ops, ∀ u, lk s t = some u → lk (sL ++ sR) t = some u := fun t ht u hu => by
              rw [B9]
              have : lk sL t = some u := by rw [hlf (fun t => L.contains t), if_pos (List.contains_iff_mem.2 ht)]; exact hu
              rw [this]; rfl
            exact hG.mono hlk
          · refine RK (ops := ops) hsel (fun t ht u hu => ?_) hx
            rw [B9]
            have : lk sL t = some u := by rw [hlf (fun t => L.contains t), if_pos (List.contains_iff_mem.2 ht)]; exact hu
            rw [this]; rfl
      split
      · rename_i hw'
        rw [if_pos hw'] at H'
        rcases H' with H' | ⟨_, H'⟩
        · exact .inl (Oper.wp_sim2 (fun x a w h => h.1) KB hx' hdz (fun b w v hb hh => hnext b w v hb hh) H')
        · exact absurd H' KB
      · rename_i hw'
        rw [if_neg hw'] at H'
        exact hnext _ _ undef rfl (by rw [E2 hdz]; exact H')
theorem An {n : Nat} (j d : Nat) (hF : Wn ops listed j d = true) (hoj : ops[j]? = some o) (hle : h0.le h) (hn : Nat.blt d e.n = true) (hx : OX e.P o s h0 [] v) (k : WB e ops Q h0 n (listed.setIfInBounds j true) ((d, v) :: s) h ms) (hg : o.guard = none := by rfl) : WB e ops Q h0 (n + 1) listed s h ms := by
  obtain ⟨oj, g1, g3, g4, g5, g6⟩ := K8 hF
  rw [hoj] at g1; cases g1
  exact Up hoj g3 (Nat.le_of_ble_eq_true hn) g4 n listed s _ h ms hle g5 g6 (fun t u hu => hu) (.inl hg) hx k
theorem BH {n : Nat} (j d : Nat) {ok : Oper} {q dk : Nat} {b : Bool} (hF : Wn ops listed j d = true) (hoj : ops[j]? = some o) (hg : o.guard = some (q, b)) (hq : ops[q]? = some ok) (hdk : ok.dst = some dk) (hv : lk s dk = some (.bool b)) (hle : h0.le h) (hn : Nat.blt d e.n = true) (hx : OX e.P o s h0 [] v) (k : WB e ops Q h0 n (listed.setIfInBounds j true) ((d, v) :: s) h ms) : WB e ops Q h0 (n + 1) listed s h ms := by
  obtain ⟨oj, g1, g3, g4, g5, g6⟩ := K8 hF
  rw [hoj] at g1; cases g1
  exact Up hoj g3 (Nat.le_of_ble_eq_true hn) g4 n listed s _ h ms hle g5 g6 (fun t u hu => hu) (.inr ⟨q, b, ok, dk, hg, hq, hdk, hv⟩) hx k
end
theorem Hp.disj_le {a b a' : Hp} (h : a.disj b) (hl : a'.le a) : a'.disj b := fun g => by
  cases h1 : a' g with
  | none => exact .inl rfl
  | some o =>
    rcases h g with h2 | h2
    · rw [hl g o h1] at h2; cases h2
    · exact .inr h2
theorem Cz {f : FuncId} {args : Array Value} {m : Hp} {post : Value → Hp → List Hp → Prop} (hm : m.le h) (k : FnT P f args (h.minus m) [] post) :
    FnT P f args h [] (fun r h' ms' => h.le h' ∧ ∃ h1, h1.le h' ∧ h1.disj m ∧ (h.minus m).le h1 ∧ post r h1 ms') := fun w hw => by
  have hmw : ∀ g o, m g = some o → g < w.heap.size := fun g o e => (Array.getElem?_eq_some_iff.1 (hw.imm g o (hm g o e))).1
  refine (k w ⟨fun g o e => hw.imm g o (Hp.minus_le h m g o e), fun m hm => by simp at hm, fun m hm => by simp at hm, List.Pairwise.nil⟩).mono fun x w' ⟨r, h1, ms', e1, e2, e3⟩ => ?_
  have hmin : ∀ g, (m g = none ∧ h.minus m g = h g) ∨ ∃ o, m g = some o ∧ h g = some o ∧ h.minus m g = none := fun g => by
    cases hg : m g with
    | none => exact .inl ⟨rfl, by unfold Hp.minus; rw [hg]⟩
    | some o => exact .inr ⟨o, rfl, hm g o hg, by unfold Hp.minus; rw [hg]⟩
  have h1m : ∀ g, (m g = none) ∨ ∃ o, m g = some o ∧ h g = some o ∧ h1 g = none := fun g => by
    rcases hmin g with ⟨h2, _⟩ | ⟨o, h2, h3, h4⟩
    · exact .inl h2
    · exact .inr ⟨o, h2, h3, by rw [e2.hnew g (hmw g o h2) (by simp)]; exact h4⟩
  have hd : h1.disj m := fun g => by
    rcases h1m g with h2 | ⟨o, _, _, h2⟩
    · exact .inr h2
    · exact .inl h2
  have hjm : ∀ g o, m g = some o → (h1.join m) g = some o := fun g o e => Hp.le_joinr hd g o e
  have hle : h.le (h1.join m) := fun g o e => by
    rcases hmin g with ⟨h2, h3⟩ | ⟨o', h2, h3, _⟩
    · exact Hp.le_joinl g o (e2.le g o (h3.trans e))
    · rw [e] at h3; cases h3; exact hjm g o h2
  have hlt : ∀ m' ∈ ms', m'.disj m := fun m' hm' g => by
    cases h2 : m g with
    | none => exact .inr rfl
    | some o =>
      left
      cases h3 : m' g with
      | none => rfl
      | some o' =>
        obtain ⟨m0, h4, _⟩ := e2.mnew m' hm' g (hmw g o h2) (by rw [h3]; simp)
        simp at h4
  refine ⟨r, h1.join m, ms', e1, ⟨⟨fun g o e => ?_, e2.st.own, fun m' hm' => ?_, e2.st.apart⟩, e2.os, e2.tape, e2.output, e2.size, e2.block, hle, fun g hg hn => ?_, e2.mnew⟩, hle, h1, Hp.le_joinl, hd, e2.le, e3⟩
  · cases h2 : m g with
    | none =>
      have h3 : (h1.join m) g = h1 g := by unfold Hp.join; cases h1 g <;> simp [h2]
      rw [h3] at e
      exact e2.st.imm g o e
    | some o' =>
      rw [hjm g o' h2] at e; cases e
      rw [e2.block g (hmw g o h2) (by simp)]
      exact hw.imm g o (hm g o h2)
  · exact Hp.disj_symm (Hp.disj_join (Hp.disj_symm (e2.st.off m' hm')) (Hp.disj_symm (hlt m' hm')))
  · rcases hmin g with ⟨h2, h3⟩ | ⟨o, h2, h3, h4⟩
    · have h5 : (h1.join m) g = h1 g := by unfold Hp.join; cases h1 g <;> simp [h2]
      rw [h5, e2.hnew g hg (by simp), h3]
    · rw [hjm g o h2, h3]
end Go.Eng
namespace Go.Eng
open Go.RowKit
theorem QS (g k : Nat) : (⟨g, 0, none⟩ : Addr).add k = ⟨g, k, none⟩ := by
  unfold Addr.add; split <;> simp_all
theorem KG {α : Type} {F : α → List Value} {sz : Nat} (hF : ∀ x, (F x).length = sz) {l : List α} {j : Nat} (hj : j < l.length) (a : α) : (l.flatMap F).take (j * sz) ++ F a ++ (l.flatMap F).drop (j * sz + sz) = (l.set j a).flatMap F := by
  have e : j * sz + sz = (j + 1) * sz := by rw [Nat.add_mul, Nat.one_mul]
  rw [e, Fl hF, D7 hF, List.set_eq_take_append_cons_drop, if_pos hj, List.flatMap_append, List.flatMap_cons, List.append_assoc]
section
variable {e : Entry} {Q : Exit → Act → World → Prop} {ops : Array Oper} {rest : List Oper} {o : Oper} {s : Ay} {h : Hp} {ms : List Hp} {α : Type} {F : α → List Value} {l : List α} {v : Value} {m : Hp} {el : TypeId} {sz : Nat}
theorem M2 {t : TypeId} {x y : Operand} {u z : Value} {bytes : Nat} (i j : Nat) (a : α) (O : OwnL F sz el m v l) (ho : o.op = .store t x y) (hs : Elem e.P t sz z bytes) (hx : ev s x = some (.pointer (some ((Bl v).add (j * sz))))) (hy : ev s y = some u) (hv : u.cells = (F a).toArray) (h1 : ∀ c ∈ F a, c.oneCell' = true)
    (hm : ms[i]? = some m) (hj : j < l.length) (hd : o.dst = none) (hg : o.guard = none)
    (K : ∀ m', OwnL F sz el m' v (l.set j a) → WL e ops Q rest s h (ms.set i m')) : WL e ops Q (o :: rest) s h ms := by
  obtain ⟨⟨h2, h3⟩, hF⟩ := O
  rcases h3 with ⟨rfl, h4, rfl⟩ | ⟨g, cap, spare, rfl, rfl, e1, e2, e3⟩
  · rw [h4] at hj; simp at hj
  · have hle : (j + 1) * sz ≤ l.length * sz := Nat.mul_le_mul_right sz hj
    have hjs : j * sz + sz = (j + 1) * sz := by rw [Nat.add_mul, Nat.one_mul]
    have hFa := hF a
    refine Jp (post := fun _ h' ms' => h' = h ∧ ms' = ms.set i (AX g el ((l.set j a).flatMap F ++ spare))) (fun ρ w hρ hw => ?_) hd hg fun _ _ _ ⟨e4, e5⟩ => ?_
    · have hgw : w.heap[g]? = some (.cells (l.flatMap F ++ spare).toArray el (0, 0)) := hw.st.own _ (List.mem_of_getElem? hm) g _ (Hp.one_self _ _)
      have hst := run_storeCells_at (P := e.P) g (j * sz) el (F a) 0 _ w hgw (by simp only [List.size_toArray, List.length_append]; omega) h1
      have hadd : (Bl (.slice (some ⟨g, 0, none⟩) l.length cap)).add (j * sz) = ⟨g, j * sz, none⟩ := by
        show (⟨g, 0, none⟩ : Addr).add (j * sz) = _
        exact QS g (j * sz)
      have hrow : (l.flatMap F ++ spare).take (j * sz) ++ F a ++ (l.flatMap F ++ spare).drop (j * sz + sz) = (l.set j a).flatMap F ++ spare := by
        rw [List.take_append_of_le_length (by omega), List.drop_append_of_le_length (by omega), ← List.append_assoc, KG hF hj]
      have : (execOp ρ o).run e.P w = .ok .skip (w.setRow g ((l.set j a).flatMap F ++ spare).toArray) := by
        simp [execOp, ho, hρ _ _ hx, hρ _ _ hy, Instr.storeAt, Instr.sureAddr, storeVar, hs.sizeOf, hv, hFa, hadd]
        simp at hst
        rw [hFa] at hst
        rw [hst, ← List.append_assoc, hrow]; rfl
      unfold OpRes; rw [this]
      exact ⟨h, _, Ends.put hw hm rfl ⟨rfl, Nat.le_refl _⟩ rfl (by simp) (setRow_heap w g _ _ _ _ hgw) (fun k hk hne => setRow_other w g k _ hne), rfl, rfl⟩
    · subst e4 e5
      refine K _ ⟨⟨?_, .inr ⟨g, cap, spare, by rw [List.length_set], rfl, ?_, by rw [List.length_set]; omega, e3⟩⟩, hF⟩
      · rw [BL hF, List.length_set]
      · rw [List.length_append, BL hF, List.length_set, ← BL hF l, ← List.length_append]; exact e1
end
end Go.Eng
set_option linter.unusedSectionVars false
namespace Go.Eng
open Go.RowKit
def VY {ι : Type} (P : Program) (gf : FuncId) (lb : List Value) (h : Hp) (R : ι → List Value → ι → Prop) (i0 : ι) (fin : ι → Prop) : Prop :=
  ∀ (lp : Nat) (X : ι → Hp → List Hp → Prop) (h1 : Hp) (ms : List Hp), h.le h1 → (∀ i vs i' h2 ms2, R i vs i' → h1.le h2 → X i h2 ms2 → Wk P lp vs.toArray h2 ms2 (fun r h' ms' => r = .bool true ∧ X i' h' ms')) → X i0 h1 ms →
    FnT P gf ([Value.func (.yield lp) #[] #[]] ++ lb).toArray h1 ms (fun _ h' ms' => ∃ i, fin i ∧ X i h' ms')
theorem Ns {e : Entry} {ops : Array Oper} {Q : Exit → Act → World → Prop} {rest : List Oper} {s : Ay} {h : Hp} {ms : List Hp} {m : Hp} (k : IL e ops Q rest s h ms) : IL e ops Q rest s h (m :: ms) := fun a w ha hw => k a w ha (Ends.drop hw)
theorem Ph {e : Entry} {Q : Exit → Act → World → Prop} {s : Ay} {h : Hp} {ms pre fr : List Hp} {ops : Array Oper} {o : Oper} {rest : List Oper} {x : Operand} {lp : Nat} {l : List Operand} {ts : Array TypeId} {vs : List Value} {d : Nat} {post : Value → Hp → List Hp → Prop} (hp : ms.Perm (pre ++ fr)) (ho : o.op = .call { callee := .value x, args := l.toArray, argTypes := ts }) (hx : ev s x = some (.func (.yield lp) #[] #[])) (ha : MF s l = some vs) (k : Wk e.P lp vs.toArray h pre post) (hd : o.dst = some d) (hn : Nat.blt d e.n = true) (hg : o.guard = none)
    (K : ∀ v h' ms', h.le h' → post v h' ms' → IL e ops Q rest ((d, v) :: s) h' (ms' ++ fr)) : IL e ops Q (o :: rest) s h ms := fun a w hA hw0 => by
  have hw := Ends.perm hw0 hp
  unfold wpListIn
  rw [if_pos (by simp [Region.wanted, hg])]
  obtain ⟨fn, tmps, assign, body, hy, hr⟩ := k w hw.st.pre
  have hrun : (execOp a.eval o).run e.P w = .ok (.round lp fn tmps assign body) w := by
    simp [execOp, ho, resolve, hA.eval _ _ hx, Deferred.ofValue, invoke, (show Evs s a.eval from hA.eval).map l vs ha, hy]
  refine ⟨fun _ _ => trivial, ?_⟩
  rw [Oper.semAt_eq _ _ _ (fun c e => by rw [ho] at e; cases e), hrun]
  refine ⟨(fun h => by cases h), hr.mono fun x w' ⟨r, h', ms', e1, e2, e3⟩ => ?_⟩
  subst e1
  show wpListIn _ _ _ _ _ _ (a.put o.dst r) w'
  rw [hd]
  exact K r h' ms' e2.le e3 _ _ (hA.put (Nat.le_of_ble_eq_true hn) _) (Ends.call hw e2)
theorem Jc {ι : Type} {e : Entry} {Q : Exit → Act → World → Prop} {s : Ay} {h : Hp} {ms : List Hp} {t gf : Nat} {lb : List Value} {ps : List Nat} {assign body : Code} (J : ι → Hp → List Hp → Prop) (A : ι → List Value → ι → Ay → Hp → List Hp → Prop) {R : ι → List Value → ι → Prop} {i0 : ι} {fin : ι → Prop}
    (hg : lk s t = some (.func (.func gf) #[] lb.toArray)) (hc : ∀ az w, (callFunc gf az).run e.P w = .ok (.enter gf az) w) (hit : VY e.P gf lb h R i0 fin) (hps : ∀ k vs k', R k vs k' → vs.length = ps.length) (hpn : ps.all (fun p => Nat.blt p e.n) = true)
    (h0 : J i0 h ms)
    (hA : ∀ w0 k vs k' h1 ms1, R k vs k' → h.le h1 → J k h1 ms1 → RS ⟨e.P, w0, h1, ms1, e.n, []⟩ assign (RU ⟨e.P, w0, h1, ms1, e.n, []⟩ (A k vs k')) (MU ps vs s) h1 ms1)
    (hB : ∀ w0 k vs k' s1 h1 ms1, R k vs k' → h.le h1 → A k vs k' s1 h1 ms1 → RS ⟨e.P, w0, h1, ms1, e.n, []⟩ body (RU ⟨e.P, w0, h1, ms1, e.n, []⟩ (fun _ => J k')) s1 h1 ms1)
    (hK : ∀ D k h1 ms1, fin k → h.le h1 → J k h1 ms1 → NX ⟨e.P, e.w0, e.h0, e.ms0, e.n, D :: e.ds⟩ Q .normal s h1 (ms1 ++ [Mk D])) :
    WS e (.rangeFunc (.tmp t) ps.toArray assign body) Q s h ms := by
  intro a w ha hw
  refine (wpIn_wide (n := 0)).1 (wpIn_rangeFunc fun fn _ => ?_)
  have hge : a.eval (.tmp t) = .func (.func gf) #[] lb.toArray := ha.eval (.tmp t) _ hg
  obtain ⟨rec, hrec⟩ : ∃ rec : LoopState → Loop, rec = fun st => { state := st, pending := none, fn, tmps := a.tmps, params := ps.toArray, assign, body, defers := w.heap.size } := ⟨_, rfl⟩
  obtain ⟨l, hl⟩ : ∃ l, l = w.heap.size + 1 := ⟨_, rfl⟩
  obtain ⟨W1, hW1⟩ : ∃ W1, (w.alloc (.deferred (some []))).alloc (.loop (rec .ready)) = W1 := ⟨_, rfl⟩
  have hE1 : e.Ends W1 h (ms ++ [Hp.one l (.loop (rec .ready)), Mk w.heap.size]) := by
    have h2 := (hw.alloc (.deferred (some []))).alloc (.loop (rec .ready))
    rw [World.size_alloc, ← hl, hW1] at h2
    exact h2.perm (by
      refine List.Perm.trans ?_ List.perm_append_comm
      exact List.Perm.refl _)
  have hN : w.heap.size = w.heap.size := rfl
  refine ⟨l, [{ target := .collected w.heap.size, args := #[] }], W1, { target := .fn (.func gf) lb.toArray, args := #[.func (.yield l) #[] #[]] }, W1, gf, ([Value.func (.yield l) #[] #[]] ++ lb).toArray, W1, ?_, ?_, fun _ _ => trivial, ?_, (fun h => by cases h), ?_⟩
  · rw [← hW1, hrec, hl]; exact run_enterLoop_outer _ _ _ _ _
  · simp only [resolve, hge]
    simp [go_sem]
  · simp [invoke, go_sem, hc]
  · refine (callsIn_wide (n := 0)).2 ((hit l (fun k h1 ms1 => h.le h1 ∧ ∃ ms2, ms1 = ms2 ++ [Hp.one l (.loop (rec .ready)), Mk w.heap.size] ∧ J k h1 ms2) h _ (Hp.le_refl _) ?_ ⟨Hp.le_refl _, ms, rfl, h0⟩ W1 hE1.st).mono ?_)
    · -- a round
      rintro k vs k' h2 ms2 hkN hl2 ⟨_, ms2, rfl, hJ⟩ w2 hS2
      have hlo : w2.heap[l]? = some (.loop (rec .ready)) := hS2.own _ (by simp) l _ (Hp.one_self _ _)
      have hy := run_yield (P := e.P) (args := vs.toArray) hlo (by rw [hrec]; simpa using hps k vs k' hkN)
      refine ⟨_, _, _, _, hy, ?_⟩
      have r1 : (rec .ready).params = ps.toArray := by rw [hrec]
      have r2 : (rec .ready).tmps = a.tmps := by rw [hrec]
      have r3 : (rec .ready).assign = assign := by rw [hrec]
      have r4 : (rec .ready).body = body := by rw [hrec]
      rw [r1, r2, r3, r4]
      refine roundIn_of_wpIn trivial ?_
      have hSp : St w2 h2 ms2 := hS2.pre
      have hHas : Has e.n [] { tmps := (ps.toArray.zip vs.toArray).foldl (fun t (p, v) => t.setIfInBounds p v) a.tmps, defers := [] } (MU ps vs s) := by
        have e1 : (ps.toArray.zip vs.toArray).foldl (fun t (p, v) => t.setIfInBounds p v) a.tmps = (ps.zip vs).foldl (fun t (p, v) => t.setIfInBounds p v) a.tmps := by simp
        rw [e1]
        exact Kd rfl ps vs s a.tmps (fun p hp => Nat.le_of_ble_eq_true (List.all_eq_true.1 hpn p hp)) ⟨rfl, ha.size, ha.slots⟩
      refine wpIn_mono (hA w2 k vs k' h2 ms2 hkN hl2 hJ l _ w2 hHas (Ends.refl hSp) Ic) ?_
      intro x a1 w3 hx
      cases x with
      | normal =>
        obtain ⟨s3, h3, ms3, hA3, hHas3, hE3⟩ := hx
        have hEf : Ends w2 h2 (ms2 ++ [Hp.one l (.loop (rec .ready)), Mk w.heap.size]) w3 h3 (ms3 ++ [Hp.one l (.loop (rec .ready)), Mk w.heap.size]) := Ends.call (Ends.refl hS2) hE3
        have hEp := hEf.perm (ms' := Hp.one l (.loop (rec .ready)) :: Mk w.heap.size :: ms3) List.perm_append_comm
        have hl3 : w3.heap[l]? = some (.loop (rec .ready)) := hEp.st.own _ (List.mem_cons_self) l _ (Hp.one_self _ _)
        have hE4 := Ends.putL (.loop (rec .busy)) hEp
        refine ⟨_, run_beginRound hl3 (by rw [hrec]), ?_⟩
        have e2 : ({ rec .ready with state := .busy } : Loop) = rec .busy := by rw [hrec]
        rw [e2]
        have hE4' := hE4.perm (ms' := ms3 ++ [Hp.one l (.loop (rec .busy)), Mk w.heap.size]) (List.perm_append_comm (l₁ := [_, _]))
        refine wpIn_mono (hB _ k vs k' s3 h3 ms3 hkN (Hp.le_trans hl2 hE3.le) hA3 l a1 _ hHas3 (Ends.refl hE4'.st.pre) Ic) ?_
        intro y a2 w5 hy5
        cases y with
        | normal =>
          obtain ⟨s5, h5, ms5, hJ5, _, hE5⟩ := hy5
          have hE6 := Ends.call hE4' hE5
          have hE6p := hE6.perm (ms' := Hp.one l (.loop (rec .busy)) :: Mk w.heap.size :: ms5) List.perm_append_comm
          have hl6 : w5.heap[l]? = some (.loop (rec .busy)) := hE6p.st.own _ (List.mem_cons_self) l _ (Hp.one_self _ _)
          refine ⟨_, _, run_endRound none hl6, ?_⟩
          have e3 : ({ rec .busy with state := if (none : Option Code).isNone then .ready else .done, pending := none } : Loop) = rec .ready := by rw [hrec]; rfl
          rw [e3]
          exact ⟨_, h5, _, rfl, (Ends.putL (.loop (rec .ready)) hE6p).perm (List.perm_append_comm (l₁ := [_, _])), rfl, Hp.le_trans hl2 (Hp.le_trans hE3.le hE5.le), ms5, rfl, hJ5⟩
        | _ => exact hy5.elim
      | _ => exact hx
    · rintro x w3 ⟨r, h3, ms3, rfl, hE3, kf, hfin, hl3, ms4, rfl, hJ⟩
      have hE4 := Ends.call (fr := []) (by rw [List.append_nil]; exact hE1) hE3
      rw [List.append_nil] at hE4
      have hE5 := hE4.perm (ms' := Hp.one l (.loop (rec .ready)) :: Mk w.heap.size :: ms4) List.perm_append_comm
      have hl5 : w3.heap[l]? = some (.loop (rec .ready)) := hE5.st.own _ (List.mem_cons_self) l _ (Hp.one_self _ _)
      refine ⟨_, _, run_endLoop hl5 (by rw [hrec]; simp), ?_⟩
      have e4 : (rec .ready).pending = none := by rw [hrec]
      rw [e4]
      exact hK w.heap.size kf h3 ms4 hfin hl3 hJ { a with defers := [{ target := .collected w.heap.size, args := #[] }] ++ a.defers } _ ⟨by show [_] ++ a.defers = _; rw [ha.defers]; rfl, ha.size, ha.slots⟩ ((Ends.putL _ hE5).drop.perm (List.perm_append_comm (l₁ := [_])))
section
variable {κ ν : Type} [DecidableEq κ] {K : κ → Value} {V : ν → Value} {Ok : κ → Prop} {P : Program} {t : TypeId} {gi g : Nat} {m mi : Hp} {T : List (κ × ν)} {bs vis : List Nat}
variable {o : Oper} {s : Ay} {h : Hp} {ms : List Hp} {e : Entry} {Q : Exit → Act → World → Prop} {ops : Array Oper} {rest : List Oper}
theorem Pu {x : Operand} {d : Nat} {kt et : TypeId} (O : DI K V g Ok m T bs) (hm : m.le h) (ho : o.op = .range t x) (ht : e.P.underlying t = some (.map kt et)) (hx : ev s x = some (.map (some g))) (hd : o.dst = some d) (hn : Nat.blt d e.n = true) (hg : o.guard = none)
    (k : ∀ gi mi, IW gi g m mi bs [] → WL e ops Q rest ((d, .pointer (some ⟨gi, 0, none⟩)) :: s) h (mi :: ms)) : WL e ops Q (o :: rest) s h ms :=
  G6 (post := fun v h' ms' => ∃ gi mi, IW gi g m mi bs [] ∧ v = .pointer (some ⟨gi, 0, none⟩) ∧ h' = h ∧ ms' = mi :: ms) (fun ρ w hρ hw => by
    obtain ⟨es, clock, rfl, he, hb⟩ := O.ex
    have hgw : w.heap[g]? = some (.map es clock) := hw.st.imm g _ (hm g _ (Hp.one_self _ _))
    have hrun : (execOp ρ o).run e.P w = .ok (.value (.pointer (some ⟨w.heap.size, 0, none⟩))) (w.alloc (.mapIter (some g) clock #[] clock)) := by
      simp only [execOp, ho, hρ _ _ hx, Instr.range, Sem.run_bind, run_underlying ht, Result.andThen_ok, getObj, Sem.run_pure]
      simp [Sem.run, hgw, Result.andThen, newObj]
    unfold OpRes; rw [hrun]
    exact ⟨h, _, Ends.alloc hw _, _, _, ⟨⟨es, clock, clock, #[], clock, rfl, rfl, hb, Nat.le_refl _, Nat.le_refl _, rfl, fun h => absurd rfl h⟩, by simp, List.Pairwise.nil⟩, rfl, rfl, rfl⟩) hd hn hg fun v h' ms' ⟨gi, mi, e1, e2, e3, e4⟩ => by subst e2 e3 e4; exact k gi mi e1
theorem RG {x : Operand} {d : Nat} (i : Nat) (O : DI K V g Ok m T bs) (I : IW gi g m mi bs vis) (hm : m.le h) (hi : ms[i]? = some mi) (ho : o.op = .next x false) (hx : ev s x = some (.pointer (some ⟨gi, 0, none⟩))) (hd : o.dst = some d) (hn : Nat.blt d e.n = true) (hg : o.guard = none)
    (k0 : (∀ j, j < T.length → j ∈ vis) → WL e ops Q rest ((d, .tuple #[.bool false]) :: s) h ms)
    (k1 : ∀ (j : Nat) (hj : j < T.length) (mi' : Hp), j ∉ vis → IW gi g m mi' bs (vis ++ [j]) → WL e ops Q rest ((d, .tuple #[.bool true, K T[j].1, V T[j].2]) :: s) h (ms.set i mi')) : WL e ops Q (o :: rest) s h ms :=
  G6 (post := fun v h' ms' => (v = .tuple #[.bool false] ∧ h' = h ∧ ms' = ms ∧ ∀ j, j < T.length → j ∈ vis) ∨ ∃ (j : Nat) (hj : j < T.length) (mi' : Hp), j ∉ vis ∧ IW gi g m mi' bs (vis ++ [j]) ∧ v = .tuple #[.bool true, K T[j].1, V T[j].2] ∧ h' = h ∧ ms' = ms.set i mi') (fun ρ w hρ hw => by
    obtain ⟨es, clock, rfl, he, hb⟩ := O.ex
    obtain ⟨es', clock', since, seen, last, e1, rfl, i1, i2, i3, i4, i5⟩ := I.ex
    have e1 := Nq e1
    cases e1
    have hgw : w.heap[g]? = some (.map es clock) := hw.st.imm g _ (hm g _ (Hp.one_self _ _))
    have hiw : w.heap[gi]? = some (.mapIter (some g) since seen last) := hw.st.own _ (List.mem_of_getElem? hi) gi _ (Hp.one_self _ _)
    have hent : ∀ x ∈ es.toList, ∃ (j : Nat) (hj : j < T.length) (hjb : j < bs.length), x = ent K V (T[j], bs[j]) := fun x hx => by
      rw [he] at hx
      obtain ⟨p, hp, rfl⟩ := List.mem_map.1 hx
      obtain ⟨j, hj⟩ := List.getElem?_of_mem hp
      obtain ⟨z1, z2⟩ := List.getElem?_zip_eq_some.1 hj
      obtain ⟨j1, j2⟩ := List.getElem?_eq_some_iff.1 z1
      obtain ⟨k1, k2⟩ := List.getElem?_eq_some_iff.1 z2
      exact ⟨j, j1, k1, by rw [j2, k2]⟩
    have hin : ∀ (j : Nat) (hj : j < T.length) (hjb : j < bs.length), ent K V (T[j], bs[j]) ∈ es.toList := fun j hj hjb => by
      rw [he]
      exact List.mem_map.2 ⟨(T[j], bs[j]), List.mem_of_getElem? (i := j) (List.getElem?_zip_eq_some.2 ⟨List.getElem?_eq_getElem hj, List.getElem?_eq_getElem hjb⟩), rfl⟩
    have hseen : ∀ b, seen.contains b = true ↔ ∃ j ∈ vis, bs[j]?.getD 0 = b := fun b => by
      rw [Array.contains_iff_mem, ← Array.mem_toList_iff, i4, List.mem_map]
    rcases run_next_at (P := e.P) w o.type gi g since last seen es clock hiw hgw (fun x hx => by
      obtain ⟨j, hj, hjb, rfl⟩ := hent x hx
      exact i1 _ (List.getElem_mem hjb)) i2 with ⟨h1, h2⟩ | ⟨x, h1, w1, h2, h3⟩
    · have hrun : (execOp ρ o).run e.P w = .ok (.value (.tuple #[.bool false])) w := by
        simp only [execOp, ho, hρ _ _ hx, Sem.run_bind, h2, Result.andThen_ok, Sem.run_pure]
      unfold OpRes; rw [hrun]
      refine ⟨h, ms, hw, .inl ⟨rfl, rfl, rfl, fun j hj => ?_⟩⟩
      have hjb : j < bs.length := by rw [O.len]; exact hj
      have hmem := hin j hj hjb
      have hc : seen.contains bs[j] = true := by
        cases hcc : seen.contains bs[j] with
        | true => rfl
        | false =>
          have : ent K V (T[j], bs[j]) ∈ leftOf es seen := by
            unfold leftOf
            rw [Array.mem_filter]
            exact ⟨Array.mem_toList_iff.1 hmem, by show (!seen.contains bs[j]) = true; rw [hcc]; rfl⟩
          rw [Array.size_eq_zero_iff.1 h1] at this
          simp at this
      obtain ⟨j', hj', e2⟩ := (hseen _).1 hc
      have hj'b := I.lt j' hj'
      rw [List.getElem?_eq_getElem hj'b] at e2
      have : j' = j := UV O.up (List.getElem?_eq_getElem hj'b) (by rw [List.getElem?_eq_getElem hjb]; exact congrArg some e2.symm)
      subst this; exact hj'
    · unfold leftOf at h1
      have h1 := Array.mem_filter.1 (Array.mem_toList_iff.1 h1)
      obtain ⟨j, hj, hjb, rfl⟩ := hent x (Array.mem_toList_iff.2 h1.1)
      have hjv : j ∉ vis := fun hv => by
        have : seen.contains bs[j] = true := (hseen _).2 ⟨j, hv, by rw [List.getElem?_eq_getElem hjb]; rfl⟩
        have h4 := h1.2
        simp only [ent] at h4
        rw [this] at h4; cases h4
      have hrun : (execOp ρ o).run e.P w = .ok (.value (.tuple #[.bool true, K T[j].1, V T[j].2])) (ChangeMaps.setBlock w1 gi (.mapIter (some g) since (seen.push bs[j]) clock)) := by
        simp only [execOp, ho, hρ _ _ hx, Sem.run_bind, h3, Result.andThen_ok, Sem.run_pure, ent]
      unfold OpRes; rw [hrun]
      have hw1 : e.Ends w1 h ms := by
        rcases h2 with rfl | rfl
        · exact hw
        · exact Ends.drew hw
      refine ⟨h, _, Ends.turn hw1 hi, .inr ⟨j, hj, _, hjv, ⟨⟨es, clock, since, seen.push bs[j], clock, rfl, rfl, i1, i3, i3, ?_, fun _ => rfl⟩, fun i hi => ?_, ?_⟩, rfl, rfl, rfl⟩⟩
      · rw [Array.toList_push, i4, List.map_append]
        simp [List.getElem?_eq_getElem hjb]
      · rcases List.mem_append.1 hi with hi | hi
        · exact I.lt i hi
        · simp at hi; subst hi; exact hjb
      · exact List.nodup_append.2 ⟨I.nodup, by simp, fun a ha b hb e => by simp at hb; subst hb; subst e; exact hjv ha⟩) hd hn hg fun v h' ms' hp => by
    rcases hp with ⟨e1, e2, e3, e4⟩ | ⟨j, hj, mi', e1, e2, e3, e4, e5⟩
    · subst e1 e2 e3; exact k0 e4
    · subst e3 e4 e5; exact k1 j hj mi' e1 e2
theorem OZ {x : Operand} {j : Nat} (O : DI K V g Ok m T bs) (I : IW gi g m mi bs (vis ++ [j])) (hm : m.le h) (hi : mi ∈ ms) (hj : j < T.length) (ho : o.op = .entry x) (hx : ev s x = some (.pointer (some ⟨gi, 0, none⟩))) : OX P o s h ms (.tuple #[K T[j].1, V T[j].2]) :=
  BI fun ρ w hρ hw => by
    obtain ⟨es, clock, rfl, he, hb⟩ := O.ex
    obtain ⟨es', clock', since, seen, last, e1, rfl, i1, i2, i3, i4, i5⟩ := I.ex
    have e1 := Nq e1
    cases e1
    have hl : last = clock := i5 (by simp)
    subst hl
    have hgw : w.heap[g]? = some (.map es last) := hw.imm g _ (hm g _ (Hp.one_self _ _))
    have hjb : j < bs.length := by rw [O.len]; exact hj
    have hs : seen = (vis.map fun j => bs[j]?.getD 0).toArray.push bs[j] := by
      apply Array.toList_inj.1
      rw [i4, Array.toList_push, List.map_append]
      simp [List.getElem?_eq_getElem hjb]
    have hiw : w.heap[gi]? = some (.mapIter (some g) since ((vis.map fun j => bs[j]?.getD 0).toArray.push (ent K V (T[j], bs[j])).born) last) := by
      have := hw.own _ hi gi _ (Hp.one_self _ _)
      rw [hs] at this; exact this
    have hmem : ent K V (T[j], bs[j]) ∈ es.toList := by
      rw [he]
      exact List.mem_map.2 ⟨(T[j], bs[j]), List.mem_of_getElem? (i := j) (List.getElem?_zip_eq_some.2 ⟨List.getElem?_eq_getElem hj, List.getElem?_eq_getElem hjb⟩), rfl⟩
    have hn : (es.toList.map (·.born)).Nodup := by
      rw [he, List.map_map]
      have : (MapEntry.born ∘ ent K V) = (Prod.snd : (κ × ν) × Nat → Nat) := rfl
      rw [this, List.map_snd_zip (by rw [O.len]; exact Nat.le_refl _)]
      exact O.up.imp fun h => Nat.ne_of_lt h
    have := run_entry_at (P := P) w gi g since _ es last _ hiw hgw hmem hn
    simp only [execOp, ho, hρ _ _ hx, Sem.run_bind, this, Result.andThen_ok, Sem.run_pure, ent]
theorem M4 {kt et : TypeId} {x y : Operand} {z : ν} (a : κ) (L : LS P kt K Ok) (O : DI K V g Ok m T bs) (hm : m.le h) (ho : o.op = .lookup t x y false) (ht : P.underlying t = some (.map kt et)) (hz : ∀ w, (zeroValue et).run P w = .ok (V z) w) (hx : ev s x = some (.map (some g))) (hy : ev s y = some (K a)) (ha : Ok a) :
    OX P o s h ms (V ((Dg T a).getD z)) :=
  BI fun ρ w hρ hw => by
    obtain ⟨es, clock, rfl, he, hb⟩ := O.ex
    have hgw : w.heap[g]? = some (.map es clock) := hw.imm g _ (hm g _ (Hp.one_self _ _))
    obtain ⟨l, hk⟩ := L.key a ha
    have hc := L.law.check w es.isEmpty hk
    rcases He L O.keys O.ok O.len he w a ha with ⟨h1, h2⟩ | ⟨j, u, b, h1, h2, _, _⟩
    · rw [Ec h2]
      simp only [execOp, ho, hρ _ _ hx, hρ _ _ hy, Instr.lookup, Sem.run_bind, run_underlying ht, Result.andThen_ok, getObj, Sem.run_pure, h1, hz]
      simp [Sem.run, hgw, hc, h1, hz, Result.andThen]
    · rw [G7 O.keys h2]
      simp only [execOp, ho, hρ _ _ hx, hρ _ _ hy, Instr.lookup, Sem.run_bind, run_underlying ht, Result.andThen_ok, getObj, Sem.run_pure, h1, hz]
      simp [Sem.run, hgw, hc, h1, hz, Result.andThen]
end
end Go.Eng
namespace Go.Eng
open Go.RowKit Go.Sort
variable {w : World}
theorem Ext.grown {w' : World} (e : Ext w w') : ∃ q os', w' = grow (w.drewN q) os' := by
  refine ⟨w'.drawn - w.drawn, w'.heap.extract w.heap.size w'.heap.size, ?_⟩
  have hh : w'.heap = w.heap ++ w'.heap.extract w.heap.size w'.heap.size := by
    apply Array.ext_getElem?
    intro i
    rcases Nat.lt_or_ge i w.heap.size with h | h
    · rw [Array.getElem?_append_left h, e.block i h]
    · rw [Array.getElem?_append_right h]
      rcases Nat.lt_or_ge i w'.heap.size with h2 | h2
      · simp [Array.getElem?_extract]
        rw [if_pos (by omega)]
        congr 1; omega
      · rw [Array.getElem?_eq_none h2]
        symm
        apply Array.getElem?_eq_none
        simp; omega
  have hd : w'.drawn = w.drawn + (w'.drawn - w.drawn) := by have := e.tape.drawn; omega
  have h1 := e.os
  have h2 := e.tape.tape
  have h3 := e.output
  obtain ⟨heap, tape, drawn, os, output⟩ := w'
  obtain ⟨heap', tape', drawn', os', output'⟩ := w
  simp only at *
  subst h1 h2 h3
  simp only [grow, World.drewN, World.mk.injEq, true_and, and_true]
  exact ⟨hh, hd⟩
section
variable {α : Type} [Inhabited α] {enc : α → List Value} {k : Nat}
theorem Ht (hk : ∀ x, (enc x).length = k) (hk0 : 0 < k) (d : Array α) {t : Nat} (ht : t < d.size * k) : (d.toList.flatMap enc)[t]? = some (flatK enc k d)[t]! := by
  have hj : t / k < d.size := Nat.div_lt_of_lt_mul (by rw [Nat.mul_comm]; exact ht)
  have hm := Nat.mod_lt t hk0
  rw [get_flatK enc k d t ht]
  have h1 := Ey hk d.toList (t / k) (by simpa using hj) (t % k) ((enc d[t / k]!)[t % k]!) (by
    have e : d.toList[t / k]'(by simpa using hj) = d[t / k]! := by simp [hj]
    rw [e]
    have : t % k < (enc d[t / k]!).length := by rw [hk]; exact hm
    simp [this])
  rwa [Nat.mul_comm, Nat.div_add_mod] at h1
theorem PT (hk : ∀ x, (enc x).length = k) (hk0 : 0 < k) (d d' : Array α) (hs : d'.size = d.size) (spare : List Value) : putCells id 0 (flatK enc k d') (d.toList.flatMap enc ++ spare).toArray = (d'.toList.flatMap enc ++ spare).toArray := by
  have l1 : (d.toList.flatMap enc).length = d.size * k := by rw [BL hk]; simp
  have l2 : (d'.toList.flatMap enc).length = d.size * k := by rw [BL hk]; simp [hs]
  apply Array.ext_getElem?
  intro t
  unfold putCells
  rw [Array.getElem?_mapIdx, List.getElem?_toArray, List.getElem?_toArray]
  rcases Nat.lt_or_ge t (d.size * k) with h | h
  · rw [List.getElem?_append_left (by omega), List.getElem?_append_left (by omega), Ht hk hk0 d h, Ht hk hk0 d' (by rw [hs]; exact h)]
    simp only [Option.map_some]
    rw [if_pos ⟨Nat.zero_le _, by rw [size_flatK, hs]; omega⟩]
    rfl
  · rw [List.getElem?_append_right (by omega), List.getElem?_append_right (by omega), l1, l2]
    cases spare[t - d.size * k]? with
    | none => rfl
    | some u =>
      simp only [Option.map_some]
      rw [if_neg]
      rw [size_flatK, hs]; omega
theorem PE {g : Nat} {el : TypeId} (hk : ∀ x, (enc x).length = k) (hk0 : 0 < k) (d : Array α) (spare : List Value) (hg : w.heap[g]? = some (.cells (d.toList.flatMap enc ++ spare).toArray el (0, 0))) : HoldsK enc k w g 0 d := by
  intro j hj
  rw [size_flatK] at hj
  have l1 : (d.toList.flatMap enc).length = d.size * k := by rw [BL hk]; simp
  have h1 := Ht hk hk0 d hj
  constructor
  · have : (d.toList.flatMap enc ++ spare)[j]? = some (flatK enc k d)[j]! := by rw [List.getElem?_append_left (by omega)]; exact h1
    simp [World.cell?, hg, this]
  · simp [World.frozen?, hg]
end
theorem Ou {α : Type} [Inhabited α] {enc : α → List Value} {k : Nat} {h : Hp} {g n : Nat} {el : TypeId} (hk : ∀ x, (enc x).length = k) (hk0 : 0 < k) (d d' : Array α) (hs : d'.size = d.size) (spare : List Value) (os : Array Obj) (hS : St w h [AX g el (d.toList.flatMap enc ++ spare)]) :
    Ends w h [AX g el (d.toList.flatMap enc ++ spare)] (Go.Proofs.sortWorldK enc k w g 0 n d' os) h [AX g el (d'.toList.flatMap enc ++ spare)] := by
  have hg : w.heap[g]? = some (.cells (d.toList.flatMap enc ++ spare).toArray el (0, 0)) := hS.own _ (List.mem_singleton.2 rfl) g _ (Hp.one_self _ _)
  have hlt := (Array.getElem?_eq_some_iff.1 hg).1
  have hv := (Array.getElem?_eq_some_iff.1 hg).2
  have hsz : (putRowK enc k (Go.Sort.ahead w n) g 0 d').heap.size = w.heap.size := by simp [putRowK, putRow, mapBlock, ahead]
  have hg' : (putRowK enc k (Go.Sort.ahead w n) g 0 d').heap[g]? = some (.cells (d'.toList.flatMap enc ++ spare).toArray el (0, 0)) := by
    show (w.heap.modify g (onCells (putCells id 0 (flatK enc k d'))))[g]? = _
    rw [Array.getElem?_eq_getElem (by simpa using hlt), Array.getElem_modify]
    simp [hv, onCells, PT hk hk0 d d' hs spare]
  have ho' : ∀ j, j < w.heap.size → j ≠ g → (putRowK enc k (Go.Sort.ahead w n) g 0 d').heap[j]? = w.heap[j]? := fun j _ hne => by
    show (w.heap.modify g (onCells (putCells id 0 (flatK enc k d'))))[j]? = _
    simp [Array.getElem?_modify, Ne.symm hne]
  refine Ends.change (Ends.refl hS) rfl ⟨rfl, ?_⟩ rfl ?_ ?_ ?_
  · show w.drawn ≤ w.drawn + n
    omega
  · show w.heap.size ≤ ((putRowK enc k (Go.Sort.ahead w n) g 0 d').heap ++ os).size
    rw [Array.size_append, hsz]; omega
  · show ((putRowK enc k (Go.Sort.ahead w n) g 0 d').heap ++ os)[g]? = _
    rw [Array.getElem?_append_left (by rw [hsz]; exact hlt), hg']
  · intro j hj hne
    show ((putRowK enc k (Go.Sort.ahead w n) g 0 d').heap ++ os)[j]? = _
    rw [Array.getElem?_append_left (by rw [hsz]; exact hj), ho' j hj hne]
end Go.Eng
namespace Go.Eng
open Go.RowKit
section
variable {e : Entry} {Q : Exit → Act → World → Prop} {ops : Array Oper} {rest : List Oper} {o : Oper} {s : Ay} {h : Hp} {ms : List Hp}
theorem L7 {t el : TypeId} {x y : Operand} {v z : Value} {sz bytes g : Nat} {l : List Value} (i k : Nat) (vl : List Value) (ho : o.op = .store t x y) (hs : Elem e.P t sz z bytes) (hx : ev s x = some (.pointer (some ((⟨g, 0, none⟩ : Addr).add k)))) (hy : ev s y = some v) (hv : v.cells = vl.toArray) (hl : vl.length = sz) (h1 : ∀ u ∈ vl, u.oneCell' = true)
    (hm : ms[i]? = some (AX g el l)) (hk : k + sz ≤ l.length) (hd : o.dst = none) (hg : o.guard = none)
    (K : WL e ops Q rest s h (ms.set i (AX g el (l.take k ++ vl ++ l.drop (k + sz))))) : WL e ops Q (o :: rest) s h ms := by
  refine Jp (post := fun _ h' ms' => h' = h ∧ ms' = ms.set i (AX g el (l.take k ++ vl ++ l.drop (k + sz)))) (fun ρ w hρ hw => ?_) hd hg fun _ _ _ ⟨e4, e5⟩ => by subst e4 e5; exact K
  subst hl
  have hgw : w.heap[g]? = some (.cells l.toArray el (0, 0)) := hw.st.own _ (List.mem_of_getElem? hm) g _ (Hp.one_self _ _)
  have hst := run_storeCells_at (P := e.P) g k el vl 0 _ w hgw (by simp only [List.size_toArray]; omega) h1
  have : (execOp ρ o).run e.P w = .ok .skip (w.setRow g (l.take k ++ vl ++ l.drop (k + vl.length)).toArray) := by
    simp [execOp, ho, hρ _ _ hx, hρ _ _ hy, Instr.storeAt, Instr.sureAddr, storeVar, hs.sizeOf, hv, QS]
    simp at hst
    rw [hst]; rfl
  unfold OpRes; rw [this]
  exact ⟨h, _, Ends.put hw hm rfl ⟨rfl, Nat.le_refl _⟩ rfl (by simp) (setRow_heap w g _ _ _ _ hgw) (fun k hk hne => setRow_other w g k _ hne), rfl, rfl⟩
theorem A7 {r : List Oper} {m : Hp} (k : ∀ h', h.le h' → m.le h' → WL e ops Q r s h' ms) : WL e ops Q r s h (m :: ms) :=
  fun a w ha hw => k _ (Hp.le_join _ _) (Hp.join_le_right (hw.st.off m List.mem_cons_self)) a w ha (Ends.freeze hw)
theorem MK {x : Exit} {m : Hp} (k : ∀ h', h.le h' → m.le h' → NX e Q x s h' ms) : NX e Q x s h (m :: ms) :=
  fun a w ha hw => k _ (Hp.le_join _ _) (Hp.join_le_right (hw.st.off m List.mem_cons_self)) a w ha (Ends.freeze hw)
end
end Go.Eng
namespace Go.Eng
open Go.RowKit
section
variable {P : Program} {o : Oper} {s : Ay} {h : Hp} {ms : List Hp} {t u : TypeId} {x y : Operand} {a n : Nat}
theorem RH (ho : o.op = .binOp .shr t x y u) {k : IntKind} (hx : ev s x = some (.int .u16 a)) (hy : ev s y = some (.int k n)) (hn : n ≤ 16) : OX P o s h ms (.int .u16 ((a / 2 ^ n : Nat) : Int)) :=
  BI fun ρ w hρ _ => by
    have h1 : ¬ ((n : Int) < 0) := by omega
    have h2 : min n 16 = n := Nat.min_eq_left hn
    have h3 : (a : Int).fdiv (2 ^ n) = ((a / 2 ^ n : Nat) : Int) := by
      rw [Int.fdiv_eq_ediv_of_nonneg _ (Int.le_of_lt (Int.pow_pos (by decide)))]; simp
    simp [execOp, ho, hρ _ _ hx, hρ _ _ hy, Op.shift, h1, IntKind.bits, h2, h3, go_sem]
theorem P9 (ho : o.op = .binOp .and t x y u) (hx : ev s x = some (.int .u16 a)) (hy : ev s y = some (.int .u16 1)) (ha : a < 65536) : OX P o s h ms (.int .u16 ((a % 2 : Nat) : Int)) :=
  BI fun ρ w hρ _ => by
    have h3 : IntKind.u16.wrap (((BitVec.ofNat 16 a) &&& (BitVec.ofNat 16 1)).toNat : Int) = ((a % 2 : Nat) : Int) := by
      rw [BitVec.toNat_and, BitVec.toNat_ofNat, BitVec.toNat_ofNat, Nat.mod_eq_of_lt (by omega), Nat.mod_eq_of_lt (by omega), Nat.and_one_is_mod]
      unfold IntKind.wrap
      simp [IntKind.bits, IntKind.signed]
      omega
    simp [execOp, ho, hρ _ _ hx, hρ _ _ hy, Op.intBits, IntKind.bits, go_sem]
    exact h3
end
theorem JW (a : Int) : -9223372036854775808 ≤ IntKind.i64.wrap a ∧ IntKind.i64.wrap a ≤ 9223372036854775807 := by
  unfold IntKind.wrap
  simp [IntKind.bits, IntKind.signed]
  omega
end Go.Eng
namespace Go.Eng
open Go.RowKit
theorem SW {κ ν : Type} [BEq κ] [LawfulBEq κ] {K : κ → Value} {V : ν → Value} {P : Program} {o : Oper} {s : Ay} {h : Hp} {ms : List Hp} {t kt et : TypeId} {x : Operand} {g : Nat} {Ok : κ → Prop} {m : Hp} {T : List (κ × ν)} {bs : List Nat} (O : DI K V g Ok m T bs) (hm : m ∈ ms) (ho : o.op = .call { callee := .builtin .len, args := #[x], argTypes := #[t] }) (ht : P.underlying t = some (.map kt et)) (hx : ev s x = some (.map (some g))) : OX P o s h ms (.int .i64 T.length) :=
  BI fun ρ w hρ hw => by
    obtain ⟨es, clock, rfl, he, hb⟩ := O.ex
    have hgw : w.heap[g]? = some (.map es clock) := hw.own _ hm g _ (Hp.one_self _ _)
    have hs : es.size = T.length := by
      have := congrArg List.length he
      rw [List.length_map, List.length_zip, O.len, Nat.min_self, Array.length_toList] at this
      exact this
    simp [execOp, ho, hρ _ _ hx, resolve, invoke, builtin, Builtin.len_, run_underlying ht, goInt, getObj, Sem.run, hgw, Result.andThen, hs]
end Go.Eng
set_option linter.unusedVariables false
namespace Go.Eng
open Go.RowKit
theorem Qs {s' s : Ay} (h : Eng.Sub s' s := by repeat (first | exact trivial | refine ⟨rfl, ?_⟩)) : Eng.Sub s' s := h
/-- Where an operation without a guard puts its value. -/
def dg (n : Nat) (o : Oper) : Option Nat := match o.dst, o.guard with
  | some d, none => match Nat.blt d n with
    | true => some d
    | false => none
  | _, _ => none
theorem Io {n d : Nat} {o : Oper} (h : dg n o = some d) : o.dst = some d ∧ Nat.blt d n = true ∧ o.guard = none := by
  unfold dg at h
  split at h
  · rename_i d' h1 h2
    split at h
    · rename_i h3; cases h; exact ⟨h1, h3, h2⟩
    · cases h
  · cases h
/-- Operations whose values stand in the slots. -/
def mv (s : Ay) (o : Oper) : Option Value := match o.op with
  | .move x => ev s x
  | .assign x => ev s x
  | .nilCheck x => match ev s x with
    | some (.pointer (some p)) => some (.pointer (some p))
    | _ => none
  | .extract x i => match ev s x with
    | some (.tuple vs) => vs[i]?
    | _ => none
  | .pick c x y => match ev s c with
    | some (.bool true) => ev s x
    | some (.bool false) => ev s y
    | _ => none
  | .unOp .not _ x => match ev s x with
    | some (.bool a) => some (.bool (!a))
    | _ => none
  | .binOp b _ x y _ => match b, ev s x, ev s y with
    | .lss, some (.int k a), some (.int k' b) => if k = k' then some (.bool (decide (a < b))) else none
    | .leq, some (.int k a), some (.int k' b) => if k = k' then some (.bool (decide (a ≤ b))) else none
    | .gtr, some (.int k a), some (.int k' b) => if k = k' then some (.bool (decide (b < a))) else none
    | .geq, some (.int k a), some (.int k' b) => if k = k' then some (.bool (decide (b ≤ a))) else none
    | .eql, some (.int k a), some (.int k' b) => if k = k' then some (.bool (decide (a = b))) else none
    | .neq, some (.int k a), some (.int k' b) => if k = k' then some (.bool (decide (a ≠ b))) else none
    | _, _, _ => none
  | _ => none
theorem Sm {P : Program} {s : Ay} {h : Hp} {ms : List Hp} {o : Oper} {v : Value} (hv : mv s o = some v) : OX P o s h ms v := by
  unfold mv at hv
  split at hv
  · rename_i h1; exact As h1 hv
  · rename_i h1; exact EX h1 hv
  · rename_i h1; split at hv
    · rename_i h2; cases hv; exact H0 h1 h2
    · cases hv
  · rename_i h1; split at hv
    · rename_i h2; exact AC h1 h2 hv
    · cases hv
  · rename_i h1; split at hv
    · rename_i h2; exact Jv h1 h2 hv
    · rename_i h2; exact JJ h1 h2 hv
    · cases hv
  · rename_i h1; split at hv
    · rename_i h2; cases hv; exact CP h1 h2
    · cases hv
  · rename_i h1
    split at hv <;> first | (split at hv <;> first | (rename_i h2 h3 h4; subst h4; cases hv; first | exact Dy h1 h2 h3 | exact JX h1 h2 h3 | exact Dd h1 h2 h3 | exact DU h1 h2 h3 | exact EJ h1 h2 h3 | exact B4 h1 h2 h3) | cases hv) | cases hv
  · cases hv
/-- A guard that says yes, or no. -/
def gd (ops : Array Oper) (n : Nat) (s : Ay) (o : Oper) (w : Bool) : Option Nat := match o.dst, o.guard with
  | some d, some (j, b) => match Nat.blt d n, ops[j]? with
    | true, some oj => match oj.dst with
      | some dj => match lk s dj with
        | some (.bool b') => match (b' == b) == w with
          | true => some d
          | false => none
        | _ => none
      | none => none
    | _, _ => none
  | _, _ => none
theorem NR {ops : Array Oper} {n d : Nat} {s : Ay} {o : Oper} {w : Bool} (h : gd ops n s o w = some d) : ∃ j b oj dj b', o.dst = some d ∧ Nat.blt d n = true ∧ o.guard = some (j, b) ∧ ops[j]? = some oj ∧ oj.dst = some dj ∧ lk s dj = some (.bool b') ∧ (b' == b) = w := by
  unfold gd at h
  split at h
  · rename_i d' j b h1 h2
    split at h
    · rename_i oj h3 h4
      split at h
      · rename_i dj h5
        split at h
        · rename_i b' h6
          split at h
          · rename_i h7; cases h; exact ⟨j, b, oj, dj, b', h1, h3, h2, h4, h5, h6, by simpa using h7⟩
          · cases h
        · cases h
      · cases h
    · cases h
  · cases h
section
variable {e : Entry} {Q : Exit → Act → World → Prop} {s : Ay} {h h0 : Hp} {ms : List Hp} {ops : Array Oper} {listed : Array Bool} {fuel : Nat} {o : Oper} {rest : List Oper} {v : Value} {d : Nat}
theorem Qx (hx : OX e.P o s h ms v) (hd : dg e.n o = some d) (k : WL e ops Q rest ((d, v) :: s) h ms) : WL e ops Q (o :: rest) s h ms :=
  let ⟨h1, h2, h3⟩ := Io hd
  VM hx h1 h2 h3 k
def WI (n : Nat) (s : Ay) (o : Oper) : Option (Nat × Value) := match dg n o, mv s o with
  | some d, some v => some (d, v)
  | _, _ => none
theorem Qm (hm : WI e.n s o = some (d, v)) (k : WL e ops Q rest ((d, v) :: s) h ms) : WL e ops Q (o :: rest) s h ms := by
  obtain ⟨hd, hv⟩ : dg e.n o = some d ∧ mv s o = some v := by
    unfold WI at hm
    split at hm
    · rename_i h1 h2; cases hm; exact ⟨h1, h2⟩
    · cases hm
  exact Qx (Sm hv) hd k
theorem Qk (hd : gd ops e.n s o false = some d) (k : WL e ops Q rest ((d, undef) :: s) h ms) : WL e ops Q (o :: rest) s h ms :=
  let ⟨_, _, _, _, _, h1, h2, h3, h4, h5, h6, h7⟩ := NR hd
  SY h1 h2 h3 h4 h5 h6 h7 k
theorem Qg (hx : OX e.P o s h ms v) (hd : gd ops e.n s o true = some d) (k : WL e ops Q rest ((d, v) :: s) h ms) : WL e ops Q (o :: rest) s h ms :=
  let ⟨_, _, _, _, _, h1, h2, h3, h4, h5, h6, h7⟩ := NR hd
  Um hx h1 h2 h3 h4 h5 (by rw [h6]; congr 2; simpa using h7) k
theorem Qw (k : WB e ops Q h fuel listed s h ms) : WL e ops (QB e ops Q h fuel listed) [] s h ms := Ak (Uh (Hp.le_refl _) k)
theorem Qa (k : WB e ops Q h0 fuel listed s h ms) (hl : h0.le h := by assumption) : WL e ops (QB e ops Q h0 fuel listed) [] s h ms := Ak (Uh hl k)
theorem Qo (i : Nat) (ho : ops[i]? = some o) (k : WL e ops (QB e ops Q h0 fuel (listed.setIfInBounds i true)) [o] s h ms) (hr : Region.ready .any ops listed = [i] := by kernel_rfl) : WB e ops Q h0 (fuel + 1) listed s h ms := A2 [i] hr rfl (Az ho k A3)
theorem Qe (k : NX e Q .normal s h ms) (hr : Region.ready .any ops listed = [] := by kernel_rfl) : WB e ops Q h0 fuel listed s h ms := Vm hr k
theorem Aq {y : Code} (k : WS e y Q s h ms) : WL e ops (Exit.then (fun a w => y.wp e.P Q a w) Q) [] s h ms := Ak (Ab k)
theorem Ax {id : Nat} {l : List Oper} {y : Code} (k : WL e l.toArray (Exit.then (fun a w => y.wp e.P Q a w) Q) l s h ms) : WS e (.seq (.region id l.toArray false) y) Q s h ms := Ac (Ad k)
theorem B3 {id : Nat} {l : List Oper} {y : Code} (k : WL e l.toArray (Exit.then (fun a w => y.wp e.P Q a w) Q) l s h ms) : WL e ops (Exit.then (fun a w => (Code.seq (.region id l.toArray false) y).wp e.P Q a w) Q) [] s h ms := Ak (Ab (Ac (Ad k)))
theorem IA {id : Nat} {l : List Oper} (k : WL e l.toArray Q l s h ms) : WL e ops (Exit.then (fun a w => (Code.region id l.toArray false).wp e.P Q a w) Q) [] s h ms := Ak (Ab (Ad k))
theorem BZ {t : TypeId} {sz : Nat} {z : Value} {bytes : Nat} (zl : List Value) (ho : o.op = .alloc t) (hs : Elem e.P t sz z bytes) (hz : z.cells = zl.toArray) (hd : dg e.n o = some d) (k : ∀ g, WL e ops Q rest ((d, .pointer (some ⟨g, 0, none⟩)) :: s) h (AX g t zl :: ms)) : WL e ops Q (o :: rest) s h ms :=
  let ⟨h1, h2, h3⟩ := Io hd
  Rq zl ho hs hz h1 h2 h3 k
end
/-- A stable operation, and where it puts its value. -/
def VI (l : List Oper) (n : Nat) (zs : Ay) (i : Nat) : Option (Oper × Nat) := match l[i]? with
  | some o => match dg n o with
    | some d => match lk zs d with
      | none => some (o, d)
      | some _ => none
    | none => none
  | none => none
theorem Qp {P : Program} {l : List Oper} {n : Nat} {s z : Ay} {h0 : Hp} {K : Ay → Prop} {r : List Nat} {i d : Nat} {o : Oper} {v : Value} (ho : VI l n (z ++ s) i = some (o, d)) (hx : OX P o (z ++ s) h0 [] v) (k : CD P l n s h0 K r ((d, v) :: z)) : CD P l n s h0 K (i :: r) z := by
  unfold VI at ho
  split at ho
  · rename_i o' h1
    split at ho
    · rename_i d' h2
      split at ho
      · rename_i h3
        cases ho
        obtain ⟨h4, h5, _⟩ := Io h2
        exact Wa h1 h4 h5 h3 hx k
      · cases ho
    · cases ho
  · cases ho
def WJ (l : List Oper) (n : Nat) (zs : Ay) (i : Nat) : Option (Nat × Value) := match VI l n zs i with
  | some (o, d) => match mv zs o with
    | some v => some (d, v)
    | none => none
  | none => none
def UI (s : Ay) (o : Oper) : Option (TypeId × Addr) := match o.op with
  | .load t x => match ev s x with
    | some (.pointer (some p)) => some (t, p)
    | _ => none
  | _ => none
theorem Lm {s : Ay} {o : Oper} {t : TypeId} {p : Addr} (h : UI s o = some (t, p)) : ∃ x, o.op = .load t x ∧ ev s x = some (.pointer (some p)) := by
  unfold UI at h
  split at h
  · rename_i t' x h1; split at h
    · rename_i h2; cases h; exact ⟨x, h1, h2⟩
    · cases h
  · cases h
def VC (s : Ay) (o : Oper) : Option (TypeId × Nat × Addr) := match o.op with
  | .fieldAddr t x i => match ev s x with
    | some (.pointer (some p)) => some (t, i, p)
    | _ => none
  | _ => none
theorem Q5 {s : Ay} {o : Oper} {t : TypeId} {i : Nat} {p : Addr} (h : VC s o = some (t, i, p)) : ∃ x, o.op = .fieldAddr t x i ∧ ev s x = some (.pointer (some p)) := by
  unfold VC at h
  split at h
  · rename_i t' x i' h1; split at h
    · rename_i h2; cases h; exact ⟨x, h1, h2⟩
    · cases h
  · cases h
def wd (o : Oper) : Option Nat := match o.dst, o.guard with
  | some d, none => some d
  | _, _ => none
theorem JZ {o : Oper} {d : Nat} (h : wd o = some d) : o.dst = some d ∧ o.guard = none := by
  unfold wd at h
  split at h
  · rename_i h1 h2; cases h; exact ⟨h1, h2⟩
  · cases h
section
variable {P : Program} {l : List Oper} {n : Nat} {s z : Ay} {h h0 : Hp} {ms : List Hp} {K : Ay → Prop} {r : List Nat} {i d : Nat} {o : Oper} {v : Value} {t : TypeId} {p : Addr} {D : TypeDesc}
theorem Qq (hm : WJ l n (z ++ s) i = some (d, v)) (k : CD P l n s h0 K r ((d, v) :: z)) : CD P l n s h0 K (i :: r) z := by
  unfold WJ at hm
  split at hm
  · rename_i h1; split at hm
    · rename_i h2; cases hm; exact Qp h1 (Sm h2) k
    · cases hm
  · cases hm
def Wg {α : Type} (a : Option (Oper × Nat)) (f : Oper → Option α) : Option (α × Nat) := match a with
  | some (o, d) => match f o with
    | some x => some (x, d)
    | none => none
  | none => none
theorem Lx {α : Type} {a : Option (Oper × Nat)} {f : Oper → Option α} {x : α} {d : Nat} (h : Wg a f = some (x, d)) : ∃ o, a = some (o, d) ∧ f o = some x := by
  unfold Wg at h
  split at h
  · rename_i o' d'; split at h
    · rename_i h2; cases h; exact ⟨_, rfl, h2⟩
    · cases h
  · cases h
theorem oL (hm : UI s o = some (t, p)) (ht : P.underlying t = some D) (hc : Cell h ms p v) (ha : Jj D = false := by rfl) : OX P o s h ms v :=
  let ⟨_, h1, h2⟩ := Lm hm
  AM h1 ht ha h2 hc
theorem oG {z : Value} {sz bytes : Nat} {vs : List Value} (hm : UI s o = some (t, p)) (ht : P.underlying t = some D) (hs : Elem P t sz z bytes) (hc : Seg h ms p vs) (ha : Jj D = true := by rfl) (hl : vs.length = sz := by rfl) : OX P o s h ms (.agg vs.toArray) :=
  let ⟨_, h1, h2⟩ := Lm hm
  Du h1 ht ha hs hl h2 hc
theorem oF {j off : Nat} (F : Fld P t j off) (hm : VC s o = some (t, j, p)) : OX P o s h ms (.pointer (some (p.add off))) :=
  let ⟨_, h1, h2⟩ := Q5 hm
  Pt F h1 h2
theorem QL (hm : Wg (VI l n (z ++ s) i) (UI (z ++ s)) = some ((t, p), d)) (ht : P.underlying t = some D) (hc : Cell h0 [] p v) (k : CD P l n s h0 K r ((d, v) :: z)) (ha : Jj D = false := by rfl) : CD P l n s h0 K (i :: r) z :=
  let ⟨_, h1, h2⟩ := Lx hm
  Qp h1 (oL h2 ht hc ha) k
theorem QF {j off : Nat} (F : Fld P t j off) (hm : Wg (VI l n (z ++ s) i) (VC (z ++ s)) = some ((t, j, p), d)) (k : CD P l n s h0 K r ((d, .pointer (some (p.add off))) :: z)) : CD P l n s h0 K (i :: r) z :=
  let ⟨_, h1, h2⟩ := Lx hm
  Qp h1 (oF F h2) k
end
def bn (s : Ay) (o : Oper) : Option (BinOp × Int × Int) := match o.op with
  | .binOp b _ x y _ => match ev s x, ev s y with
    | some (.int .i64 a), some (.int .i64 c) => some (b, a, c)
    | _, _ => none
  | _ => none
theorem Ke {s : Ay} {o : Oper} {b : BinOp} {a c : Int} (h : bn s o = some (b, a, c)) : ∃ t x y u, o.op = .binOp b t x y u ∧ ev s x = some (.int .i64 a) ∧ ev s y = some (.int .i64 c) := by
  unfold bn at h
  split at h
  · rename_i b' t x y u h1; split at h
    · rename_i h2 h3; cases h; exact ⟨t, x, y, u, h1, h2, h3⟩
    · cases h
  · cases h
section
variable {P : Program} {s : Ay} {h : Hp} {ms : List Hp} {o : Oper} {a b : Int}
theorem oA (hm : bn s o = some (.add, a, b)) (hr : -9223372036854775808 ≤ a + b ∧ a + b ≤ 9223372036854775807 := by omega) : OX P o s h ms (.int .i64 (a + b)) :=
  let ⟨_, _, _, _, h1, h2, h3⟩ := Ke hm
  U2 h1 h2 h3 hr
theorem oS (hm : bn s o = some (.sub, a, b)) (hr : -9223372036854775808 ≤ a - b ∧ a - b ≤ 9223372036854775807 := by omega) : OX P o s h ms (.int .i64 (a - b)) :=
  let ⟨_, _, _, _, h1, h2, h3⟩ := Ke hm
  UY h1 h2 h3 hr
theorem oM (hm : bn s o = some (.mul, a, b)) (hr : -9223372036854775808 ≤ a * b ∧ a * b ≤ 9223372036854775807 := by omega) : OX P o s h ms (.int .i64 (a * b)) :=
  let ⟨_, _, _, _, h1, h2, h3⟩ := Ke hm
  Vb h1 h2 h3 hr
end
def WD (s : Ay) (o : Oper) : Option (TypeId × Addr × Value) := match o.op, o.dst, o.guard with
  | .store t x y, none, none => match ev s x, ev s y with
    | some (.pointer (some p)), some v => some (t, p, v)
    | _, _ => none
  | _, _, _ => none
theorem Sk {s : Ay} {o : Oper} {t : TypeId} {p : Addr} {v : Value} (h : WD s o = some (t, p, v)) : ∃ x y, o.op = .store t x y ∧ ev s x = some (.pointer (some p)) ∧ ev s y = some v ∧ o.dst = none ∧ o.guard = none := by
  unfold WD at h
  split at h
  · rename_i t' x y h1 h2 h3; split at h
    · rename_i h4 h5; cases h; exact ⟨x, y, h1, h4, h5, h2, h3⟩
    · cases h
  · cases h
def WG (s : Ay) (o : Oper) : Option (FuncId × List Value) := match o.op with
  | .call c => match c.callee, MF s c.args.toList with
    | .value (.func f), some vs => some (f, vs)
    | _, _ => none
  | _ => none
theorem SL {s : Ay} {o : Oper} {f : FuncId} {vs : List Value} (h : WG s o = some (f, vs)) : ∃ l ts, o.op = .call { callee := .value (.func f), args := List.toArray l, argTypes := ts } ∧ MF s l = some vs := by
  unfold WG at h
  split at h
  · rename_i c h1; split at h
    · rename_i f' vs' h2 h3; cases h
      obtain ⟨ce, az, ts⟩ := c
      simp only at h2 h3
      subst h2
      exact ⟨az.toList, ts, by rw [h1, Array.toArray_toList], h3⟩
    · cases h
  · cases h
section
variable {e : Entry} {Q : Exit → Act → World → Prop} {s : Ay} {h : Hp} {ms : List Hp} {ops : Array Oper} {o : Oper} {rest l : List Oper} {v : Value} {d : Nat} {t : TypeId} {p : Addr} {D : TypeDesc}
theorem Ql (hm : (UI s o, dg e.n o) = (some (t, p), some d)) (ht : e.P.underlying t = some D) (hc : Cell h ms p v) (k : WL e ops Q rest ((d, v) :: s) h ms) (ha : Jj D = false := by rfl) : WL e ops Q (o :: rest) s h ms :=
  let ⟨h1, h2⟩ := Prod.mk.inj hm
  Qx (oL h1 ht hc ha) h2 k
theorem Qf {j off : Nat} (F : Fld e.P t j off) (hm : (VC s o, dg e.n o) = (some (t, j, p), some d)) (k : WL e ops Q rest ((d, .pointer (some (p.add off))) :: s) h ms) : WL e ops Q (o :: rest) s h ms :=
  let ⟨h1, h2⟩ := Prod.mk.inj hm
  Qx (oF F h1) h2 k
theorem Sa {el : TypeId} {z : Value} {sz bytes g : Nat} {l : List Value} (i : Nat) (vl : List Value) (hs : Elem e.P t sz z bytes) (hm : (WD s o, v.cells, ms[i]?, vl.length, l.length) = (some (t, ⟨g, 0, none⟩, v), vl.toArray, some (AX g el l), sz, sz)) (h1 : ∀ u ∈ vl, u.oneCell' = true) (K : WL e ops Q rest s h (ms.set i (AX g el vl))) : WL e ops Q (o :: rest) s h ms := by
  simp only [Prod.mk.injEq] at hm
  obtain ⟨q1, q2, q3, q4, q5⟩ := hm
  obtain ⟨x, y, r1, r2, r3, r4, r5⟩ := Sk q1
  exact K9 i vl r1 hs r2 r3 q2 h1 q3 q4 q5 r4 r5 K
theorem Qc {f : FuncId} {vs : List Value} {post : Value → Hp → List Hp → Prop} (hc : ∀ az w, (callFunc f az).run e.P w = .ok (.enter f az) w) (hm : (WG s o, dg e.n o) = (some (f, vs), some d)) (k : FnT e.P f vs.toArray h [] post) (K : ∀ v h' pre', h.le h' → post v h' pre' → WL e ops Q rest ((d, v) :: s) h' (pre' ++ ms)) : WL e ops Q (o :: rest) s h ms := by
  obtain ⟨h1, h2⟩ := Prod.mk.inj hm
  obtain ⟨l, ts, h3, h4⟩ := SL h1
  obtain ⟨h5, h6, h7⟩ := Io h2
  exact E4 h3 hc h4 k h5 h6 h7 K
variable {tl : List Oper} {q : List (Nat × VP)} {al : List (Nat × Nb)}
theorem Wm (hm : (wd o, mv s o) = (some d, some v)) (k : WR e ops Q tl h ms l ((d, v) :: s) q al) : WR e ops Q tl h ms (o :: l) s q al :=
  let ⟨h1, h2⟩ := Prod.mk.inj hm
  let ⟨h3, h4⟩ := JZ h1
  AV (Sm h2) h3 h4 k
theorem Wf {j off : Nat} (F : Fld e.P t j off) (hm : (wd o, VC s o) = (some d, some (t, j, p))) (k : WR e ops Q tl h ms l ((d, .pointer (some (p.add off))) :: s) q al) : WR e ops Q tl h ms (o :: l) s q al :=
  let ⟨h1, h2⟩ := Prod.mk.inj hm
  let ⟨h3, h4⟩ := JZ h1
  AV (oF F h2) h3 h4 k
theorem Wl (hm : (wd o, UI s o) = (some d, some (t, p))) (ht : e.P.underlying t = some D) (hc : Cell h ms p v) (k : WR e ops Q tl h ms l ((d, v) :: s) q al) (ha : Jj D = false := by rfl) : WR e ops Q tl h ms (o :: l) s q al :=
  let ⟨h1, h2⟩ := Prod.mk.inj hm
  let ⟨h3, h4⟩ := JZ h1
  AV (oL h2 ht hc ha) h3 h4 k
end
end Go.Eng
namespace Go.Proofs.YtdnelknieikbaaaGreat
open Go.Eng
theorem Cd : Tryz.prog.follows .mixedOrders = true := by kernel_rfl
theorem A8 : Elem Tryz.prog 3 1 (.int .i64 0) 8 := Elem.of (by kernel_rfl)
theorem WY : Elem Tryz.prog 5 1 (.int .u8 0) 1 := Elem.of (by kernel_rfl)
theorem WA : Elem Tryz.prog 23 1 (.int .u16 0) 2 := Elem.of (by kernel_rfl)
theorem BN : Elem Tryz.prog 24 1 (.slice none 0 0) 24 := Elem.of (by kernel_rfl)
theorem ST : Elem Tryz.prog 26 5 (.agg #[.int .u8 0, .slice none 0 0, .int .u16 0, .slice none 0 0, .bool false]) 72 := Elem.of (by kernel_rfl)
theorem Tm : Elem Tryz.prog 28 1 (.slice none 0 0) 24 := Elem.of (by kernel_rfl)
theorem Bz : Elem Tryz.prog 30 3 (.agg #[.int .i64 0, .slice none 0 0, .slice none 0 0]) 56 := Elem.of (by kernel_rfl)
theorem DV : Elem Tryz.prog 37 3 (.agg #[.int .i64 0, .int .i64 0, .int .i64 0]) 24 := Elem.of (by kernel_rfl)
theorem AI : Elem Tryz.prog 42 4 (.agg #[.int .i64 0, .int .i64 0, .int .i64 0, .slice none 0 0]) 48 := Elem.of (by kernel_rfl)
theorem Cr : Elem Tryz.prog 45 5 (.agg #[.bool false, .int .i64 0, .int .i64 0, .int .i64 0, .slice none 0 0]) 56 := Elem.of (by kernel_rfl)
theorem VG : Elem Tryz.prog 51 1 (.map none) 8 := Elem.of (by kernel_rfl)
theorem Fx : Elem Tryz.prog 53 2 (.agg #[.int .i64 0, .int .i64 0]) 16 := Elem.of (by kernel_rfl)
theorem Co : Elem Tryz.prog 62 1 (.slice none 0 0) 24 := Elem.of (by kernel_rfl)
theorem BP : Elem Tryz.prog 64 3 (.agg #[.int .i64 0, .int .i64 0, .slice none 0 0]) 40 := Elem.of (by kernel_rfl)
theorem Ww : Elem Tryz.prog 81 1 (.slice none 0 0) 24 := Elem.of (by kernel_rfl)
theorem RD : Elem Tryz.prog 93 2 (.agg #[.int .i64 0, .slice none 0 0]) 32 := Elem.of (by kernel_rfl)
theorem Dv : Elem Tryz.prog 95 2 (.agg #[.int .i64 0, .pointer none]) 16 := Elem.of (by kernel_rfl)
theorem G2 : Elem Tryz.prog 106 1 (.slice none 0 0) 24 := Elem.of (by kernel_rfl)
theorem Cf : Elem Tryz.prog 108 1 (.pointer none) 8 := Elem.of (by kernel_rfl)
theorem VT : Elem Tryz.prog 110 3 (.agg #[.int .i64 0, .int .i64 0, .slice none 0 0]) 40 := Elem.of (by kernel_rfl)
theorem V8 : Elem Tryz.prog 132 4 (.agg #[.int .i64 0, .int .i64 0, .slice none 0 0, .slice none 0 0]) 64 := Elem.of (by kernel_rfl)
theorem Ul : Elem Tryz.prog 147 1 (.map none) 8 := Elem.of (by kernel_rfl)
theorem V1 : Elem Tryz.prog 184 1002 (.agg #[.int .i64 0, .int .i64 0, .int .i64 0, .slice none 0 0, .int .i64 0, .int .i64 0, .int .i64 0, .int .i64 0, .int .i64 0, .int .i64 0, .int .i64 0, .int .i64 0, .int .i64 0, .int .i64 0, .int .i64 0, .int .i64 0, .int .i64 0, .int .i64 0, .int .i64 0, .int .i64 0, .int .i64 0, .int .i64 0, .int .i64 0, .int .i64 0, .int .i64 0, .int .i64 0, .int .i64 0, .int .i64 0, .int .i64 0, .int .i64 0, .int .i64 0, .int .i64 0, .int .i64 0, .int .i64 0, .int .i64 0, .int .i64 0, .int .i64 0, .int .i64 0, .int .i64 0, .int .i64 0, .int .i64 0, .int .i64 0, .int .i64 0, .int .i64 0, .int .i64 0, .int .i64 0, .int .i64 0, .int .i64 0, .int .i64 0, .int .i64 0, .int .i64 0, .int .i64 0, .int .i64 0, .int .i64 0, .int .i64 0, .int .i64 0, .int .i64 0, .int .i64 0, .int .i64 0, .int .i64 0, .int .i64 0, .int .i64 0, .int .i64 0, .int .i64 0, .int .i64 0, .int .i64 0, .int .i64 0, .int .i64 0, .int .i64 0, .int .i64 0, .int .i64 0, .int .i64 0, .int .i64 0, .int .i64 0, .int .i64 0, .int .i64 0, .int .i64 0, .int .i64 0, .int .i64 0, .int .i64 0, .int .i64 0, .int .i64 0, .int .i64 0, .int .i64 0, .int .i64 0, .int .i64 0, .int .i64 0, .int .i64 0, .int .i64 0, .int .i64 0, .int .i64 0, .int .i64 0, .int .i64 0, .int .i64 0, .int .i64 0, .int .i64 0, .int .i64 0, .int .i64 0, .int .i64 0, .int .i64 0, .int .i64 0, .int .i64 0, .int .i64 0, .int .i64 0, .int .i64 0, .int .i64 0, .int .i64 0, .int .i64 0, .int .i64 0, .int .i64 0, .int .i64 0, .int .i64 0, .int .i64 0, .int .i64 0, .int .i64 0, .int .i64 0, .int .i64 0, .int .i64 0, .int .i64 0, .int .i64 0, .int .i64 0, .int .i64 0, .int .i64 0, .int .i64 0, .int .i64 0, .int .i64 0, .int .i64 0, .int .i64 0, .int .i64 0, .int .i64 0, .int .i64 0, .int .i64 0, .int .i64 0, .int .i64 0, .int .i64 0, .int .i64 0, .int .i64 0, .int .i64 0, .int .i64 0, .int .i64 0, .int .i64 0, .int .i64 0, .int .i64 0, .int .i64 0, .int .i64 0, .int .i64 0, .int .i64 0, .int .i64 0, .int .i64 0, .int .i64 0, .int .i64 0, .int .i64 0, .int .i64 0, .int .i64 0, .int .i64 0, .int .i64 0, .int .i64 0, .int .i64 0, .int .i64 0, .int .i64 0, .int .i64 0, .int .i64 0, .int .i64 0, .int .i64 0, .int .i64 0, .int .i64 0, .int .i64 0, .int .i64 0, .int .i64 0, .int .i64 0, .int .i64 0, .int .i64 0, .int .i64 0, .int .i64 0, .int .i64 0, .int .i64 0, .int .i64 0, .int .i64 0, .int .i64 0, .int .i64 0, .int .i64 0, .int .i64 0, .int .i64 0, .int .i64 0, .int .i64 0, .int .i64 0, .int .i64 0, .int .i64 0, .int .i64 0, .int .i64 0, .int .i64 0, .int .i64 0, .int .i64 0, .int .i64 0, .int .i64 0, .int .i64 0, .int .i64 0, .int .i64 0, .int .i64 0, .int .i64 0, .int .i64 0, .int .i64 0, .int .i64 0, .int .i64 0, .int .i64 0, .int .i64 0, .int .i64 0, .int .i64 0, .int .i64 0, .int .i64 0, .int .i64 0, .int .i64 0, .int .i64 0, .int .i64 0, .int .i64 0, .int .i64 0, .int .i64 0, .int .i64 0, .int .i64 0, .int .i64 0, .int .i64 0, .int .i64 0, .int .i64 0, .int .i64 0, .int .i64 0, .int .i64 0, .int .i64 0, .int .i64 0, .int .i64 0, .int .i64 0, .int .i64 0, .int .i64 0, .int .i64 0, .int .i64 0, .int .i64 0, .int .i64 0, .int .i64 0, .int .i64 0, .int .i64 0, .int .i64 0, .int .i64 0, .int .i64 0, .int .i64 0, .int .i64 0, .int .i64 0, .int .i64 0, .int .i64 0, .int .i64 0, .int .i64 0, .int .i64 0, .int .i64 0, .int .i64 0, .int .i64 0, .int .i64 0, .int .i64 0, .int .i64 0, .int .i64 0, .int .i64 0, .int .i64 0, .int .i64 0, .int .i64 0, .int .i64 0, .int .i64 0, .int .i64 0, .int .i64 0, .int .i64 0, .int .i64 0, .int .i64 0, .int .i64 0, .int .i64 0, .int .i64 0, .int .i64 0, .int .i64 0, .int .i64 0, .int .i64 0, .int .i64 0, .int .i64 0, .int .i64 0, .int .i64 0, .int .i64 0, .int .i64 0, .int .i64 0, .int .i64 0, .int .i64 0, .int .i64 0, .int .i64 0, .int .i64 0, .int .i64 0, .int .i64 0, .int .i64 0, .int .i64 0, .int .i64 0, .int .i64 0, .int .i64 0, .int .i64 0, .int .i64 0, .int .i64 0, .int .i64 0, .int .i64 0, .int .i64 0, .int .i64 0, .int .i64 0, .int .i64 0, .int .i64 0, .int .i64 0, .int .i64 0, .int .i64 0, .int .i64 0, .int .i64 0, .int .i64 0, .int .i64 0, .int .i64 0, .int .i64 0, .int .i64 0, .int .i64 0, .int .i64 0, .int .i64 0, .int .i64 0, .int .i64 0, .int .i64 0, .int .i64 0, .int .i64 0, .int .i64 0, .int .i64 0, .int .i64 0, .int .i64 0, .int .i64 0, .int .i64 0, .int .i64 0, .int .i64 0, .int .i64 0, .int .i64 0, .int .i64 0, .int .i64 0, .int .i64 0, .int .i64 0, .int .i64 0, .int .i64 0, .int .i64 0, .int .i64 0, .int .i64 0, .int .i64 0, .int .i64 0, .int .i64 0, .int .i64 0, .int .i64 0, .int .i64 0, .int .i64 0, .int .i64 0, .int .i64 0, .int .i64 0, .int .i64 0, .int .i64 0, .int .i64 0, .int .i64 0, .int .i64 0, .int .i64 0, .int .i64 0, .int .i64 0, .int .i64 0, .int .i64 0, .int .i64 0, .int .i64 0, .int .i64 0, .int .i64 0, .int .i64 0, .int .i64 0, .int .i64 0, .int .i64 0, .int .i64 0, .int .i64 0, .int .i64 0, .int .i64 0, .int .i64 0, .int .i64 0, .int .i64 0, .int .i64 0, .int .i64 0, .int .i64 0, .int .i64 0, .int .i64 0, .int .i64 0, .int .i64 0, .int .i64 0, .int .i64 0, .int .i64 0, .int .i64 0, .int .i64 0, .int .i64 0, .int .i64 0, .int .i64 0, .int .i64 0, .int .i64 0, .int .i64 0, .int .i64 0, .int .i64 0, .int .i64 0, .int .i64 0, .int .i64 0, .int .i64 0, .int .i64 0, .int .i64 0, .int .i64 0, .int .i64 0, .int .i64 0, .int .i64 0, .int .i64 0, .int .i64 0, .int .i64 0, .int .i64 0, .int .i64 0, .int .i64 0, .int .i64 0, .int .i64 0, .int .i64 0, .int .i64 0, .int .i64 0, .int .i64 0, .int .i64 0, .int .i64 0, .int .i64 0, .int .i64 0, .int .i64 0, .int .i64 0, .int .i64 0, .int .i64 0, .int .i64 0, .int .i64 0, .int .i64 0, .int .i64 0, .int .i64 0, .int .i64 0, .int .i64 0, .int .i64 0, .int .i64 0, .int .i64 0, .int .i64 0, .int .i64 0, .int .i64 0, .int .i64 0, .int .i64 0, .int .i64 0, .int .i64 0, .int .i64 0, .int .i64 0, .int .i64 0, .int .i64 0, .int .i64 0, .int .i64 0, .int .i64 0, .int .i64 0, .int .i64 0, .int .i64 0, .int .i64 0, .int .i64 0, .int .i64 0, .int .i64 0, .int .i64 0, .int .i64 0, .int .i64 0, .int .i64 0, .int .i64 0, .int .i64 0, .int .i64 0, .int .i64 0, .int .i64 0, .int .i64 0, .int .i64 0, .int .i64 0, .int .i64 0, .int .i64 0, .int .i64 0, .int .i64 0, .int .i64 0, .int .i64 0, .int .i64 0, .int .i64 0, .int .i64 0, .int .i64 0, .int .i64 0, .int .i64 0, .int .i64 0, .int .i64 0, .int .i64 0, .int .i64 0, .int .i64 0, .int .i64 0, .int .i64 0, .int .i64 0, .int .i64 0, .int .i64 0, .int .i64 0, .int .i64 0, .int .i64 0, .int .i64 0, .int .i64 0, .int .i64 0, .int .i64 0, .int .i64 0, .int .i64 0, .int .i64 0, .int .i64 0, .int .i64 0, .int .i64 0, .int .i64 0, .int .i64 0, .int .i64 0, .int .i64 0, .int .i64 0, .int .i64 0, .int .i64 0, .int .i64 0, .int .i64 0, .int .i64 0, .int .i64 0, .int .i64 0, .int .i64 0, .int .i64 0, .int .i64 0, .int .i64 0, .int .i64 0, .int .i64 0, .int .i64 0, .int .i64 0, .int .i64 0, .int .i64 0, .int .i64 0, .int .i64 0, .int .i64 0, .int .i64 0, .int .i64 0, .int .i64 0, .int .i64 0, .int .i64 0, .int .i64 0, .int .i64 0, .int .i64 0, .int .i64 0, .int .i64 0, .int .i64 0, .int .i64 0, .int .i64 0, .int .i64 0, .int .i64 0, .int .i64 0, .int .i64 0, .int .i64 0, .int .i64 0, .int .i64 0, .int .i64 0, .int .i64 0, .int .i64 0, .int .i64 0, .int .i64 0, .int .i64 0, .int .i64 0, .int .i64 0, .int .i64 0, .int .i64 0, .int .i64 0, .int .i64 0, .int .i64 0, .int .i64 0, .int .i64 0, .int .i64 0, .int .i64 0, .int .i64 0, .int .i64 0, .int .i64 0, .int .i64 0, .int .i64 0, .int .i64 0, .int .i64 0, .int .i64 0, .int .i64 0, .int .i64 0, .int .i64 0, .int .i64 0, .int .i64 0, .int .i64 0, .int .i64 0, .int .i64 0, .int .i64 0, .int .i64 0, .int .i64 0, .int .i64 0, .int .i64 0, .int .i64 0, .int .i64 0, .int .i64 0, .int .i64 0, .int .i64 0, .int .i64 0, .int .i64 0, .int .i64 0, .int .i64 0, .int .i64 0, .int .i64 0, .int .i64 0, .int .i64 0, .int .i64 0, .int .i64 0, .int .i64 0, .int .i64 0, .int .i64 0, .int .i64 0, .int .i64 0, .int .i64 0, .int .i64 0, .int .i64 0, .int .i64 0, .int .i64 0, .int .i64 0, .int .i64 0, .int .i64 0, .int .i64 0, .int .i64 0, .int .i64 0, .int .i64 0, .int .i64 0, .int .i64 0, .int .i64 0, .int .i64 0, .int .i64 0, .int .i64 0, .int .i64 0, .int .i64 0, .int .i64 0, .int .i64 0, .int .i64 0, .int .i64 0, .int .i64 0, .int .i64 0, .int .i64 0, .int .i64 0, .int .i64 0, .int .i64 0, .int .i64 0, .int .i64 0, .int .i64 0, .int .i64 0, .int .i64 0, .int .i64 0, .int .i64 0, .int .i64 0, .int .i64 0, .int .i64 0, .int .i64 0, .int .i64 0, .int .i64 0, .int .i64 0, .int .i64 0, .int .i64 0, .int .i64 0, .int .i64 0, .int .i64 0, .int .i64 0, .int .i64 0, .int .i64 0, .int .i64 0, .int .i64 0, .int .i64 0, .int .i64 0, .int .i64 0, .int .i64 0, .int .i64 0, .int .i64 0, .int .i64 0, .int .i64 0, .int .i64 0, .int .i64 0, .int .i64 0, .int .i64 0, .int .i64 0, .int .i64 0, .int .i64 0, .int .i64 0, .int .i64 0, .int .i64 0, .int .i64 0, .int .i64 0, .int .i64 0, .int .i64 0, .int .i64 0, .int .i64 0, .int .i64 0, .int .i64 0, .int .i64 0, .int .i64 0, .int .i64 0, .int .i64 0, .int .i64 0, .int .i64 0, .int .i64 0, .int .i64 0, .int .i64 0, .int .i64 0, .int .i64 0, .int .i64 0, .int .i64 0, .int .i64 0, .int .i64 0, .int .i64 0, .int .i64 0, .int .i64 0, .int .i64 0, .int .i64 0, .int .i64 0, .int .i64 0, .int .i64 0, .int .i64 0, .int .i64 0, .int .i64 0, .int .i64 0, .int .i64 0, .int .i64 0, .int .i64 0, .int .i64 0, .int .i64 0, .int .i64 0, .int .i64 0, .int .i64 0, .int .i64 0, .int .i64 0, .int .i64 0, .int .i64 0, .int .i64 0, .int .i64 0, .int .i64 0, .int .i64 0, .int .i64 0, .int .i64 0, .int .i64 0, .int .i64 0, .int .i64 0, .int .i64 0, .int .i64 0, .int .i64 0, .int .i64 0, .int .i64 0, .int .i64 0, .int .i64 0, .int .i64 0, .int .i64 0, .int .i64 0, .int .i64 0, .int .i64 0, .int .i64 0, .int .i64 0, .int .i64 0, .int .i64 0, .int .i64 0, .int .i64 0, .int .i64 0, .int .i64 0, .int .i64 0, .int .i64 0, .int .i64 0, .int .i64 0, .int .i64 0, .int .i64 0, .int .i64 0, .int .i64 0, .int .i64 0, .int .i64 0, .int .i64 0, .int .i64 0, .int .i64 0, .int .i64 0, .int .i64 0, .int .i64 0, .int .i64 0, .int .i64 0, .int .i64 0, .int .i64 0, .int .i64 0, .int .i64 0, .int .i64 0, .int .i64 0, .int .i64 0, .int .i64 0, .int .i64 0, .int .i64 0, .int .i64 0, .int .i64 0, .int .i64 0, .int .i64 0, .int .i64 0, .int .i64 0, .int .i64 0, .int .i64 0, .int .i64 0, .int .i64 0, .int .i64 0, .int .i64 0, .int .i64 0, .int .i64 0, .int .i64 0, .int .i64 0, .int .i64 0, .int .i64 0, .int .i64 0, .int .i64 0, .int .i64 0, .int .i64 0, .int .i64 0, .int .i64 0, .int .i64 0, .int .i64 0, .int .i64 0, .int .i64 0, .int .i64 0, .int .i64 0, .int .i64 0, .int .i64 0, .int .i64 0, .int .i64 0, .int .i64 0, .int .i64 0, .int .i64 0, .int .i64 0, .int .i64 0, .int .i64 0, .int .i64 0, .int .i64 0, .int .i64 0, .int .i64 0, .int .i64 0, .int .i64 0, .int .i64 0, .int .i64 0, .int .i64 0, .int .i64 0, .int .i64 0, .int .i64 0, .int .i64 0, .int .i64 0, .int .i64 0, .int .i64 0, .int .i64 0, .int .i64 0, .int .i64 0, .int .i64 0, .int .i64 0, .int .i64 0, .int .i64 0, .int .i64 0, .int .i64 0, .int .i64 0, .int .i64 0, .int .i64 0, .int .i64 0, .int .i64 0, .int .i64 0, .int .i64 0, .int .i64 0, .int .i64 0, .int .i64 0, .int .i64 0, .int .i64 0, .int .i64 0, .int .i64 0, .int .i64 0, .int .i64 0, .int .i64 0, .int .i64 0, .int .i64 0, .int .i64 0, .int .i64 0, .int .i64 0, .int .i64 0, .int .i64 0, .int .i64 0, .int .i64 0, .int .i64 0, .int .i64 0, .int .i64 0, .int .i64 0, .int .i64 0, .int .i64 0, .int .i64 0, .int .i64 0, .int .i64 0, .int .i64 0, .int .i64 0, .int .i64 0, .int .i64 0, .int .i64 0, .int .i64 0, .int .i64 0, .int .i64 0, .int .i64 0, .int .i64 0, .int .i64 0, .int .i64 0, .int .i64 0, .int .i64 0, .int .i64 0, .int .i64 0, .int .i64 0, .int .i64 0, .int .i64 0, .int .i64 0, .int .i64 0, .int .i64 0, .int .i64 0, .int .i64 0, .int .i64 0, .int .i64 0, .int .i64 0, .int .i64 0, .int .i64 0, .int .i64 0, .int .i64 0, .int .i64 0, .int .i64 0, .int .i64 0, .int .i64 0, .int .i64 0, .int .i64 0, .int .i64 0, .int .i64 0, .int .i64 0, .int .i64 0, .int .i64 0, .int .i64 0, .int .i64 0, .int .i64 0, .int .i64 0, .int .i64 0, .int .i64 0, .int .i64 0, .int .i64 0, .int .i64 0, .int .i64 0, .int .i64 0, .int .i64 0, .int .i64 0, .int .i64 0, .int .i64 0, .int .i64 0, .int .i64 0, .int .i64 0, .int .i64 0, .int .i64 0, .int .i64 0, .int .i64 0, .int .i64 0, .int .i64 0, .int .i64 0, .int .i64 0, .int .i64 0, .int .i64 0, .int .i64 0, .int .i64 0, .int .i64 0, .int .i64 0, .int .i64 0, .int .i64 0, .int .i64 0, .int .i64 0, .int .i64 0, .int .i64 0, .int .i64 0, .int .i64 0, .int .i64 0, .int .i64 0, .int .i64 0, .int .i64 0, .int .i64 0, .int .i64 0, .int .i64 0, .int .i64 0, .int .i64 0, .int .i64 0, .int .i64 0, .int .i64 0, .int .i64 0, .int .i64 0, .int .i64 0, .int .i64 0, .int .i64 0, .int .i64 0, .int .i64 0, .int .i64 0, .int .i64 0, .int .i64 0, .int .i64 0, .int .i64 0, .int .i64 0, .int .i64 0, .int .i64 0, .int .i64 0, .int .i64 0, .int .i64 0, .int .i64 0, .int .i64 0, .int .i64 0, .int .i64 0, .int .i64 0, .int .i64 0, .int .i64 0]) 8032 := Elem.of (by kernel_rfl)
theorem Uk : Elem Tryz.prog 190 3 (.agg #[.slice none 0 0, .int .i64 0, .int .i64 0]) 40 := Elem.of (by kernel_rfl)
theorem Sr : Fr Tryz.prog 30 #[(0, 1), (1, 1), (2, 1)] := ⟨_, Tryz.underlying30, fun w => by kernel_rfl⟩
theorem US : Fr Tryz.prog 37 #[(0, 1), (1, 1), (2, 1)] := ⟨_, Tryz.underlying37, fun w => by kernel_rfl⟩
theorem Gh : Fr Tryz.prog 42 #[(0, 1), (1, 1), (2, 1), (3, 1)] := ⟨_, Tryz.underlying42, fun w => by kernel_rfl⟩
theorem Pa : Fr Tryz.prog 45 #[(0, 1), (1, 4)] := ⟨_, Tryz.underlying45, fun w => by kernel_rfl⟩
theorem WC : Fr Tryz.prog 64 #[(0, 1), (1, 1), (2, 1)] := ⟨_, Tryz.underlying64, fun w => by kernel_rfl⟩
theorem PK : Fr Tryz.prog 93 #[(0, 1), (1, 1)] := ⟨_, Tryz.underlying93, fun w => by kernel_rfl⟩
theorem Oi : Fr Tryz.prog 95 #[(0, 1), (1, 1)] := ⟨_, Tryz.underlying95, fun w => by kernel_rfl⟩
theorem VW : Fr Tryz.prog 110 #[(0, 3)] := ⟨_, Tryz.underlying110, fun w => by kernel_rfl⟩
theorem V2 : Fr Tryz.prog 132 #[(0, 1), (1, 1), (2, 1), (3, 1)] := ⟨_, Tryz.underlying132, fun w => by kernel_rfl⟩
theorem V5 : Fr Tryz.prog 184 #[(0, 4), (4, 998)] := ⟨_, Tryz.underlying184, fun w => by kernel_rfl⟩
theorem Uv : Fr Tryz.prog 190 #[(0, 1), (1, 1), (2, 1)] := ⟨_, Tryz.underlying190, fun w => by kernel_rfl⟩
theorem Vr : Fld Tryz.prog 26 0 0 := ⟨_, _, _, Tryz.underlying26, rfl, rfl, Tryz.sizeOf5⟩
theorem QE : Fld Tryz.prog 26 1 1 := ⟨_, _, _, Tryz.underlying26, rfl, rfl, Tryz.sizeOf22⟩
theorem Sg : Fld Tryz.prog 26 2 2 := ⟨_, _, _, Tryz.underlying26, rfl, rfl, Tryz.sizeOf23⟩
theorem KA : Fld Tryz.prog 26 3 3 := ⟨_, _, _, Tryz.underlying26, rfl, rfl, Tryz.sizeOf24⟩
theorem Vw : Fld Tryz.prog 26 4 4 := ⟨_, _, _, Tryz.underlying26, rfl, rfl, Tryz.sizeOf4⟩
theorem CG : Fld Tryz.prog 30 0 0 := ⟨_, _, _, Tryz.underlying30, rfl, rfl, Tryz.sizeOf3⟩
theorem Bn : Fld Tryz.prog 30 1 1 := ⟨_, _, _, Tryz.underlying30, rfl, rfl, Tryz.sizeOf24⟩
theorem BQ : Fld Tryz.prog 30 2 2 := ⟨_, _, _, Tryz.underlying30, rfl, rfl, Tryz.sizeOf28⟩
theorem MB : Fld Tryz.prog 37 0 0 := ⟨_, _, _, Tryz.underlying37, rfl, rfl, Tryz.sizeOf3⟩
theorem MM : Fld Tryz.prog 37 1 1 := ⟨_, _, _, Tryz.underlying37, rfl, rfl, Tryz.sizeOf3⟩
theorem M1 : Fld Tryz.prog 37 2 2 := ⟨_, _, _, Tryz.underlying37, rfl, rfl, Tryz.sizeOf3⟩
theorem BE : Fld Tryz.prog 42 0 0 := ⟨_, _, _, Tryz.underlying42, rfl, rfl, Tryz.sizeOf3⟩
theorem Bh : Fld Tryz.prog 42 1 1 := ⟨_, _, _, Tryz.underlying42, rfl, rfl, Tryz.sizeOf3⟩
theorem A0 : Fld Tryz.prog 42 2 2 := ⟨_, _, _, Tryz.underlying42, rfl, rfl, Tryz.sizeOf3⟩
theorem Bc : Fld Tryz.prog 42 3 3 := ⟨_, _, _, Tryz.underlying42, rfl, rfl, Tryz.sizeOf24⟩
theorem EK : Fld Tryz.prog 45 0 0 := ⟨_, _, _, Tryz.underlying45, rfl, rfl, Tryz.sizeOf4⟩
theorem Ca : Fld Tryz.prog 45 1 1 := ⟨_, _, _, Tryz.underlying45, rfl, rfl, Tryz.sizeOf42⟩
theorem E0 : Fld Tryz.prog 64 0 0 := ⟨_, _, _, Tryz.underlying64, rfl, rfl, Tryz.sizeOf3⟩
theorem Fd : Fld Tryz.prog 64 1 1 := ⟨_, _, _, Tryz.underlying64, rfl, rfl, Tryz.sizeOf3⟩
theorem CY : Fld Tryz.prog 64 2 2 := ⟨_, _, _, Tryz.underlying64, rfl, rfl, Tryz.sizeOf62⟩
theorem Eo : Fld Tryz.prog 93 0 0 := ⟨_, _, _, Tryz.underlying93, rfl, rfl, Tryz.sizeOf3⟩
theorem C1 : Fld Tryz.prog 93 1 1 := ⟨_, _, _, Tryz.underlying93, rfl, rfl, Tryz.sizeOf62⟩
theorem D1 : Fld Tryz.prog 95 0 0 := ⟨_, _, _, Tryz.underlying95, rfl, rfl, Tryz.sizeOf3⟩
theorem CQ : Fld Tryz.prog 95 1 1 := ⟨_, _, _, Tryz.underlying95, rfl, rfl, Tryz.sizeOf91⟩
theorem C7 : Fld Tryz.prog 110 0 0 := ⟨_, _, _, Tryz.underlying110, rfl, rfl, Tryz.sizeOf64⟩
theorem EY : Fld Tryz.prog 132 0 0 := ⟨_, _, _, Tryz.underlying132, rfl, rfl, Tryz.sizeOf3⟩
theorem F9 : Fld Tryz.prog 132 1 1 := ⟨_, _, _, Tryz.underlying132, rfl, rfl, Tryz.sizeOf3⟩
theorem DL : Fld Tryz.prog 132 2 2 := ⟨_, _, _, Tryz.underlying132, rfl, rfl, Tryz.sizeOf106⟩
theorem Hj : Fld Tryz.prog 132 3 3 := ⟨_, _, _, Tryz.underlying132, rfl, rfl, Tryz.sizeOf106⟩
theorem ED : Fld Tryz.prog 184 0 0 := ⟨_, _, _, Tryz.underlying184, rfl, rfl, Tryz.sizeOf42⟩
theorem Kb : Fld Tryz.prog 184 1 4 := ⟨_, _, _, Tryz.underlying184, rfl, rfl, Tryz.sizeOf182⟩
theorem TB : Fld Tryz.prog 190 0 0 := ⟨_, _, _, Tryz.underlying190, rfl, rfl, Tryz.sizeOf24⟩
theorem N4 : Fld Tryz.prog 190 1 1 := ⟨_, _, _, Tryz.underlying190, rfl, rfl, Tryz.sizeOf3⟩
theorem NH : Fld Tryz.prog 190 2 2 := ⟨_, _, _, Tryz.underlying190, rfl, rfl, Tryz.sizeOf3⟩
end Go.Proofs.YtdnelknieikbaaaGreat
