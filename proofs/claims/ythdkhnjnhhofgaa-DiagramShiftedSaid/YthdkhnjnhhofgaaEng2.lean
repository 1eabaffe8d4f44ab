/- The engine, part 2: what is known of a frame's slots; the judgements over code, operations and exits. -/
import Derived.Tactics
import Derived.Test.YthdkhnjnhhofgaaEng1
import Derived.Orders
set_option linter.unusedSimpArgs false
set_option linter.unusedVariables false
namespace Go.Eng
open Go.RowKit

def lk : Slots → Nat → Option Value
  | [], _ => none
  | (i, v) :: s, j => match Nat.beq i j with | true => some v | false => lk s j

theorem lk_cons_self (d : Nat) (v : Value) (s : Slots) : lk ((d, v) :: s) d = some v := by
  have : Nat.beq d d = true := Nat.beq_refl d
  simp [lk, this]
theorem lk_cons_ne {d i : Nat} (v : Value) (s : Slots) (h : d ≠ i) : lk ((d, v) :: s) i = lk s i := by
  have : Nat.beq d i = false := by
    cases e : Nat.beq d i with
    | false => rfl
    | true => exact absurd (Nat.eq_of_beq_eq_true e) h
  simp [lk, this]

/-- What an operand is. -/
def ev (s : Slots) : Operand → Option Value
  | .tmp t => lk s t
  | .const v => some v
  | .global g => some (.pointer (some ⟨g, 0, none⟩))
  | .func f => some (.func (.func f) #[] #[])

/-- What several operands are. -/
def evs (s : Slots) : List Operand → Option (List Value)
  | [] => some []
  | x :: l => match ev s x with
    | none => none
    | some v => match evs s l with
      | none => none
      | some vs => some (v :: vs)
def evp (s : Slots) : List (Nat × Operand) → Option (List (Nat × Value))
  | [] => some []
  | x :: l => match ev s x.2 with
    | none => none
    | some v => match evp s l with
      | none => none
      | some vs => some ((x.1, v) :: vs)

structure Has (n : Nat) (a : Act) (s : Slots) : Prop where
  defers : a.defers = []
  size : a.tmps.size = n
  slots : ∀ i v, lk s i = some v → a.tmps[i]? = some v

theorem Has.eval {n : Nat} {a : Act} {s : Slots} (H : Has n a s) (x : Operand) (v : Value) (h : ev s x = some v) : a.eval x = v := by
  cases x with
  | tmp t =>
    have := H.slots t v h
    simp only [Act.eval]
    rw [Array.getD_eq_getD_getElem?, this]; rfl
  | const u => cases h; rfl
  | global g => cases h; rfl
  | func f => cases h; rfl

theorem Has.put {n : Nat} {a : Act} {s : Slots} (H : Has n a s) {d : Nat} (hd : d < n) (v : Value) : Has n (a.put (some d) v) ((d, v) :: s) := by
  refine ⟨H.defers, by simp [Act.put, H.size], fun i u h => ?_⟩
  by_cases hi : d = i
  · subst hi
    rw [lk_cons_self] at h; cases h
    simp [Act.put, H.size, hd]
  · rw [lk_cons_ne _ _ hi] at h
    simp [Act.put, Array.getElem?_setIfInBounds_ne hi, H.slots i u h]

theorem Has.put_none {n : Nat} {a : Act} {s : Slots} (H : Has n a s) (v : Value) : Has n (a.put none v) s := ⟨H.defers, H.size, H.slots⟩

/-- s' knows no more than s. -/
def Sub : Slots → Slots → Prop
  | [], _ => True
  | (i, v) :: r, s => lk s i = some v ∧ Sub r s

theorem Sub.lk {s' s : Slots} (h : Sub s' s) : ∀ i v, Eng.lk s' i = some v → Eng.lk s i = some v := by
  induction s' with
  | nil => intro i v e; cases e
  | cons p r ih =>
    obtain ⟨j, u⟩ := p
    intro i v e
    by_cases hi : j = i
    · subst hi; rw [lk_cons_self] at e; cases e; exact h.1
    · rw [lk_cons_ne _ _ hi] at e; exact ih h.2 i v e

theorem Has.sub {n : Nat} {a : Act} {s s' : Slots} (H : Has n a s) (h : Sub s' s) : Has n a s' :=
  ⟨H.defers, H.size, fun i v e => H.slots i v (h.lk i v e)⟩

/-- Where a call began. -/
structure Entry where
  P : Program
  w0 : World
  h0 : Hp
  ms0 : List Hp
  n : Nat

abbrev Entry.Ends (e : Entry) (w : World) (h : Hp) (ms : List Hp) : Prop := Eng.Ends e.w0 e.h0 e.ms0 w h ms

/-- Code. -/
def WS (e : Entry) (c : Code) (Q : Exit → Act → World → Prop) (s : Slots) (h : Hp) (ms : List Hp) : Prop :=
  ∀ a w, Has e.n a s → e.Ends w h ms → c.wp e.P Q a w
/-- A list of operations of a region. -/
def WL (e : Entry) (ops : Array Oper) (Q : Exit → Act → World → Prop) (l : List Oper) (s : Slots) (h : Hp) (ms : List Hp) : Prop :=
  ∀ a w, Has e.n a s → e.Ends w h ms → wpList e.P ops Q l a w
/-- An exit. -/
def NX (e : Entry) (Q : Exit → Act → World → Prop) (x : Exit) (s : Slots) (h : Hp) (ms : List Hp) : Prop :=
  ∀ a w, Has e.n a s → e.Ends w h ms → Q x a w

/-- A state that is known up to what a description leaves open. -/
def Inv (e : Entry) (I : Slots → Hp → List Hp → Prop) (a : Act) (w : World) : Prop := ∃ s h ms, I s h ms ∧ Has e.n a s ∧ e.Ends w h ms

section rules
variable {e : Entry} {Q : Exit → Act → World → Prop} {s s' : Slots} {h : Hp} {ms : List Hp} {ops : Array Oper}

theorem ws_sub {c : Code} (hs : Sub s' s) (k : WS e c Q s' h ms) : WS e c Q s h ms := fun a w ha hw => k a w (ha.sub hs) hw
theorem wl_sub {l : List Oper} (hs : Sub s' s) (k : WL e ops Q l s' h ms) : WL e ops Q l s h ms := fun a w ha hw => k a w (ha.sub hs) hw
theorem ws_drop {c : Code} {m : Hp} (k : WS e c Q s h ms) : WS e c Q s h (m :: ms) := fun a w ha hw => k a w ha (Ends.drop hw)
theorem ws_freeze {c : Code} {m : Hp} (k : WS e c Q s (h.join m) ms) : WS e c Q s h (m :: ms) := fun a w ha hw => k a w ha (Ends.freeze hw)
theorem ws_perm {c : Code} {ms' : List Hp} (p : ms.Perm ms') (k : WS e c Q s h ms') : WS e c Q s h ms := fun a w ha hw => k a w ha (Ends.perm hw p)
theorem wl_drop {l : List Oper} {m : Hp} (k : WL e ops Q l s h ms) : WL e ops Q l s h (m :: ms) := fun a w ha hw => k a w ha (Ends.drop hw)
theorem wl_freeze {l : List Oper} {m : Hp} (k : WL e ops Q l s (h.join m) ms) : WL e ops Q l s h (m :: ms) := fun a w ha hw => k a w ha (Ends.freeze hw)
theorem wl_perm {l : List Oper} {ms' : List Hp} (p : ms.Perm ms') (k : WL e ops Q l s h ms') : WL e ops Q l s h ms := fun a w ha hw => k a w ha (Ends.perm hw p)
theorem nx_drop {x : Exit} {m : Hp} (k : NX e Q x s h ms) : NX e Q x s h (m :: ms) := fun a w ha hw => k a w ha (Ends.drop hw)
theorem nx_freeze {x : Exit} {m : Hp} (k : NX e Q x s (h.join m) ms) : NX e Q x s h (m :: ms) := fun a w ha hw => k a w ha (Ends.freeze hw)
theorem nx_perm {x : Exit} {ms' : List Hp} (p : ms.Perm ms') (k : NX e Q x s h ms') : NX e Q x s h ms := fun a w ha hw => k a w ha (Ends.perm hw p)
/-- What of the streams and so on the world still is. -/
theorem ws_st {c : Code} (k : (∃ w, St w h ms) → WS e c Q s h ms) : WS e c Q s h ms := fun a w ha hw => k ⟨w, hw.st⟩ a w ha hw

theorem ws_region {id : Nat} {l : List Oper} (k : WL e l.toArray Q l s h ms) : WS e (.region id l.toArray false) Q s h ms :=
  fun a w ha hw => wp_region_lit (k a w ha hw)
theorem wl_nil (k : NX e Q .normal s h ms) : WL e ops Q [] s h ms := fun a w ha hw => k a w ha hw
theorem ws_seq {x y : Code} (k : WS e x (Exit.then (fun a w => y.wp e.P Q a w) Q) s h ms) : WS e (.seq x y) Q s h ms :=
  fun a w ha hw => wp_seq (k a w ha hw)
theorem ws_block {id : Nat} {c : Code} (k : WS e c (Exit.inBlock id Q) s h ms) : WS e (.block id c) Q s h ms :=
  fun a w ha hw => wp_block (k a w ha hw)
theorem ws_exit {id : Nat} (k : NX e Q (.exit id) s h ms) : WS e (.exit id) Q s h ms := fun a w ha hw => wp_exit (k a w ha hw)
theorem ws_ret (k : NX e Q .ret s h ms) : WS e .ret Q s h ms := fun a w ha hw => wp_ret (k a w ha hw)
theorem ws_skip (k : NX e Q .normal s h ms) : WS e .skip Q s h ms := fun a w ha hw => wp_skip (k a w ha hw)
theorem ws_label {l : Nat} (k : NX e Q .normal s h ms) : WS e (.label l) Q s h ms := fun a w ha hw => wp_label (k a w ha hw)

theorem nx_then {y : Code} (k : WS e y Q s h ms) : NX e (Exit.then (fun a w => y.wp e.P Q a w) Q) .normal s h ms := fun a w ha hw => k a w ha hw
theorem nx_then_exit {K : Act → World → Prop} {id : Nat} (k : NX e Q (.exit id) s h ms) : NX e (Exit.then K Q) (.exit id) s h ms := fun a w ha hw => k a w ha hw
theorem nx_then_ret {K : Act → World → Prop} (k : NX e Q .ret s h ms) : NX e (Exit.then K Q) .ret s h ms := fun a w ha hw => k a w ha hw
theorem nx_block {id : Nat} (k : NX e Q .normal s h ms) : NX e (Exit.inBlock id Q) .normal s h ms := fun a w ha hw => k a w ha hw
theorem nx_block_ret {id : Nat} (k : NX e Q .ret s h ms) : NX e (Exit.inBlock id Q) .ret s h ms := fun a w ha hw => k a w ha hw
theorem nx_block_exit {id : Nat} (k : NX e Q .normal s h ms) : NX e (Exit.inBlock id Q) (.exit id) s h ms := fun a w ha hw => by
  simp only [Exit.inBlock, if_true]; exact k a w ha hw
theorem nx_block_out {id id' : Nat} (hne : Nat.beq id' id = false) (k : NX e Q (.exit id') s h ms) : NX e (Exit.inBlock id Q) (.exit id') s h ms := fun a w ha hw => by
  have : id' ≠ id := fun he => by subst he; rw [Nat.beq_refl] at hne; cases hne
  simp only [Exit.inBlock, this, if_false]; exact k a w ha hw

/-- A test whose outcome is written out. -/
theorem ws_cond_t {t : Nat} {x y : Code} (hc : lk s t = some (.bool true)) (k : WS e x Q s h ms) : WS e (.cond (.tmp t) x y) Q s h ms :=
  fun a w ha hw => wp_cond_true (ha.eval (.tmp t) _ hc) (k a w ha hw)
theorem ws_cond_f {t : Nat} {x y : Code} (hc : lk s t = some (.bool false)) (k : WS e y Q s h ms) : WS e (.cond (.tmp t) x y) Q s h ms :=
  fun a w ha hw => wp_cond_false (ha.eval (.tmp t) _ hc) (k a w ha hw)
theorem ws_cond {t : Nat} {x y : Code} {b : Bool} (hc : lk s t = some (.bool b)) (kt : b = true → WS e x Q s h ms) (kf : b = false → WS e y Q s h ms) :
    WS e (.cond (.tmp t) x y) Q s h ms :=
  fun a w ha hw => wp_cond_split (ha.eval (.tmp t) _ hc) (fun hb => kt hb a w ha hw) (fun hb => kf hb a w ha hw)
theorem ws_if {t : Nat} {x y : Code} {p : Prop} {_ : Decidable p} (hc : lk s t = some (.bool (decide p))) (kt : p → WS e x Q s h ms) (kf : ¬ p → WS e y Q s h ms) :
    WS e (.cond (.tmp t) x y) Q s h ms :=
  ws_cond hc (fun hb => kt (of_decide_eq_true hb)) (fun hb => kf (of_decide_eq_false hb))

/-- A loop, with what its rounds keep; n falls from round to round. -/
theorem ws_loop {c : Code} (I : Nat → Slots → Hp → List Hp → Prop) (n : Nat) (s' : Slots) (hI : I n s' h ms) (hs : Sub s' s)
    (round : ∀ n s h ms, I n s h ms → WS e c (Exit.then (fun a w => ∃ n', n' < n ∧ Inv e (I n') a w) Q) s h ms) : WS e (.loop c) Q s h ms := by
  intro a w ha hw b k cs
  have key : ∀ n a w, Inv e (I n) a w → ∃ x a' w', Q x a' w' ∧ Arrives e.P (lone (b.at a (.code c :: .inLoop c :: k)) cs w) b k cs x a' w' := by
    intro n
    induction n using Nat.strongRecOn with
    | _ n ih =>
      intro a w ⟨s, h, ms, hI, ha, hw⟩
      obtain ⟨x, a₁, w₁, hq, harr⟩ := round n s h ms hI a w ha hw b (.inLoop c :: k) cs
      cases x with
      | normal =>
        obtain ⟨n', hlt, hinv⟩ := hq
        obtain ⟨x₂, a₂, w₂, hq₂, harr₂⟩ := ih n' hlt a₁ w₁ hinv
        exact ⟨x₂, a₂, w₂, hq₂, .of_steps (Steps.trans harr (.one step_inLoop)) harr₂⟩
      | exit id => exact ⟨_, a₁, w₁, hq, .pass (x := .inLoop c) rfl (fun _ _ => .inl (by simp)) harr⟩
      | goto l => exact ⟨_, a₁, w₁, hq, .pass (x := .inLoop c) rfl (fun _ _ => .inl (by simp)) harr⟩
      | ret => exact ⟨_, a₁, w₁, hq, .pass (x := .inLoop c) rfl (fun _ _ => .inl (by simp)) harr⟩
      | panic ch => exact ⟨_, a₁, w₁, hq, .pass (x := .inLoop c) rfl (fun _ _ => .inl (by simp)) harr⟩
      | outgrown => exact ⟨_, a₁, w₁, hq, .pass (x := .inLoop c) rfl (fun _ _ => .inl (by simp)) harr⟩
  obtain ⟨x, a', w', hq, harr⟩ := key n a w ⟨s', h, ms, hI, ha.sub hs, hw⟩
  exact ⟨x, a', w', hq, .of_steps (.one step_loop) harr⟩

theorem nx_round {I : Nat → Slots → Hp → List Hp → Prop} {n : Nat} (n' : Nat) (s' : Slots) (hlt : n' < n) (hI : I n' s' h ms) (hs : Sub s' s) :
    NX e (Exit.then (fun a w => ∃ n', n' < n ∧ Inv e (I n') a w) Q) .normal s h ms :=
  fun _ _ ha hw => ⟨n', hlt, s', h, ms, hI, ha.sub hs, hw⟩

/-- Several ways meet again: behind the first piece the state is described by I. -/
theorem ws_cut {x y : Code} (I : Slots → Hp → List Hp → Prop) (k : WS e x (Exit.then (Inv e I) Q) s h ms) (k' : ∀ s h ms, I s h ms → WS e y Q s h ms) :
    WS e (.seq x y) Q s h ms :=
  fun a w ha hw => wp_seq (Code.wp_mono (fun x a w q => by
    cases x with
    | normal => obtain ⟨s, h, ms, hI, ha, hw⟩ := q; exact k' s h ms hI a w ha hw
    | _ => exact q) (k a w ha hw))
theorem nx_meet {I : Slots → Hp → List Hp → Prop} (s' : Slots) (hI : I s' h ms) (hs : Sub s' s) : NX e (Exit.then (Inv e I) Q) .normal s h ms :=
  fun _ _ ha hw => ⟨s', h, ms, hI, ha.sub hs, hw⟩

end rules

/-! Functions. -/

/-- What a call of f comes to: it returns r; what stands behind it. -/
def RP (w0 : World) (h0 : Hp) (ms0 : List Hp) (post : Value → Hp → List Hp → Prop) : Ending → World → Prop :=
  fun x w' => ∃ r h' ms', x = .returned r ∧ Ends w0 h0 ms0 w' h' ms' ∧ post r h' ms'

def FnT (P : Program) (f : FuncId) (args : Array Value) (h : Hp) (ms : List Hp) (post : Value → Hp → List Hp → Prop) : Prop :=
  ∀ w, St w h ms → Calls P f args w (RP w h ms post)

/-- A function that computes one value and leaves nothing behind (but garbage). -/
def FnV (P : Program) (f : FuncId) (args : Array Value) (h : Hp) (ms : List Hp) (v : Value) : Prop :=
  ∀ w, St w h ms → Calls P f args w (fun x w' => x = .returned v ∧ Ext w w')

theorem FnT.mono {P : Program} {f : FuncId} {args : Array Value} {h : Hp} {ms : List Hp} {post post' : Value → Hp → List Hp → Prop} (k : FnT P f args h ms post)
    (hp : ∀ r h' ms', post r h' ms' → post' r h' ms') : FnT P f args h ms post' :=
  fun w hw => (k w hw).mono fun _ _ ⟨r, h', ms', e1, e2, e3⟩ => ⟨r, h', ms', e1, e2, hp _ _ _ e3⟩

/-- Below the size of the heap an Ends with nothing owned changes nothing. -/
theorem Ends.toExt {w w' : World} {h h' : Hp} {ms' : List Hp} (H : Ends w h [] w' h' ms') : Ext w w' :=
  ⟨H.os, H.tape, H.output, H.size, fun k hk => H.block k hk (by simp)⟩

theorem FnT.toV {P : Program} {f : FuncId} {args : Array Value} {h : Hp} {v : Value} (k : FnT P f args h [] (fun r _ _ => r = v)) : FnV P f args h [] v :=
  fun w hw => (k w hw).mono fun _ _ ⟨_, _, _, e1, e2, e3⟩ => ⟨by rw [e1, e3], e2.toExt⟩

/-- The callee asks for less. -/
theorem FnV.weaken {P : Program} {f : FuncId} {args : Array Value} {h h1 : Hp} {ms : List Hp} {v : Value} (k : FnV P f args h [] v) (hl : h.le h1) : FnV P f args h1 ms v :=
  fun w hw => k w ⟨fun g o e => hw.imm g o (hl g o e), by simp, by simp, List.Pairwise.nil⟩

def argS : Nat → List Value → Slots
  | _, [] => []
  | i, v :: l => (i, v) :: argS (i + 1) l

theorem lk_argS (l : List Value) : ∀ k i v, lk (argS k l) i = some v → k ≤ i ∧ l[i - k]? = some v := by
  induction l with
  | nil => intro k i v e; cases e
  | cons x l ih =>
    intro k i v e
    by_cases hi : k = i
    · subst hi; rw [argS, lk_cons_self] at e; cases e; simp
    · rw [argS, lk_cons_ne _ _ hi] at e
      obtain ⟨h1, h2⟩ := ih (k + 1) i v e
      refine ⟨by omega, ?_⟩
      rw [show i - k = (i - (k + 1)) + 1 by omega]
      simpa using h2

theorem fn_enter {P : Program} {f : FuncId} {fn : Func} {c : Code} {l : List Value} {h : Hp} {ms : List Hp} {post : Value → Hp → List Hp → Prop} {n : Nat}
    (hf : P.funcs[f]? = some fn) (hn : fn.ntmps = n) (hb : fn.body = some c) (hl : Nat.ble l.length n = true)
    (k : ∀ w0, St w0 h ms → WS ⟨P, w0, h, ms, n⟩ c (bodyPost P fn (RP w0 h ms post)) (argS 0 l) h ms) : FnT P f l.toArray h ms post := by
  intro w hw
  refine calls_of_wp hf hb (k w hw _ w ?_ (Ends.refl hw))
  have hl' := Nat.le_of_ble_eq_true hl
  refine ⟨rfl, by simp [hn]; omega, fun i v e => ?_⟩
  obtain ⟨_, h2⟩ := lk_argS l 0 i v e
  have hi : i < l.length := by
    rcases Nat.lt_or_ge i l.length with h' | h'
    · exact h'
    · rw [List.getElem?_eq_none (by omega)] at h2; cases h2
  simp only [Nat.sub_zero] at h2
  rw [Array.getElem?_append_left (by simpa using hi)]
  simpa using h2

theorem nx_ret1 {P : Program} {w0 : World} {h0 : Hp} {ms0 : List Hp} {n : Nat} {fn : Func} {post : Value → Hp → List Hp → Prop} {s : Slots} {h : Hp} {ms : List Hp} {t : Nat} {v : Value} (hr : fn.results = #[.tmp t]) (hv : lk s t = some v) (hp : post v h ms) :
    NX ⟨P, w0, h0, ms0, n⟩ (bodyPost P fn (RP w0 h0 ms0 post)) .ret s h ms := fun a w ha hw =>
  bodyPost_ret (results_tmp hr _ _ _) ha.defers ⟨_, h, ms, rfl, hw, by
    have := ha.eval (.tmp t) v hv
    simp only [Act.eval] at this
    rw [this]; exact hp⟩

theorem nx_ret2 {P : Program} {w0 : World} {h0 : Hp} {ms0 : List Hp} {n : Nat} {fn : Func} {post : Value → Hp → List Hp → Prop} {s : Slots} {h : Hp} {ms : List Hp} {t u : Nat} {v v' : Value} (hr : fn.results = #[.tmp t, .tmp u]) (hv : lk s t = some v) (hv' : lk s u = some v') (hp : post (.tuple #[v, v']) h ms) :
    NX ⟨P, w0, h0, ms0, n⟩ (bodyPost P fn (RP w0 h0 ms0 post)) .ret s h ms := fun a w ha hw =>
  bodyPost_ret (results_tmp2 hr _ _ _) ha.defers ⟨_, h, ms, rfl, hw, by
    have h1 := ha.eval (.tmp t) v hv
    have h2 := ha.eval (.tmp u) v' hv'
    simp only [Act.eval] at h1 h2
    rw [h1, h2]; exact hp⟩

theorem nx_end0 {P : Program} {w0 : World} {h0 : Hp} {ms0 : List Hp} {n : Nat} {fn : Func} {post : Value → Hp → List Hp → Prop} {s : Slots} {h : Hp} {ms : List Hp} (hr : fn.results = #[]) (hp : post (.tuple #[]) h ms) :
    NX ⟨P, w0, h0, ms0, n⟩ (bodyPost P fn (RP w0 h0 ms0 post)) .normal s h ms := fun a w ha hw =>
  bodyPost_end (results_none hr _ _ _) ha.defers ⟨_, h, ms, rfl, hw, hp⟩
theorem nx_ret0 {P : Program} {w0 : World} {h0 : Hp} {ms0 : List Hp} {n : Nat} {fn : Func} {post : Value → Hp → List Hp → Prop} {s : Slots} {h : Hp} {ms : List Hp} (hr : fn.results = #[]) (hp : post (.tuple #[]) h ms) :
    NX ⟨P, w0, h0, ms0, n⟩ (bodyPost P fn (RP w0 h0 ms0 post)) .ret s h ms := fun a w ha hw =>
  bodyPost_ret (results_none hr _ _ _) ha.defers ⟨_, h, ms, rfl, hw, hp⟩

/-! Operations. -/

/-- What an operation comes to. -/
def OpRes (P : Program) (o : Oper) (ρ : Operand → Value) (w : World) (Φ : Value → World → Prop) : Prop :=
  match (execOp ρ o).run P w with
  | .ok (.value v) w' => Φ v w'
  | .ok .skip w' => Φ undef w'
  | .ok (.enter f args) w' => Calls P f args w' (fun x w'' => ∃ v, x = .returned v ∧ Φ v w'')
  | _ => False

theorem OpRes.mono {P : Program} {o : Oper} {ρ : Operand → Value} {w : World} {Φ Φ' : Value → World → Prop} (h : OpRes P o ρ w Φ) (k : ∀ v w', Φ v w' → Φ' v w') : OpRes P o ρ w Φ' := by
  unfold OpRes at *
  split at h
  · exact k _ _ h
  · exact k _ _ h
  · exact h.mono fun _ _ ⟨v, e, hv⟩ => ⟨v, e, k _ _ hv⟩
  · exact h

theorem OpRes.wp {P : Program} {o : Oper} {a : Act} {w : World} {Φ : Value → World → Prop} {K : Act → World → Prop} {Q : Exit → Act → World → Prop}
    (h : OpRes P o a.eval w Φ) (k : ∀ v w', Φ v w' → K (a.put o.dst v) w') : o.wp P a w K Q := by
  unfold OpRes at h
  unfold Oper.wp
  generalize (execOp a.eval o).run P w = r at *
  cases r with
  | ok x w' =>
    cases x <;> simp only at h <;> simp only [Oper.upon]
    case value v => exact k _ _ h
    case skip => exact k _ _ h
    case enter f args => exact h.mono fun x w'' ⟨v, e, hv⟩ => by subst e; exact k _ _ hv
  | halt x w' => exact h.elim

/-- The operands are what the slots say. -/
def Evs (s : Slots) (ρ : Operand → Value) : Prop := ∀ x u, ev s x = some u → ρ x = u

theorem Evs.map {s : Slots} {ρ : Operand → Value} (H : Evs s ρ) : ∀ (l : List Operand) (vs : List Value), evs s l = some vs → l.map ρ = vs
  | [], vs, h => by cases h; rfl
  | x :: l, vs, h => by
    unfold evs at h
    cases hx : ev s x with
    | none => rw [hx] at h; cases h
    | some v =>
      rw [hx] at h
      cases hl : evs s l with
      | none => rw [hl] at h; cases h
      | some us => rw [hl] at h; cases h; rw [List.map_cons, H _ _ hx, H.map l us hl]
theorem Evs.pairs {s : Slots} {ρ : Operand → Value} (H : Evs s ρ) : ∀ (l : List (Nat × Operand)) (vs : List (Nat × Value)), evp s l = some vs → (l.map fun (i, x) => (i, ρ x)) = vs
  | [], vs, h => by cases h; rfl
  | x :: l, vs, h => by
    unfold evp at h
    cases hx : ev s x.2 with
    | none => rw [hx] at h; cases h
    | some v =>
      rw [hx] at h
      cases hl : evp s l with
      | none => rw [hl] at h; cases h
      | some us => rw [hl] at h; cases h; rw [List.map_cons, H.pairs l us hl]; simp [H _ _ hx]

/-- An operation that yields one value, and turns nothing that was there. -/
def OX (P : Program) (o : Oper) (s : Slots) (h : Hp) (ms : List Hp) (v : Value) : Prop :=
  ∀ ρ w, Evs s ρ → St w h ms → OpRes P o ρ w (fun v' w' => v' = v ∧ Ext w w')

/-- An operation, what it yields, and what is immutable and owned behind it. -/
def OT (e : Entry) (o : Oper) (s : Slots) (h : Hp) (ms : List Hp) (post : Value → Hp → List Hp → Prop) : Prop :=
  ∀ ρ w, Evs s ρ → e.Ends w h ms → OpRes e.P o ρ w (fun v w' => ∃ h' ms', e.Ends w' h' ms' ∧ post v h' ms')

section
variable {e : Entry} {Q : Exit → Act → World → Prop} {s : Slots} {h : Hp} {ms : List Hp} {ops : Array Oper} {o : Oper} {rest : List Oper}

theorem wl_of_wp (hg : o.guard = none) (k : ∀ a w, Has e.n a s → e.Ends w h ms → o.wp e.P a w (wpList e.P ops Q rest) Q) : WL e ops Q (o :: rest) s h ms :=
  fun a w ha hw => by
    unfold wpList
    rw [if_pos (by simp [Region.wanted, hg])]
    exact .inl (k a w ha hw)

/-- An operation that yields one value. -/
theorem wl_x {d : Nat} {v : Value} (hx : OX e.P o s h ms v) (hd : o.dst = some d) (hn : Nat.blt d e.n = true) (hg : o.guard = none) (k : WL e ops Q rest ((d, v) :: s) h ms) :
    WL e ops Q (o :: rest) s h ms :=
  wl_of_wp hg fun a w ha hw => (hx a.eval w ha.eval hw.st).wp fun v' w' ⟨e1, e2⟩ => by
    subst e1; rw [hd]
    exact k _ _ (ha.put (Nat.le_of_ble_eq_true hn) _) (hw.ext e2)
/-- .. whose value nobody takes. -/
theorem wl_x0 {v : Value} (hx : OX e.P o s h ms v) (hd : o.dst = none) (hg : o.guard = none) (k : WL e ops Q rest s h ms) : WL e ops Q (o :: rest) s h ms :=
  wl_of_wp hg fun a w ha hw => (hx a.eval w ha.eval hw.st).wp fun v' w' ⟨_, e2⟩ => by
    rw [hd]
    exact k _ _ (ha.put_none _) (hw.ext e2)

theorem wl_t {d : Nat} {post : Value → Hp → List Hp → Prop} (hx : OT e o s h ms post) (hd : o.dst = some d) (hn : Nat.blt d e.n = true) (hg : o.guard = none)
    (k : ∀ v h' ms', post v h' ms' → WL e ops Q rest ((d, v) :: s) h' ms') : WL e ops Q (o :: rest) s h ms :=
  wl_of_wp hg fun a w ha hw => (hx a.eval w ha.eval hw).wp fun v' w' ⟨h', ms', e1, e2⟩ => by
    rw [hd]
    exact k _ _ _ e2 _ _ (ha.put (Nat.le_of_ble_eq_true hn) _) e1
theorem wl_t0 {post : Value → Hp → List Hp → Prop} (hx : OT e o s h ms post) (hd : o.dst = none) (hg : o.guard = none)
    (k : ∀ v h' ms', post v h' ms' → WL e ops Q rest s h' ms') : WL e ops Q (o :: rest) s h ms :=
  wl_of_wp hg fun a w ha hw => (hx a.eval w ha.eval hw).wp fun v' w' ⟨h', ms', e1, e2⟩ => by
    rw [hd]
    exact k _ _ _ e2 _ _ (ha.put_none _) e1

theorem Has.yields {a : Act} {n j dj : Nat} {b : Bool} {oj : Oper} (ha : Has n a s) (hj : ops[j]? = some oj) (hd : oj.dst = some dj) (hv : lk s dj = some (.bool b)) : yielded ops a.tmps j = some b := by
  simp [yielded, hj, hd, ha.slots dj _ hv]

/-- A guard that says yes. -/
theorem wl_gx {d j dj : Nat} {b : Bool} {v : Value} {oj : Oper} (hx : OX e.P o s h ms v) (hd : o.dst = some d) (hn : Nat.blt d e.n = true) (hg : o.guard = some (j, b)) (hj : ops[j]? = some oj) (hdj : oj.dst = some dj) (hv : lk s dj = some (.bool b))
    (k : WL e ops Q rest ((d, v) :: s) h ms) : WL e ops Q (o :: rest) s h ms := fun a w ha hw => by
  unfold wpList
  rw [if_pos (by simp [Region.wanted, hg, ha.yields hj hdj hv])]
  exact .inl ((hx a.eval w ha.eval hw.st).wp fun v' w' ⟨e1, e2⟩ => by
    subst e1; rw [hd]
    exact k _ _ (ha.put (Nat.le_of_ble_eq_true hn) _) (hw.ext e2))
theorem wl_gt {d j dj : Nat} {b : Bool} {oj : Oper} {post : Value → Hp → List Hp → Prop} (hx : OT e o s h ms post) (hd : o.dst = some d) (hn : Nat.blt d e.n = true) (hg : o.guard = some (j, b)) (hj : ops[j]? = some oj) (hdj : oj.dst = some dj) (hv : lk s dj = some (.bool b))
    (k : ∀ v h' ms', post v h' ms' → WL e ops Q rest ((d, v) :: s) h' ms') : WL e ops Q (o :: rest) s h ms := fun a w ha hw => by
  unfold wpList
  rw [if_pos (by simp [Region.wanted, hg, ha.yields hj hdj hv])]
  exact .inl ((hx a.eval w ha.eval hw).wp fun v' w' ⟨h', ms', e1, e2⟩ => by
    rw [hd]
    exact k _ _ _ e2 _ _ (ha.put (Nat.le_of_ble_eq_true hn) _) e1)
/-- A guard that says no. -/
theorem wl_skip {d j dj : Nat} {b b' : Bool} {oj : Oper} (hd : o.dst = some d) (hn : Nat.blt d e.n = true) (hg : o.guard = some (j, b)) (hj : ops[j]? = some oj) (hdj : oj.dst = some dj) (hv : lk s dj = some (.bool b')) (hne : (b' == b) = false)
    (k : WL e ops Q rest ((d, undef) :: s) h ms) : WL e ops Q (o :: rest) s h ms := fun a w ha hw => by
  unfold wpList
  rw [if_neg (by simp [Region.wanted, hg, ha.yields hj hdj hv]; simpa using hne), hd]
  exact k _ _ (ha.put (Nat.le_of_ble_eq_true hn) _) hw
theorem Has.yieldsu {a : Act} {n j dj : Nat} {oj : Oper} (ha : Has n a s) (hj : ops[j]? = some oj) (hd : oj.dst = some dj) (hv : lk s dj = some undef) : yielded ops a.tmps j = none := by
  simp [yielded, hj, hd, ha.slots dj _ hv, undef]
theorem wl_skipu {d j dj : Nat} {b : Bool} {oj : Oper} (hd : o.dst = some d) (hn : Nat.blt d e.n = true) (hg : o.guard = some (j, b)) (hj : ops[j]? = some oj) (hdj : oj.dst = some dj) (hv : lk s dj = some undef)
    (k : WL e ops Q rest ((d, undef) :: s) h ms) : WL e ops Q (o :: rest) s h ms := fun a w ha hw => by
  unfold wpList
  rw [if_neg (by simp [Region.wanted, hg, ha.yieldsu hj hdj hv]), hd]
  exact k _ _ (ha.put (Nat.le_of_ble_eq_true hn) _) hw
theorem wl_skip0 {j dj : Nat} {b b' : Bool} {oj : Oper} (hd : o.dst = none) (hg : o.guard = some (j, b)) (hj : ops[j]? = some oj) (hdj : oj.dst = some dj) (hv : lk s dj = some (.bool b')) (hne : (b' == b) = false)
    (k : WL e ops Q rest s h ms) : WL e ops Q (o :: rest) s h ms := fun a w ha hw => by
  unfold wpList
  rw [if_neg (by simp [Region.wanted, hg, ha.yields hj hdj hv]; simpa using hne), hd]
  exact k _ _ (ha.put_none _) hw

/-- A test is decided: from here on the slot holds its outcome. -/
theorem wl_split {l : List Oper} {t : Nat} {p : Prop} {_ : Decidable p} (hc : lk s t = some (.bool (decide p))) (kt : p → WL e ops Q l ((t, .bool true) :: s) h ms) (kf : ¬ p → WL e ops Q l ((t, .bool false) :: s) h ms) : WL e ops Q l s h ms := by
  by_cases hp : p
  · refine fun a w ha hw => kt hp a w ⟨ha.defers, ha.size, fun i v hi => ?_⟩ hw
    by_cases hi' : t = i
    · subst hi'; rw [lk_cons_self] at hi; cases hi; rw [ha.slots t _ hc]; simp [hp]
    · rw [lk_cons_ne _ _ hi'] at hi; exact ha.slots i v hi
  · refine fun a w ha hw => kf hp a w ⟨ha.defers, ha.size, fun i v hi => ?_⟩ hw
    by_cases hi' : t = i
    · subst hi'; rw [lk_cons_self] at hi; cases hi; rw [ha.slots t _ hc]; simp [hp]
    · rw [lk_cons_ne _ _ hi'] at hi; exact ha.slots i v hi
theorem wl_splitb {l : List Oper} {t : Nat} {b : Bool} (hc : lk s t = some (.bool b)) (kt : b = true → WL e ops Q l ((t, .bool true) :: s) h ms) (kf : b = false → WL e ops Q l ((t, .bool false) :: s) h ms) : WL e ops Q l s h ms := by
  have e1 : decide (b = true) = b := by cases b <;> rfl
  exact wl_split (p := b = true) (by rw [hc, e1]) kt (fun hb => kf (by simpa using hb))
end
end Go.Eng
