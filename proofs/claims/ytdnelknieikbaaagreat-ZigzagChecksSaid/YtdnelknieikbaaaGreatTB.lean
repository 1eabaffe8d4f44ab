/- Parts of the proof: Eng2 Eng3 Eng4 Eng5 Eng6. -/
import Derived.Test.YtdnelknieikbaaaGreatTA
import Derived.Tactics
import Derived.Orders
import Derived.Laws.Entries
import Derived.Laws.Cells
import Derived.Laws.Slices
import Derived.Laws.Small
import Derived.IntWalk
import Derived.Laws.Append
import Derived.Laws.MakeOwn
import Derived.Laws.CopyRow
import Derived.Deep.Quiet
set_option linter.unusedSimpArgs false
set_option linter.unusedVariables false
namespace Go.Eng
open Go.RowKit
variable {n id t d j dj : Nat} {P : Program} {post : Value → Hp → List Hp → Prop} {a : Act} {y x c : Code} {ds : List Nat} {b : Bool} {v : Value} {fn : Func} {oj : Oper} {ms' ms0 : List Hp} {l : List Oper} {w0 : World} {h0 : Hp} {K : Act → World → Prop} {f : FuncId}
def lk : Ay → Nat → Option Value
  | [], _ => none
  | (i, v) :: s, j => match Nat.beq i j with | true => some v | false => lk s j
theorem Bt (d : Nat) (v : Value) (s : Ay) : lk ((d, v) :: s) d = some v := by
  have : Nat.beq d d = true := Nat.beq_refl d
  simp [lk, this]
theorem Bq {i : Nat} (v : Value) (s : Ay) (h : d ≠ i) : lk ((d, v) :: s) i = lk s i := by
  have : Nat.beq d i = false := by
    cases e : Nat.beq d i with
    | false => rfl
    | true => exact absurd (Nat.eq_of_beq_eq_true e) h
  simp [lk, this]
def ev (s : Ay) : Operand → Option Value
  | .tmp t => lk s t
  | .const v => some v
  | .global g => some (.pointer (some ⟨g, 0, none⟩))
  | .func f => some (.func (.func f) #[] #[])
def MF (s : Ay) : List Operand → Option (List Value)
  | [] => some []
  | x :: l => match ev s x with
    | none => none
    | some v => match MF s l with
      | none => none
      | some vs => some (v :: vs)
def S7 (s : Ay) : List (Nat × Operand) → Option (List (Nat × Value))
  | [] => some []
  | x :: l => match ev s x.2 with
    | none => none
    | some v => match S7 s l with
      | none => none
      | some vs => some ((x.1, v) :: vs)
abbrev Ws (ds : List Nat) : List Deferred := ds.map fun D => { target := .collected D, args := #[] }
structure Has (n : Nat) (ds : List Nat) (a : Act) (s : Ay) : Prop where
  defers : a.defers = Ws ds
  size : a.tmps.size = n
  slots : ∀ i v, lk s i = some v → a.tmps[i]? = some v
theorem Has.eval {s : Ay} (H : Has n ds a s) (x : Operand) (v : Value) (h : ev s x = some v) : a.eval x = v := by
  cases x with
  | tmp t =>
    have := H.slots t v h
    simp only [Act.eval]
    rw [Array.getD_eq_getD_getElem?, this]; rfl
  | const u => cases h; rfl
  | global g => cases h; rfl
  | func f => cases h; rfl
theorem Has.put {s : Ay} (H : Has n ds a s) (hd : d < n) (v : Value) : Has n ds (a.put (some d) v) ((d, v) :: s) := by
  refine ⟨H.defers, by simp [Act.put, H.size], fun i u h => ?_⟩
  by_cases hi : d = i
  · subst hi
    rw [Bt] at h; cases h
    simp [Act.put, H.size, hd]
  · rw [Bq _ _ hi] at h
    simp [Act.put, Array.getElem?_setIfInBounds_ne hi, H.slots i u h]
theorem Has.put_none {s : Ay} (H : Has n ds a s) (v : Value) : Has n ds (a.put none v) s := ⟨H.defers, H.size, H.slots⟩
def Sub : Ay → Ay → Prop
  | [], _ => True
  | (i, v) :: r, s => lk s i = some v ∧ Sub r s
theorem Sub.lk {s' s : Ay} (h : Sub s' s) : ∀ i v, Eng.lk s' i = some v → Eng.lk s i = some v := by
  induction s' with
  | nil => intro i v e; cases e
  | cons p r ih =>
    obtain ⟨j, u⟩ := p
    intro i v e
    by_cases hi : j = i
    · subst hi; rw [Bt] at e; cases e; exact h.1
    · rw [Bq _ _ hi] at e; exact ih h.2 i v e
theorem Has.sub {s s' : Ay} (H : Has n ds a s) (h : Sub s' s) : Has n ds a s' :=
  ⟨H.defers, H.size, fun i v e => H.slots i v (h.lk i v e)⟩
structure Entry where
  P : Program
  w0 : World
  h0 : Hp
  ms0 : List Hp
  n : Nat
  ds : List Nat
abbrev Entry.Ends (e : Entry) (w : World) (h : Hp) (ms : List Hp) : Prop := Eng.Ends e.w0 e.h0 e.ms0 w h ms
def WS (e : Entry) (c : Code) (Q : Exit → Act → World → Prop) (s : Ay) (h : Hp) (ms : List Hp) : Prop :=
  ∀ a w, Has e.n e.ds a s → e.Ends w h ms → c.wp e.P Q a w
def WL (e : Entry) (ops : Array Oper) (Q : Exit → Act → World → Prop) (l : List Oper) (s : Ay) (h : Hp) (ms : List Hp) : Prop :=
  ∀ a w, Has e.n e.ds a s → e.Ends w h ms → wpList e.P ops Q l a w
def NX (e : Entry) (Q : Exit → Act → World → Prop) (x : Exit) (s : Ay) (h : Hp) (ms : List Hp) : Prop :=
  ∀ a w, Has e.n e.ds a s → e.Ends w h ms → Q x a w
def Ui (e : Entry) (I : Ay → Hp → List Hp → Prop) (a : Act) (w : World) : Prop := ∃ s h ms, I s h ms ∧ Has e.n e.ds a s ∧ e.Ends w h ms
section rules
variable {e : Entry} {Q : Exit → Act → World → Prop} {s s' : Ay} {h : Hp} {ms : List Hp} {ops : Array Oper}
theorem Ea (p : ms.Perm ms') (k : WS e c Q s h ms') : WS e c Q s h ms := fun a w ha hw => k a w ha (Ends.perm hw p)
theorem TW (p : ms.Perm ms') (k : WL e ops Q l s h ms') : WL e ops Q l s h ms := fun a w ha hw => k a w ha (Ends.perm hw p)
theorem A5 {x : Exit} {m : Hp} (k : NX e Q x s h ms) : NX e Q x s h (m :: ms) := fun a w ha hw => k a w ha (Ends.drop hw)
theorem CF {x : Exit} (p : ms.Perm ms') (k : NX e Q x s h ms') : NX e Q x s h ms := fun a w ha hw => k a w ha (Ends.perm hw p)
theorem Ad (k : WL e l.toArray Q l s h ms) : WS e (.region id l.toArray false) Q s h ms :=
  fun a w ha hw => wp_region_lit (k a w ha hw)
theorem Ak (k : NX e Q .normal s h ms) : WL e ops Q [] s h ms := fun a w ha hw => k a w ha hw
theorem Ac (k : WS e x (Exit.then (fun a w => y.wp e.P Q a w) Q) s h ms) : WS e (.seq x y) Q s h ms :=
  fun a w ha hw => wp_seq (k a w ha hw)
theorem Ag (k : WS e c (Exit.inBlock id Q) s h ms) : WS e (.block id c) Q s h ms :=
  fun a w ha hw => wp_block (k a w ha hw)
theorem Aw (k : NX e Q (.exit id) s h ms) : WS e (.exit id) Q s h ms := fun a w ha hw => wp_exit (k a w ha hw)
theorem Ao (k : NX e Q .ret s h ms) : WS e .ret Q s h ms := fun a w ha hw => wp_ret (k a w ha hw)
theorem Ai (k : NX e Q .normal s h ms) : WS e .skip Q s h ms := fun a w ha hw => wp_skip (k a w ha hw)
theorem QI {l : Nat} (k : NX e Q .normal s h ms) : WS e (.label l) Q s h ms := fun a w ha hw => wp_label (k a w ha hw)
theorem Ab (k : WS e y Q s h ms) : NX e (Exit.then (fun a w => y.wp e.P Q a w) Q) .normal s h ms := fun a w ha hw => k a w ha hw
theorem Aa (k : NX e Q (.exit id) s h ms) : NX e (Exit.then K Q) (.exit id) s h ms := fun a w ha hw => k a w ha hw
theorem Ae (k : NX e Q .ret s h ms) : NX e (Exit.then K Q) .ret s h ms := fun a w ha hw => k a w ha hw
theorem Aj (k : NX e Q .normal s h ms) : NX e (Exit.inBlock id Q) .normal s h ms := fun a w ha hw => k a w ha hw
theorem Ap (k : NX e Q .ret s h ms) : NX e (Exit.inBlock id Q) .ret s h ms := fun a w ha hw => k a w ha hw
theorem Af (k : NX e Q .normal s h ms) : NX e (Exit.inBlock id Q) (.exit id) s h ms := fun a w ha hw => by
  simp only [Exit.inBlock, if_true]; exact k a w ha hw
theorem Hf {id' : Nat} (hne : Nat.beq id' id = false) (k : NX e Q (.exit id') s h ms) : NX e (Exit.inBlock id Q) (.exit id') s h ms := fun a w ha hw => by
  have : id' ≠ id := fun he => by subst he; rw [Nat.beq_refl] at hne; cases hne
  simp only [Exit.inBlock, this, if_false]; exact k a w ha hw
theorem AU (hc : lk s t = some (.bool true)) (k : WS e x Q s h ms) : WS e (.cond (.tmp t) x y) Q s h ms :=
  fun a w ha hw => wp_cond_true (ha.eval (.tmp t) _ hc) (k a w ha hw)
theorem Bb (hc : lk s t = some (.bool false)) (k : WS e y Q s h ms) : WS e (.cond (.tmp t) x y) Q s h ms :=
  fun a w ha hw => wp_cond_false (ha.eval (.tmp t) _ hc) (k a w ha hw)
theorem BJ (hc : lk s t = some (.bool b)) (kt : b = true → WS e x Q s h ms) (kf : b = false → WS e y Q s h ms) :
    WS e (.cond (.tmp t) x y) Q s h ms :=
  fun a w ha hw => wp_cond_split (ha.eval (.tmp t) _ hc) (fun hb => kt hb a w ha hw) (fun hb => kf hb a w ha hw)
theorem AF {p : Prop} {_ : Decidable p} (hc : lk s t = some (.bool (decide p))) (kt : p → WS e x Q s h ms) (kf : ¬ p → WS e y Q s h ms) :
    WS e (.cond (.tmp t) x y) Q s h ms :=
  BJ hc (fun hb => kt (of_decide_eq_true hb)) (fun hb => kf (of_decide_eq_false hb))
theorem AD (I : Nat → Ay → Hp → List Hp → Prop) (n : Nat) (s' : Ay) (hI : I n s' h ms) (hs : Sub s' s)
    (round : ∀ n s h ms, I n s h ms → WS e c (Exit.then (fun a w => ∃ n', n' < n ∧ Ui e (I n') a w) Q) s h ms) : WS e (.loop c) Q s h ms := by
  intro a w ha hw b k cs
  have key : ∀ n a w, Ui e (I n) a w → ∃ x a' w', Q x a' w' ∧ Arrives e.P (lone (b.at a (.code c :: .inLoop c :: k)) cs w) b k cs x a' w' := by
    intro n
    induction n using Nat.strongRecOn with
    | _ n ih =>
      intro a w ⟨s, h, ms, hI, ha, hw⟩
      obtain ⟨x, a₁, w₁, hq, harr⟩ := round n s h ms hI a w ha hw b (.inLoop c :: k) cs
      cases x with
      | normal =>
        obtain ⟨n', hlt, hinv⟩ := hq
        obtain ⟨x₂, a₂, w₂, hq₂, harr₂⟩ := ih n' hlt a₁ w₁ hinv
        exact ⟨x₂, a₂, w₂, hq₂, .of_steps (Steps.trans harr (.one step_inLoop)) harr₂⟩
      | exit id => exact ⟨_, a₁, w₁, hq, .pass (x := .inLoop c) rfl (fun _ _ => .inl (by simp)) harr⟩
      | goto l => exact ⟨_, a₁, w₁, hq, .pass (x := .inLoop c) rfl (fun _ _ => .inl (by simp)) harr⟩
      | ret => exact ⟨_, a₁, w₁, hq, .pass (x := .inLoop c) rfl (fun _ _ => .inl (by simp)) harr⟩
      | panic ch => exact ⟨_, a₁, w₁, hq, .pass (x := .inLoop c) rfl (fun _ _ => .inl (by simp)) harr⟩
      | outgrown => exact ⟨_, a₁, w₁, hq, .pass (x := .inLoop c) rfl (fun _ _ => .inl (by simp)) harr⟩
  obtain ⟨x, a', w', hq, harr⟩ := key n a w ⟨s', h, ms, hI, ha.sub hs, hw⟩
  exact ⟨x, a', w', hq, .of_steps (.one step_loop) harr⟩
theorem Al {I : Nat → Ay → Hp → List Hp → Prop} (n' : Nat) (s' : Ay) (hlt : n' < n) (hI : I n' s' h ms) (hs : Sub s' s) :
    NX e (Exit.then (fun a w => ∃ n', n' < n ∧ Ui e (I n') a w) Q) .normal s h ms :=
  fun _ _ ha hw => ⟨n', hlt, s', h, ms, hI, ha.sub hs, hw⟩
theorem Bv (I : Ay → Hp → List Hp → Prop) (k : WS e x (Exit.then (Ui e I) Q) s h ms) (k' : ∀ s h ms, I s h ms → WS e y Q s h ms) :
    WS e (.seq x y) Q s h ms :=
  fun a w ha hw => wp_seq (Code.wp_mono (fun x a w q => by
    cases x with
    | normal => obtain ⟨s, h, ms, hI, ha, hw⟩ := q; exact k' s h ms hI a w ha hw
    | _ => exact q) (k a w ha hw))
theorem AA {I : Ay → Hp → List Hp → Prop} (s' : Ay) (hI : I s' h ms) (hs : Sub s' s) : NX e (Exit.then (Ui e I) Q) .normal s h ms :=
  fun _ _ ha hw => ⟨s', h, ms, hI, ha.sub hs, hw⟩
end rules
def RP (w0 : World) (h0 : Hp) (ms0 : List Hp) (post : Value → Hp → List Hp → Prop) : Ending → World → Prop :=
  fun x w' => ∃ r h' ms', x = .returned r ∧ Ends w0 h0 ms0 w' h' ms' ∧ post r h' ms'
def FnT (P : Program) (f : FuncId) (args : Array Value) (h : Hp) (ms : List Hp) (post : Value → Hp → List Hp → Prop) : Prop :=
  ∀ w, St w h ms → Calls P f args w (RP w h ms post)
def Dq (P : Program) (f : FuncId) (args : Array Value) (h : Hp) (ms : List Hp) (v : Value) : Prop :=
  ∀ w, St w h ms → Calls P f args w (fun x w' => x = .returned v ∧ Ext w w')
theorem FnT.mono {args : Array Value} {h : Hp} {ms : List Hp} {post' : Value → Hp → List Hp → Prop} (k : FnT P f args h ms post)
    (hp : ∀ r h' ms', post r h' ms' → post' r h' ms') : FnT P f args h ms post' :=
  fun w hw => (k w hw).mono fun _ _ ⟨r, h', ms', e1, e2, e3⟩ => ⟨r, h', ms', e1, e2, hp _ _ _ e3⟩
theorem Ends.toExt {w w' : World} {h h' : Hp} (H : Ends w h [] w' h' ms') : Ext w w' :=
  ⟨H.os, H.tape, H.output, H.size, fun k hk => H.block k hk (by simp)⟩
theorem FnT.toV {args : Array Value} {h : Hp} (k : FnT P f args h [] (fun r _ _ => r = v)) : Dq P f args h [] v :=
  fun w hw => (k w hw).mono fun _ _ ⟨_, _, _, e1, e2, e3⟩ => ⟨by rw [e1, e3], e2.toExt⟩
def A4 : Nat → List Value → Ay
  | _, [] => []
  | i, v :: l => (i, v) :: A4 (i + 1) l
theorem N1 (l : List Value) : ∀ k i v, lk (A4 k l) i = some v → k ≤ i ∧ l[i - k]? = some v := by
  induction l with
  | nil => intro k i v e; cases e
  | cons x l ih =>
    intro k i v e
    by_cases hi : k = i
    · subst hi; rw [A4, Bt] at e; cases e; simp
    · rw [A4, Bq _ _ hi] at e
      obtain ⟨h1, h2⟩ := ih (k + 1) i v e
      refine ⟨by omega, ?_⟩
      rw [show i - k = (i - (k + 1)) + 1 by omega]
      simpa using h2
theorem Av {l : List Value} {h : Hp} {ms : List Hp}
    (hf : P.funcs[f]? = some fn) (hn : fn.ntmps = n) (hb : fn.body = some c) (hl : Nat.ble l.length n = true)
    (k : ∀ w0, St w0 h ms → WS ⟨P, w0, h, ms, n, []⟩ c (bodyPost P fn (RP w0 h ms post)) (A4 0 l) h ms) : FnT P f l.toArray h ms post := by
  intro w hw
  refine calls_of_wp hf hb (k w hw _ w ?_ (Ends.refl hw))
  have hl' := Nat.le_of_ble_eq_true hl
  refine ⟨rfl, by simp [hn]; omega, fun i v e => ?_⟩
  obtain ⟨_, h2⟩ := N1 l 0 i v e
  have hi : i < l.length := by
    rcases Nat.lt_or_ge i l.length with h' | h'
    · exact h'
    · rw [List.getElem?_eq_none (by omega)] at h2; cases h2
  simp only [Nat.sub_zero] at h2
  rw [Array.getElem?_append_left (by simpa using hi)]
  simpa using h2
theorem Am {s : Ay} {h : Hp} {ms : List Hp} (hr : fn.results = #[.tmp t]) (hv : lk s t = some v) (hp : post v h ms) :
    NX ⟨P, w0, h0, ms0, n, []⟩ (bodyPost P fn (RP w0 h0 ms0 post)) .ret s h ms := fun a w ha hw =>
  bodyPost_ret (results_tmp hr _ _ _) ha.defers ⟨_, h, ms, rfl, hw, by
    have := ha.eval (.tmp t) v hv
    simp only [Act.eval] at this
    rw [this]; exact hp⟩
theorem FX {s : Ay} {h : Hp} {ms : List Hp} {u : Nat} {v' : Value} (hr : fn.results = #[.tmp t, .tmp u]) (hv : lk s t = some v) (hv' : lk s u = some v') (hp : post (.tuple #[v, v']) h ms) :
    NX ⟨P, w0, h0, ms0, n, []⟩ (bodyPost P fn (RP w0 h0 ms0 post)) .ret s h ms := fun a w ha hw =>
  bodyPost_ret (results_tmp2 hr _ _ _) ha.defers ⟨_, h, ms, rfl, hw, by
    have h1 := ha.eval (.tmp t) v hv
    have h2 := ha.eval (.tmp u) v' hv'
    simp only [Act.eval] at h1 h2
    rw [h1, h2]; exact hp⟩
theorem B6 {s : Ay} {h : Hp} {ms : List Hp} (hr : fn.results = #[]) (hp : post (.tuple #[]) h ms) :
    NX ⟨P, w0, h0, ms0, n, []⟩ (bodyPost P fn (RP w0 h0 ms0 post)) .normal s h ms := fun a w ha hw =>
  bodyPost_end (results_none hr _ _ _) ha.defers ⟨_, h, ms, rfl, hw, hp⟩
theorem NT {s : Ay} {h : Hp} {ms : List Hp} (hr : fn.results = #[]) (hp : post (.tuple #[]) h ms) :
    NX ⟨P, w0, h0, ms0, n, []⟩ (bodyPost P fn (RP w0 h0 ms0 post)) .ret s h ms := fun a w ha hw =>
  bodyPost_ret (results_none hr _ _ _) ha.defers ⟨_, h, ms, rfl, hw, hp⟩
def OpRes (P : Program) (o : Oper) (ρ : Operand → Value) (w : World) (Φ : Value → World → Prop) : Prop :=
  match (execOp ρ o).run P w with
  | .ok (.value v) w' => Φ v w'
  | .ok .skip w' => Φ undef w'
  | .ok (.enter f args) w' => Calls P f args w' (fun x w'' => ∃ v, x = .returned v ∧ Φ v w'')
  | _ => False
theorem OpRes.wp {o : Oper} {w : World} {Φ : Value → World → Prop} {Q : Exit → Act → World → Prop}
    (h : OpRes P o a.eval w Φ) (k : ∀ v w', Φ v w' → K (a.put o.dst v) w') : o.wp P a w K Q := by
  unfold OpRes at h
  unfold Oper.wp
  generalize (execOp a.eval o).run P w = r at *
  cases r with
  | ok x w' =>
    cases x <;> simp only at h <;> simp only [Oper.upon]
    case value v => exact k _ _ h
    case skip => exact k _ _ h
    case enter f args => exact h.mono fun x w'' ⟨v, e, hv⟩ => by subst e; exact k _ _ hv
  | halt x w' => exact h.elim
def Evs (s : Ay) (ρ : Operand → Value) : Prop := ∀ x u, ev s x = some u → ρ x = u
theorem Evs.map {s : Ay} {ρ : Operand → Value} (H : Evs s ρ) : ∀ (l : List Operand) (vs : List Value), MF s l = some vs → l.map ρ = vs
  | [], vs, h => by cases h; rfl
  | x :: l, vs, h => by
    unfold MF at h
    cases hx : ev s x with
    | none => rw [hx] at h; cases h
    | some v =>
      rw [hx] at h
      cases hl : MF s l with
      | none => rw [hl] at h; cases h
      | some us => rw [hl] at h; cases h; rw [List.map_cons, H _ _ hx, H.map l us hl]
theorem Evs.pairs {s : Ay} {ρ : Operand → Value} (H : Evs s ρ) : ∀ (l : List (Nat × Operand)) (vs : List (Nat × Value)), S7 s l = some vs → (l.map fun (i, x) => (i, ρ x)) = vs
  | [], vs, h => by cases h; rfl
  | x :: l, vs, h => by
    unfold S7 at h
    cases hx : ev s x.2 with
    | none => rw [hx] at h; cases h
    | some v =>
      rw [hx] at h
      cases hl : S7 s l with
      | none => rw [hl] at h; cases h
      | some us => rw [hl] at h; cases h; rw [List.map_cons, H.pairs l us hl]; simp [H _ _ hx]
def OX (P : Program) (o : Oper) (s : Ay) (h : Hp) (ms : List Hp) (v : Value) : Prop :=
  ∀ ρ w, Evs s ρ → St w h ms → OpRes P o ρ w (fun v' w' => v' = v ∧ Ext w w')
def OT (e : Entry) (o : Oper) (s : Ay) (h : Hp) (ms : List Hp) (post : Value → Hp → List Hp → Prop) : Prop :=
  ∀ ρ w, Evs s ρ → e.Ends w h ms → OpRes e.P o ρ w (fun v w' => ∃ h' ms', e.Ends w' h' ms' ∧ post v h' ms')
section
variable {e : Entry} {Q : Exit → Act → World → Prop} {s : Ay} {h : Hp} {ms : List Hp} {ops : Array Oper} {o : Oper} {rest : List Oper}
theorem I1 (hg : o.guard = none) (k : ∀ a w, Has e.n e.ds a s → e.Ends w h ms → o.wp e.P a w (wpList e.P ops Q rest) Q) : WL e ops Q (o :: rest) s h ms :=
  fun a w ha hw => by
    unfold wpList
    rw [if_pos (by simp [Region.wanted, hg])]
    exact .inl (k a w ha hw)
theorem VM (hx : OX e.P o s h ms v) (hd : o.dst = some d) (hn : Nat.blt d e.n = true) (hg : o.guard = none) (k : WL e ops Q rest ((d, v) :: s) h ms) :
    WL e ops Q (o :: rest) s h ms :=
  I1 hg fun a w ha hw => (hx a.eval w ha.eval hw.st).wp fun v' w' ⟨e1, e2⟩ => by
    subst e1; rw [hd]
    exact k _ _ (ha.put (Nat.le_of_ble_eq_true hn) _) (hw.ext e2)
theorem G6 (hx : OT e o s h ms post) (hd : o.dst = some d) (hn : Nat.blt d e.n = true) (hg : o.guard = none)
    (k : ∀ v h' ms', post v h' ms' → WL e ops Q rest ((d, v) :: s) h' ms') : WL e ops Q (o :: rest) s h ms :=
  I1 hg fun a w ha hw => (hx a.eval w ha.eval hw).wp fun v' w' ⟨h', ms', e1, e2⟩ => by
    rw [hd]
    exact k _ _ _ e2 _ _ (ha.put (Nat.le_of_ble_eq_true hn) _) e1
theorem Jp (hx : OT e o s h ms post) (hd : o.dst = none) (hg : o.guard = none)
    (k : ∀ v h' ms', post v h' ms' → WL e ops Q rest s h' ms') : WL e ops Q (o :: rest) s h ms :=
  I1 hg fun a w ha hw => (hx a.eval w ha.eval hw).wp fun v' w' ⟨h', ms', e1, e2⟩ => by
    rw [hd]
    exact k _ _ _ e2 _ _ (ha.put_none _) e1
theorem Has.yields (ha : Has n ds a s) (hj : ops[j]? = some oj) (hd : oj.dst = some dj) (hv : lk s dj = some (.bool b)) : yielded ops a.tmps j = some b := by
  simp [yielded, hj, hd, ha.slots dj _ hv]
theorem Um (hx : OX e.P o s h ms v) (hd : o.dst = some d) (hn : Nat.blt d e.n = true) (hg : o.guard = some (j, b)) (hj : ops[j]? = some oj) (hdj : oj.dst = some dj) (hv : lk s dj = some (.bool b))
    (k : WL e ops Q rest ((d, v) :: s) h ms) : WL e ops Q (o :: rest) s h ms := fun a w ha hw => by
  unfold wpList
  rw [if_pos (by simp [Region.wanted, hg, ha.yields hj hdj hv])]
  exact .inl ((hx a.eval w ha.eval hw.st).wp fun v' w' ⟨e1, e2⟩ => by
    subst e1; rw [hd]
    exact k _ _ (ha.put (Nat.le_of_ble_eq_true hn) _) (hw.ext e2))
theorem SY {b' : Bool} (hd : o.dst = some d) (hn : Nat.blt d e.n = true) (hg : o.guard = some (j, b)) (hj : ops[j]? = some oj) (hdj : oj.dst = some dj) (hv : lk s dj = some (.bool b')) (hne : (b' == b) = false)
    (k : WL e ops Q rest ((d, undef) :: s) h ms) : WL e ops Q (o :: rest) s h ms := fun a w ha hw => by
  unfold wpList
  rw [if_neg (by simp [Region.wanted, hg, ha.yields hj hdj hv]; simpa using hne), hd]
  exact k _ _ (ha.put (Nat.le_of_ble_eq_true hn) _) hw
theorem Has.yieldsu (ha : Has n ds a s) (hj : ops[j]? = some oj) (hd : oj.dst = some dj) (hv : lk s dj = some undef) : yielded ops a.tmps j = none := by
  simp [yielded, hj, hd, ha.slots dj _ hv, undef]
theorem LQ (hd : o.dst = some d) (hn : Nat.blt d e.n = true) (hg : o.guard = some (j, b)) (hj : ops[j]? = some oj) (hdj : oj.dst = some dj) (hv : lk s dj = some undef)
    (k : WL e ops Q rest ((d, undef) :: s) h ms) : WL e ops Q (o :: rest) s h ms := fun a w ha hw => by
  unfold wpList
  rw [if_neg (by simp [Region.wanted, hg, ha.yieldsu hj hdj hv]), hd]
  exact k _ _ (ha.put (Nat.le_of_ble_eq_true hn) _) hw
theorem AR {p : Prop} {_ : Decidable p} (hc : lk s t = some (.bool (decide p))) (kt : p → WL e ops Q l ((t, .bool true) :: s) h ms) (kf : ¬ p → WL e ops Q l ((t, .bool false) :: s) h ms) : WL e ops Q l s h ms := by
  by_cases hp : p
  · refine fun a w ha hw => kt hp a w ⟨ha.defers, ha.size, fun i v hi => ?_⟩ hw
    by_cases hi' : t = i
    · subst hi'; rw [Bt] at hi; cases hi; rw [ha.slots t _ hc]; simp [hp]
    · rw [Bq _ _ hi'] at hi; exact ha.slots i v hi
  · refine fun a w ha hw => kf hp a w ⟨ha.defers, ha.size, fun i v hi => ?_⟩ hw
    by_cases hi' : t = i
    · subst hi'; rw [Bt] at hi; cases hi; rw [ha.slots t _ hc]; simp [hp]
    · rw [Bq _ _ hi'] at hi; exact ha.slots i v hi
theorem CO (hc : lk s t = some (.bool b)) (kt : b = true → WL e ops Q l ((t, .bool true) :: s) h ms) (kf : b = false → WL e ops Q l ((t, .bool false) :: s) h ms) : WL e ops Q l s h ms := by
  have e1 : decide (b = true) = b := by cases b <;> rfl
  exact AR (p := b = true) (by rw [hc, e1]) kt (fun hb => kf (by simpa using hb))
end
end Go.Eng
namespace Go.Eng
open Go.RowKit
variable {v : Value} {vs : List Value} {ts : Array TypeId} {d : TypeDesc} {f : FuncId} {l : List Operand} {g : Nat} {e : Entry} {post : Value → Hp → List Hp → Prop}
def Jj : TypeDesc → Bool
  | .struct _ | .array _ _ => true
  | _ => false
theorem F2 {P : Program} {t : TypeId} (h : P.underlying t = some d) (w : World) : (isAgg t).run P w = .ok (Jj d) w := by
  simp only [isAgg, Sem.run_bind, run_underlying h, Result.andThen_ok]
  cases d <;> rfl
def Cell (h : Hp) (ms : List Hp) (p : Addr) (v : Value) : Prop :=
  p.spot = none ∧ ∃ cs el fr, (h p.block = some (.cells cs el fr) ∨ ∃ m ∈ ms, m p.block = some (.cells cs el fr)) ∧ cs[p.off]? = some v
def Seg (h : Hp) (ms : List Hp) (p : Addr) (vs : List Value) : Prop := ∀ j v, vs[j]? = some v → Cell h ms (p.add j) v
def AX (g : Nat) (el : TypeId) (l : List Value) : Hp := Hp.one g (.cells l.toArray el (0, 0))
theorem St.cell {w : World} {h : Hp} {ms : List Hp} (s : St w h ms) {p : Addr} (c : Cell h ms p v) : w.cell? p = some v := by
  obtain ⟨hs, cs, el, fr, hm, hv⟩ := c
  have hb : w.heap[p.block]? = some (.cells cs el fr) := by
    rcases hm with hm | ⟨m, hm, e⟩
    · exact s.imm _ _ hm
    · exact s.own m hm _ _ e
  simp [World.cell?, hb, hs, hv]
theorem Cell.le {h h' : Hp} {ms : List Hp} {p : Addr} (c : Cell h ms p v) (l : h.le h') : Cell h' ms p v :=
  let ⟨hs, cs, el, fr, hm, hv⟩ := c
  ⟨hs, cs, el, fr, hm.imp (l _ _) id, hv⟩
theorem Cell.sub {h : Hp} {ms ms' : List Hp} {p : Addr} (c : Cell h ms p v) (l : ∀ m ∈ ms, m ∈ ms') : Cell h ms' p v :=
  let ⟨hs, cs, el, fr, hm, hv⟩ := c
  ⟨hs, cs, el, fr, hm.imp id (fun ⟨m, e1, e2⟩ => ⟨m, l m e1, e2⟩), hv⟩
theorem Seg.le {h h' : Hp} {ms : List Hp} {p : Addr} (c : Seg h ms p vs) (l : h.le h') : Seg h' ms p vs := fun j v e => (c j v e).le l
theorem Seg.sub {h : Hp} {ms ms' : List Hp} {p : Addr} (c : Seg h ms p vs) (l : ∀ m ∈ ms, m ∈ ms') : Seg h ms' p vs := fun j v e => (c j v e).sub l
theorem Cell.any {h : Hp} {ms : List Hp} {p : Addr} (c : Cell h [] p v) : Cell h ms p v := c.sub (by simp)
theorem Seg.any {h : Hp} {ms : List Hp} {p : Addr} (c : Seg h [] p vs) : Seg h ms p vs := c.sub (by simp)
theorem A6 (p : Addr) (i j : Nat) : (p.add i).add j = p.add (i + j) := by
  unfold Addr.add
  by_cases hi : i = 0 <;> by_cases hj : j = 0 <;> simp [hi, hj, Nat.add_assoc]
theorem DK (p : Addr) : p.add 0 = p := by simp [Addr.add]
theorem C2 (p : Addr) (i : Nat) : (p.add i).block = p.block := by unfold Addr.add; split <;> rfl
theorem Dw (p : Addr) (i : Nat) : (p.add i).off = p.off + i := by unfold Addr.add; split <;> simp_all
theorem Cell.blk {h : Hp} {ms : List Hp} {el : TypeId} {l : List Value} (i : Nat) (hm : ms[i]? = some (AX g el l)) {k : Nat} (hv : l[k]? = some v) : Cell h ms ((⟨g, 0, none⟩ : Addr).add k) v := by
  refine ⟨by unfold Addr.add; split <;> rfl, l.toArray, el, (0, 0), .inr ⟨_, List.mem_of_getElem? hm, ?_⟩, ?_⟩
  · rw [C2]; exact Hp.one_self _ _
  · rw [Dw]; simpa using hv
theorem Cell.blk0 {h : Hp} {ms : List Hp} {el : TypeId} {l : List Value} (i : Nat) (hm : ms[i]? = some (AX g el l)) (hv : l[0]? = some v) : Cell h ms ⟨g, 0, none⟩ v := by
  have := Cell.blk (h := h) i hm (k := 0) hv
  rwa [DK] at this
theorem Seg.blk {h : Hp} {ms : List Hp} {el : TypeId} {l : List Value} (i : Nat) (hm : ms[i]? = some (AX g el l)) : Seg h ms ⟨g, 0, none⟩ l := fun _ _ e => Cell.blk i hm e
theorem Seg.at0 {h : Hp} {ms : List Hp} {p : Addr} (c : Seg h ms p vs) (e : vs[0]? = some v) : Cell h ms p v := by
  have := c 0 v e; rwa [DK] at this
structure Elem (P : Program) (el : TypeId) (sz : Nat) (z : Value) (bytes : Nat) : Prop where
  info : ∃ i, P.info? el = some i ∧ i.zero = some z ∧ i.size = sz ∧ i.bytes = bytes
theorem Elem.of {P : Program} {el : TypeId} {sz : Nat} {z : Value} {bytes : Nat} (h : (P.info? el).map (fun i => (i.zero, i.size, i.bytes)) = some (some z, sz, bytes)) : Elem P el sz z bytes := by
  cases e : P.info? el with
  | none => rw [e] at h; cases h
  | some i => rw [e] at h; simp at h; exact ⟨i, e ▸ rfl, h.1, h.2.1, h.2.2⟩
theorem Elem.sizeOf {P : Program} {el : TypeId} {sz : Nat} {z : Value} {bytes : Nat} (E : Elem P el sz z bytes) (w : World) : (Go.sizeOf el).run P w = .ok sz w := by
  obtain ⟨i, h1, h2, h3, h4⟩ := E.info
  simp [Go.sizeOf, typeInfo, h1, h3]
theorem Elem.zeroValue {P : Program} {el : TypeId} {sz : Nat} {z : Value} {bytes : Nat} (E : Elem P el sz z bytes) (w : World) : (Go.zeroValue el).run P w = .ok z w := by
  obtain ⟨i, h1, h2, h3, h4⟩ := E.info
  simp [Go.zeroValue, typeInfo, h1, h2]
section
variable {P : Program} {o : Oper} {s : Ay} {h : Hp} {ms : List Hp}
theorem BI (k : ∀ ρ w, Evs s ρ → St w h ms → (execOp ρ o).run P w = .ok (.value v) w) : OX P o s h ms v := fun ρ w hρ hw => by
  unfold OpRes; rw [k ρ w hρ hw]; exact ⟨rfl, Ext.refl _⟩
theorem As {x : Operand} (ho : o.op = .move x) (hx : ev s x = some v) : OX P o s h ms v :=
  BI fun ρ w hρ _ => by simp [execOp, ho, hρ _ _ hx]
theorem EX {x : Operand} (ho : o.op = .assign x) (hx : ev s x = some v) : OX P o s h ms v :=
  BI fun ρ w hρ _ => by simp [execOp, ho, hρ _ _ hx]
theorem Jv {c x y : Operand} (ho : o.op = .pick c x y) (hc : ev s c = some (.bool true)) (hx : ev s x = some v) : OX P o s h ms v :=
  BI fun ρ w hρ _ => by simp [execOp, ho, hρ _ _ hc, hρ _ _ hx, asBool]
theorem JJ {c x y : Operand} (ho : o.op = .pick c x y) (hc : ev s c = some (.bool false)) (hx : ev s y = some v) : OX P o s h ms v :=
  BI fun ρ w hρ _ => by simp [execOp, ho, hρ _ _ hc, hρ _ _ hx, asBool]
theorem AC {x : Operand} {i : Nat} {vs : Array Value} (ho : o.op = .extract x i) (hx : ev s x = some (.tuple vs)) (hv : vs[i]? = some v) : OX P o s h ms v :=
  BI fun ρ w hρ _ => by simp [execOp, ho, hρ _ _ hx, Instr.extract, hv]
section
variable {t u : TypeId} {x y : Operand} {k : IntKind} {a b : Int}
theorem Ib (ho : o.op = .binOp .add t x y u) (hx : ev s x = some (.int k a)) (hy : ev s y = some (.int k b)) : OX P o s h ms (.int k (k.wrap (a + b))) :=
  BI fun ρ w hρ _ => by simp [execOp, ho, hρ _ _ hx, hρ _ _ hy, go_sem]
theorem TQ (ho : o.op = .binOp .sub t x y u) (hx : ev s x = some (.int k a)) (hy : ev s y = some (.int k b)) : OX P o s h ms (.int k (k.wrap (a - b))) :=
  BI fun ρ w hρ _ => by simp [execOp, ho, hρ _ _ hx, hρ _ _ hy, go_sem]
theorem TG (ho : o.op = .binOp .mul t x y u) (hx : ev s x = some (.int k a)) (hy : ev s y = some (.int k b)) : OX P o s h ms (.int k (k.wrap (a * b))) :=
  BI fun ρ w hρ _ => by simp [execOp, ho, hρ _ _ hx, hρ _ _ hy, go_sem]
theorem C0 {n : Int} (hn : -9223372036854775808 ≤ n ∧ n ≤ 9223372036854775807) : IntKind.i64.wrap n = n := IntWalk.i64_in n hn
theorem U2 (ho : o.op = .binOp .add t x y u) (hx : ev s x = some (.int .i64 a)) (hy : ev s y = some (.int .i64 b)) (hr : -9223372036854775808 ≤ a + b ∧ a + b ≤ 9223372036854775807) : OX P o s h ms (.int .i64 (a + b)) := by
  have := Ib (P := P) (h := h) (ms := ms) ho hx hy; rwa [C0 hr] at this
theorem UY (ho : o.op = .binOp .sub t x y u) (hx : ev s x = some (.int .i64 a)) (hy : ev s y = some (.int .i64 b)) (hr : -9223372036854775808 ≤ a - b ∧ a - b ≤ 9223372036854775807) : OX P o s h ms (.int .i64 (a - b)) := by
  have := TQ (P := P) (h := h) (ms := ms) ho hx hy; rwa [C0 hr] at this
theorem Vb (ho : o.op = .binOp .mul t x y u) (hx : ev s x = some (.int .i64 a)) (hy : ev s y = some (.int .i64 b)) (hr : -9223372036854775808 ≤ a * b ∧ a * b ≤ 9223372036854775807) : OX P o s h ms (.int .i64 (a * b)) := by
  have := TG (P := P) (h := h) (ms := ms) ho hx hy; rwa [C0 hr] at this
theorem Tu (ho : o.op = .binOp .quo t x y u) (hx : ev s x = some (.int k a)) (hy : ev s y = some (.int k b)) (hb : b ≠ 0) : OX P o s h ms (.int k (k.wrap (a.tdiv b))) :=
  BI fun ρ w hρ _ => by simp [execOp, ho, hρ _ _ hx, hρ _ _ hy, go_sem, hb]
theorem Mw {a b : Int} (ha : -9223372036854775808 ≤ a ∧ a ≤ 9223372036854775807) (hb : 1 ≤ b) : -9223372036854775808 ≤ a.tdiv b ∧ a.tdiv b ≤ 9223372036854775807 := by
  rcases Int.lt_or_le a 0 with h0 | h0
  · have e : a.tdiv b = -((-a) / b) := by rw [tdiv_eq_if]; simp [Int.not_le.2 h0]
    have h1 : (-a) / b ≤ -a := Int.ediv_le_self _ (by omega)
    have h2 : 0 ≤ (-a) / b := Int.ediv_nonneg (by omega) (by omega)
    omega
  · have e : a.tdiv b = a / b := by rw [tdiv_eq_if]; simp [h0]
    have h1 : a / b ≤ a := Int.ediv_le_self _ h0
    have h2 : 0 ≤ a / b := Int.ediv_nonneg h0 (by omega)
    omega
theorem MH (ho : o.op = .binOp .quo t x y u) (hx : ev s x = some (.int .i64 a)) (hy : ev s y = some (.int .i64 b)) (ha : -9223372036854775808 ≤ a ∧ a ≤ 9223372036854775807) (hb : 1 ≤ b) : OX P o s h ms (.int .i64 (a.tdiv b)) := by
  have := Tu (P := P) (h := h) (ms := ms) ho hx hy (by omega); rwa [C0 (Mw ha hb)] at this
theorem Tp (ho : o.op = .binOp .quo t x y u) (hx : ev s x = some (.int .i64 a)) (hy : ev s y = some (.int .i64 b)) (ha : 0 ≤ a ∧ a ≤ 9223372036854775807) (hb : 1 ≤ b) : OX P o s h ms (.int .i64 (a / b)) := by
  have := MH (P := P) (h := h) (ms := ms) ho hx hy (by omega) hb
  have e : a.tdiv b = a / b := by rw [tdiv_eq_if]; simp [ha.1]
  rwa [e] at this
theorem Mq (ho : o.op = .binOp .rem t x y u) (hx : ev s x = some (.int k a)) (hy : ev s y = some (.int k b)) (hb : b ≠ 0) : OX P o s h ms (.int k (a.tmod b)) :=
  BI fun ρ w hρ _ => by simp [execOp, ho, hρ _ _ hx, hρ _ _ hy, go_sem, hb]
theorem B0 (ho : o.op = .binOp .rem t x y u) (hx : ev s x = some (.int k a)) (hy : ev s y = some (.int k b)) (ha : 0 ≤ a) (hb : 1 ≤ b) : OX P o s h ms (.int k (a % b)) := by
  have := Mq (P := P) (h := h) (ms := ms) ho hx hy (by omega)
  have e : a.tmod b = a % b := by rw [tmod_eq_if]; simp [ha]
  rwa [e] at this
theorem Dy (ho : o.op = .binOp .lss t x y u) (hx : ev s x = some (.int k a)) (hy : ev s y = some (.int k b)) : OX P o s h ms (.bool (decide (a < b))) :=
  BI fun ρ w hρ _ => by simp [execOp, ho, hρ _ _ hx, hρ _ _ hy, go_sem]
theorem JX (ho : o.op = .binOp .leq t x y u) (hx : ev s x = some (.int k a)) (hy : ev s y = some (.int k b)) : OX P o s h ms (.bool (decide (a ≤ b))) :=
  BI fun ρ w hρ _ => by simp [execOp, ho, hρ _ _ hx, hρ _ _ hy, go_sem]
theorem Dd (ho : o.op = .binOp .gtr t x y u) (hx : ev s x = some (.int k a)) (hy : ev s y = some (.int k b)) : OX P o s h ms (.bool (decide (b < a))) :=
  BI fun ρ w hρ _ => by simp [execOp, ho, hρ _ _ hx, hρ _ _ hy, go_sem]
theorem DU (ho : o.op = .binOp .geq t x y u) (hx : ev s x = some (.int k a)) (hy : ev s y = some (.int k b)) : OX P o s h ms (.bool (decide (b ≤ a))) :=
  BI fun ρ w hρ _ => by simp [execOp, ho, hρ _ _ hx, hρ _ _ hy, go_sem]
theorem EJ (ho : o.op = .binOp .eql t x y u) (hx : ev s x = some (.int k a)) (hy : ev s y = some (.int k b)) : OX P o s h ms (.bool (decide (a = b))) :=
  BI fun ρ w hρ _ => by simp [execOp, ho, hρ _ _ hx, hρ _ _ hy, go_sem]; rfl
theorem B4 (ho : o.op = .binOp .neq t x y u) (hx : ev s x = some (.int k a)) (hy : ev s y = some (.int k b)) : OX P o s h ms (.bool (decide (a ≠ b))) :=
  BI fun ρ w hρ _ => by simp [execOp, ho, hρ _ _ hx, hρ _ _ hy, go_sem]; rfl
theorem Vd (ho : o.op = .unOp .neg t x) (hx : ev s x = some (.int .i64 a)) (hr : -9223372036854775807 ≤ a ∧ a ≤ 9223372036854775807) : OX P o s h ms (.int .i64 (-a)) :=
  BI fun ρ w hρ _ => by
    have := C0 (n := -a) (by omega)
    simp [execOp, ho, hρ _ _ hx, Op.unary, Op.intArith, this]
theorem TI {k' : IntKind} (ho : o.op = .convert t u x) (ht : P.underlying t = some d) (hu : P.underlying u = some (.int k')) (hx : ev s x = some (.int k a)) (hr : k'.wrap a = a) : OX P o s h ms (.int k' a) :=
  BI fun ρ w hρ _ => by simp [execOp, ho, hρ _ _ hx, convert, run_underlying ht, run_underlying hu, Conv.intToInt, hr]
theorem DQ {k' : IntKind} (ho : o.op = .convert t u x) (ht : P.underlying t = some d) (hu : P.underlying u = some (.int k')) (hx : ev s x = some (.int k a)) : OX P o s h ms (.int k' (k'.wrap a)) :=
  BI fun ρ w hρ _ => by simp [execOp, ho, hρ _ _ hx, convert, run_underlying ht, run_underlying hu, Conv.intToInt]
theorem JV {k' : IntKind} (ho : o.op = .call { callee := .builtin .max, args := #[x, y], argTypes := ts }) (hx : ev s x = some (.int k a)) (hy : ev s y = some (.int k' b)) : OX P o s h ms (.int k (max a b)) :=
  BI fun ρ w hρ _ => by
    have : (if b > a then b else a) = max a b := by omega
    simp [execOp, ho, hρ _ _ hx, hρ _ _ hy, resolve, invoke, builtin, run_max_int2, this]
theorem MX {k' : IntKind} (ho : o.op = .call { callee := .builtin .min, args := #[x, y], argTypes := ts }) (hx : ev s x = some (.int k a)) (hy : ev s y = some (.int k' b)) : OX P o s h ms (.int k (min a b)) :=
  BI fun ρ w hρ _ => by
    have : (if b < a then b else a) = min a b := by omega
    simp [execOp, ho, hρ _ _ hx, hρ _ _ hy, resolve, invoke, builtin, run_min_int2, this]
end
section
variable {t u : TypeId} {x y : Operand} {a b : Bool}
theorem UQ (ho : o.op = .binOp .neq t x y u) (ht : P.underlying t = some .bool) (hx : ev s x = some (.bool a)) (hy : ev s y = some (.bool b)) : OX P o s h ms (.bool (decide (a ≠ b))) :=
  BI fun ρ w hρ _ => by simp [execOp, ho, hρ _ _ hx, hρ _ _ hy, go_sem, run_neq_bool _ _ _ _ ht]; cases a <;> cases b <;> rfl
theorem CP (ho : o.op = .unOp .not t x) (hx : ev s x = some (.bool a)) : OX P o s h ms (.bool (!a)) :=
  BI fun ρ w hρ _ => by simp [execOp, ho, hρ _ _ hx, Op.unary]
end
section
variable {t el : TypeId} {x y : Operand} {p : Addr} {len cap sz : Nat} {k : IntKind}
theorem Dz {z : Value} {bytes : Nat} {i : Int} (j : Nat) (ho : o.op = .indexAddr t x y) (ht : P.underlying t = some (.slice el)) (hs : Elem P el sz z bytes) (hx : ev s x = some (.slice (some p) len cap)) (hy : ev s y = some (.int k i)) (hi : i = (j : Int)) (hlt : j < len) :
    OX P o s h ms (.pointer (some (p.add (j * sz)))) :=
  BI fun ρ w hρ _ => by
    have h1 : (0 : Int) ≤ i ∧ i < (len : Int) := by omega
    have h2 : i.toNat = j := by omega
    simp [execOp, ho, hρ _ _ hx, hρ _ _ hy, Instr.indexAt, run_underlying ht, asIntOf, h1, h2, hs.sizeOf]
theorem C8 {z : Value} {bytes : Nat} {i : Int} (j : Nat) (ho : o.op = .indexAddr t x y) (ht : P.underlying t = some (.array len el)) (hs : Elem P el sz z bytes) (hx : ev s x = some (.pointer (some p))) (hy : ev s y = some (.int k i)) (hi : i = (j : Int)) (hlt : j < len) :
    OX P o s h ms (.pointer (some (p.add (j * sz)))) :=
  BI fun ρ w hρ _ => by
    have h1 : (0 : Int) ≤ i ∧ i < (len : Int) := by omega
    have h2 : i.toNat = j := by omega
    simp [execOp, ho, hρ _ _ hx, hρ _ _ hy, Instr.indexAt, run_underlying ht, Instr.sureAddr, asIntOf, h1, h2, hs.sizeOf]
theorem PN {fs : Array Field} {f : Field} {n i : Nat} (ho : o.op = .fieldAddr t x i) (ht : P.underlying t = some (.struct fs)) (hf : fs[i]? = some f) (hs : ∀ w, (sizeOf f.type).run P w = .ok (n + 1) w) (hx : ev s x = some (.pointer (some p))) :
    OX P o s h ms (.pointer (some (p.add f.offset))) :=
  BI fun ρ w hρ _ => by simp [execOp, ho, hρ _ _ hx, Instr.fieldAt, run_underlying ht, hf, Instr.sureAddr, fieldPlace, hs]
theorem AM (ho : o.op = .load t x) (ht : P.underlying t = some d) (hd : Jj d = false) (hx : ev s x = some (.pointer (some p))) (hc : Cell h ms p v) : OX P o s h ms v :=
  BI fun ρ w hρ hw => by
    have ha : (isAgg t).run P w = .ok false w := by rw [F2 ht, hd]
    simp [execOp, ho, hρ _ _ hx, Instr.loadAt, Instr.sureAddr, loadVar, ha, hw.cell hc]
theorem Du {z : Value} {bytes : Nat} (ho : o.op = .load t x) (ht : P.underlying t = some d) (hd : Jj d = true) (hs : Elem P t sz z bytes) (hl : vs.length = sz) (hx : ev s x = some (.pointer (some p))) (hc : Seg h ms p vs) : OX P o s h ms (.agg vs.toArray) :=
  BI fun ρ w hρ hw => by
    have ha : (isAgg t).run P w = .ok true w := by rw [F2 ht, hd]
    have hc' : ∀ j v, vs[j]? = some v → w.cell? (p.add j) = some v := fun j v e => hw.cell (hc j v e)
    subst hl
    simp [execOp, ho, hρ _ _ hx, Instr.loadAt, Instr.sureAddr, loadVar, ha, hs.sizeOf, run_loadCells_list (P := P) w p vs hc']
theorem H0 (ho : o.op = .nilCheck x) (hx : ev s x = some (.pointer (some p))) : OX P o s h ms (.pointer (some p)) :=
  BI fun ρ w hρ _ => by simp [execOp, ho, hρ _ _ hx]
theorem Ml {ty : TypeId} {a : Option Addr} (ho : o.op = .call { callee := .builtin .len, args := #[x], argTypes := #[t] }) (ht : P.underlying t = some (.slice el)) (hx : ev s x = some (.slice a len cap)) : OX P o s h ms (.int .i64 len) :=
  BI fun ρ w hρ _ => by simp [execOp, ho, hρ _ _ hx, resolve, invoke, builtin, Builtin.len_, run_underlying ht, goInt]
def FG : List Value → Nat → List Value → List Value
  | l, _, [] => l
  | l, k, v :: vs => FG (l.set k v) (k + 1) vs
def LD : List Value → List (Nat × List Value) → List Value
  | l, [] => l
  | l, (k, vs) :: r => LD (FG l k vs) r
theorem MV (vs : List Value) : ∀ (k off : Nat) (l : List Value), (List.foldl (fun (cs : Array Value) (c : Value × Nat) => cs.setIfInBounds (off + c.2) c.1) l.toArray (vs.zipIdx k)) = (FG l (off + k) vs).toArray := by
  induction vs with
  | nil => intro k off l; rfl
  | cons v vs ih =>
    intro k off l
    simp only [List.zipIdx_cons, List.foldl_cons, List.setIfInBounds_toArray]
    rw [ih (k + 1) off]; rfl
def Gr (place : Nat → Option (Nat × Nat)) (n : Nat) : List (Nat × Value) → List (Nat × List Value) → Prop
  | [], [] => True
  | p :: ps, q :: qs => (p.2.cells = q.2.toArray ∧ place p.1 = some (q.1, q.2.length) ∧ Nat.ble (q.1 + q.2.length) n = true) ∧ Gr place n ps qs
  | _, _ => False
theorem Gk : ∀ (vs : List Value) (l : List Value) (k : Nat), (FG l k vs).length = l.length
  | [], _, _ => rfl
  | v :: vs, l, k => by simp only [FG]; rw [Gk vs]; simp
theorem FP (place : Nat → Option (Nat × Nat)) : ∀ (parts : List (Nat × Value)) (l : List Value) (ps : List (Nat × List Value)), Gr place l.length parts ps → Instr.fill place l.toArray parts = some (LD l ps).toArray
  | [], l, [], _ => rfl
  | [], _, _ :: _, h => h.elim
  | _ :: _, _, [], h => h.elim
  | (i, v) :: parts, l, (off, vs) :: ps, h => by
    obtain ⟨⟨h1, h2, h3⟩, h4⟩ := h
    simp only at h1 h2 h3
    have h3' := Nat.le_of_ble_eq_true h3
    simp only [Instr.fill, h2, h1, List.size_toArray]
    rw [if_neg (by simp; omega)]
    rw [← Array.foldl_toList]
    simp only [Array.toList_zipIdx]
    rw [MV vs 0 off l, Nat.add_zero]
    exact FP place parts _ ps (by rw [Gk]; exact h4)
theorem Sz {fs : Array Field} {z : Value} {bytes : Nat} {lp : List (Nat × Operand)} {vs : List (Nat × Value)} {places : Array (Nat × Nat)} (zl : List Value) (ps : List (Nat × List Value)) (vl : List Value) (ho : o.op = .build t lp.toArray) (ht : P.underlying t = some (.struct fs)) (hs : Elem P t sz z bytes) (hz : z.cells = zl.toArray)
    (hpl : ∀ w, (fs.mapM fun f => do pure (f.offset, ← sizeOf f.type) : Sem (Array (Nat × Nat))).run P w = .ok places w) (hv : S7 s lp = some vs)
    (hps : Gr (places[·]?) zl.length vs ps) (hvl : LD zl ps = vl) : OX P o s h ms (.agg vl.toArray) :=
  BI fun ρ w hρ _ => by
    have hf := FP (places[·]?) vs zl ps hps
    have hm : (lp.toArray.map fun (i, x) => (i, ρ x)) = vs.toArray := by
      rw [List.map_toArray, hρ.pairs lp vs hv]
    have hpl' := hpl w
    simp only [execOp, ho, hm]
    simp only [Instr.build, Sem.run_bind, hs.zeroValue, run_underlying ht, hz, Result.andThen_ok, hpl', hf, Sem.run_pure, hvl]
theorem EO {n : Nat} {z : Value} {bytes bytes' : Nat} {zt : Value} {lp : List (Nat × Operand)} {vs : List (Nat × Value)} {szt : Nat} (zl : List Value) (ps : List (Nat × List Value)) (vl : List Value) (ho : o.op = .build t lp.toArray) (ht : P.underlying t = some (.array n el)) (hs : Elem P t szt zt bytes) (hz : zt.cells = zl.toArray) (hel : Elem P el sz z bytes') (hv : S7 s lp = some vs)
    (hps : Gr (fun i => some (i * sz, sz)) zl.length vs ps) (hvl : LD zl ps = vl) : OX P o s h ms (.agg vl.toArray) :=
  BI fun ρ w hρ _ => by
    have hf := FP (fun i => some (i * sz, sz)) vs zl ps hps
    have hm : (lp.toArray.map fun (i, x) => (i, ρ x)) = vs.toArray := by
      rw [List.map_toArray, hρ.pairs lp vs hv]
    simp only [execOp, ho, hm]
    simp only [Instr.build, Sem.run_bind, hs.zeroValue, run_underlying ht, hz, Result.andThen_ok, hel.sizeOf, hf, Sem.run_pure, hvl]
theorem CE {fn : Fn} {lf lc : List Operand} {vf vc : List Value} (ho : o.op = .makeFunc fn lf.toArray lc.toArray) (hf : MF s lf = some vf) (hc : MF s lc = some vc) : OX P o s h ms (.func fn vf.toArray vc.toArray) :=
  BI fun ρ w hρ _ => by simp [execOp, ho, hρ.map _ _ hf, hρ.map _ _ hc, Instr.makeFunc]
end
section
variable {t el : TypeId} {x lo hi : Operand} {p : Addr} {len cap sz : Nat} {k k' : IntKind} {z : Value} {bytes : Nat}
end
theorem AG (ho : o.op = .call { callee := .value (.func f), args := l.toArray, argTypes := ts }) (hc : ∀ az w, (callFunc f az).run P w = .ok (.enter f az) w) (ha : MF s l = some vs) (k : Dq P f vs.toArray h ms v) : OX P o s h ms v :=
  fun ρ w hρ hw => by
    have hev : ρ (.func f) = .func (.func f) #[] #[] := hρ _ _ rfl
    have : (execOp ρ o).run P w = .ok (.enter f vs.toArray) w := by simp [execOp, ho, resolve, hev, Deferred.ofValue, invoke, hc, hρ.map l vs ha]
    unfold OpRes; rw [this]
    exact (k w hw).mono fun x w' ⟨e1, e2⟩ => ⟨v, e1, rfl, e2⟩
theorem NU {pre fr : List Hp} (ho : o.op = .call { callee := .value (.func f), args := l.toArray, argTypes := ts }) (hc : ∀ az w, (callFunc f az).run e.P w = .ok (.enter f az) w) (ha : MF s l = some vs) (k : FnT e.P f vs.toArray h pre post) :
    OT e o s h (pre ++ fr) (fun v h' ms' => ∃ pre', ms' = pre' ++ fr ∧ h.le h' ∧ post v h' pre') :=
  fun ρ w hρ hw => by
    have hev : ρ (.func f) = .func (.func f) #[] #[] := hρ _ _ rfl
    have : (execOp ρ o).run e.P w = .ok (.enter f vs.toArray) w := by simp [execOp, ho, resolve, hev, Deferred.ofValue, invoke, hc, hρ.map l vs ha]
    unfold OpRes; rw [this]
    exact (k w hw.st.pre).mono fun x w' ⟨r, h', pre', e1, e2, e3⟩ => ⟨r, e1, h', pre' ++ fr, Ends.call hw e2, pre', rfl, e2.le, e3⟩
theorem En {x : Operand} {fs cs : List Value} (ho : o.op = .call { callee := .value x, args := l.toArray, argTypes := ts }) (hx : ev s x = some (.func (.func f) fs.toArray cs.toArray)) (hc : ∀ az w, (callFunc f az).run P w = .ok (.enter f az) w) (ha : MF s l = some vs) (k : Dq P f (fs ++ vs ++ cs).toArray h ms v) : OX P o s h ms v :=
  fun ρ w hρ hw => by
    have : (execOp ρ o).run P w = .ok (.enter f (fs ++ vs ++ cs).toArray) w := by simp [execOp, ho, resolve, hρ _ _ hx, Deferred.ofValue, invoke, hc, hρ.map l vs ha]
    unfold OpRes; rw [this]
    exact (k w hw).mono fun x w' ⟨e1, e2⟩ => ⟨v, e1, rfl, e2⟩
theorem E4 {Q : Exit → Act → World → Prop} {ops : Array Oper} {rest : List Oper} {d : Nat} (ho : o.op = .call { callee := .value (.func f), args := l.toArray, argTypes := ts }) (hc : ∀ az w, (callFunc f az).run e.P w = .ok (.enter f az) w) (ha : MF s l = some vs) (k : FnT e.P f vs.toArray h [] post) (hd : o.dst = some d) (hn : Nat.blt d e.n = true) (hg : o.guard = none)
    (K : ∀ v h' pre', h.le h' → post v h' pre' → WL e ops Q rest ((d, v) :: s) h' (pre' ++ ms)) : WL e ops Q (o :: rest) s h ms :=
  G6 (NU (fr := ms) ho hc ha k) hd hn hg fun v h' ms' ⟨pre', e1, e2, e3⟩ => by subst e1; exact K v h' pre' e2 e3
theorem Bs {Q : Exit → Act → World → Prop} {ops : Array Oper} {rest : List Oper} {d : Nat} {pre fr : List Hp} (ho : o.op = .call { callee := .value (.func f), args := l.toArray, argTypes := ts }) (hc : ∀ az w, (callFunc f az).run e.P w = .ok (.enter f az) w) (ha : MF s l = some vs) (k : FnT e.P f vs.toArray h pre post) (hm : ms = pre ++ fr) (hd : o.dst = some d) (hn : Nat.blt d e.n = true) (hg : o.guard = none)
    (K : ∀ v h' pre', h.le h' → post v h' pre' → WL e ops Q rest ((d, v) :: s) h' (pre' ++ fr)) : WL e ops Q (o :: rest) s h ms := by
  subst hm
  exact G6 (NU ho hc ha k) hd hn hg fun v h' ms' ⟨pre', e1, e2, e3⟩ => by subst e1; exact K v h' pre' e2 e3
end
end Go.Eng
namespace Go.Eng
open Go.RowKit
variable {sz bytes n d g : Nat} {v z : Value} {el t : TypeId} {cs l : List Value} {x y : Operand} {m : Hp}
theorem EU {α : Type} (l : List α) (i : Nat) (x y : α) (h : l[i]? = some x) : ∃ r, l.Perm (x :: r) ∧ (l.set i y).Perm (y :: r) := by
  induction l generalizing i with
  | nil => cases h
  | cons a l ih =>
    cases i with
    | zero => simp at h; subst h; exact ⟨l, List.Perm.refl _, List.Perm.refl _⟩
    | succ i =>
      simp at h
      obtain ⟨r, h1, h2⟩ := ih i h
      exact ⟨a :: r, (h1.cons a).trans (List.Perm.swap _ _ _), by rw [List.set_cons_succ]; exact (h2.cons a).trans (List.Perm.swap _ _ _)⟩
structure Rd (h : Hp) (ms : List Hp) (v : Value) (sz n : Nat) (cs : List Value) : Prop where
  ex : ∃ a c, v = .slice a n c ∧ n ≤ c ∧ c ≤ 9223372036854775807 ∧ cs.length = n * sz ∧ (0 < n → ∃ q, a = some q ∧ Seg h ms q cs)
def Own (el : TypeId) (sz : Nat) (m : Hp) (v : Value) (n : Nat) (cs : List Value) : Prop :=
  cs.length = n * sz ∧ ((v = .slice none 0 0 ∧ n = 0 ∧ m = Hp.emp) ∨
    ∃ g cap spare, v = .slice (some ⟨g, 0, none⟩) n cap ∧ m = AX g el (cs ++ spare) ∧ (cs ++ spare).length = cap * sz ∧ n ≤ cap ∧ cap ≤ 9223372036854775807)
theorem Rd.le {h h' : Hp} {ms : List Hp} (R : Rd h ms v sz n cs) (l : h.le h') : Rd h' ms v sz n cs := by
  obtain ⟨a, c, e1, e2, e3, e4, e5⟩ := R.ex
  exact ⟨a, c, e1, e2, e3, e4, fun hn => let ⟨q, q1, q2⟩ := e5 hn; ⟨q, q1, q2.le l⟩⟩
theorem Rd.sub {h : Hp} {ms ms' : List Hp} (R : Rd h ms v sz n cs) (l : ∀ m ∈ ms, m ∈ ms') : Rd h ms' v sz n cs := by
  obtain ⟨a, c, e1, e2, e3, e4, e5⟩ := R.ex
  exact ⟨a, c, e1, e2, e3, e4, fun hn => let ⟨q, q1, q2⟩ := e5 hn; ⟨q, q1, q2.sub l⟩⟩
theorem Rd.any {h : Hp} {ms : List Hp} (R : Rd h [] v sz n cs) : Rd h ms v sz n cs := R.sub (by simp)
theorem Rd.nil (h : Hp) (ms : List Hp) (sz : Nat) : Rd h ms (.slice none 0 0) sz 0 [] := ⟨none, 0, rfl, Nat.le_refl _, by omega, by simp, fun h => by omega⟩
theorem Own.nil (el : TypeId) (sz : Nat) : Own el sz Hp.emp (.slice none 0 0) 0 [] := ⟨by simp, .inl ⟨rfl, rfl, rfl⟩⟩
theorem Own.rd (O : Own el sz m v n cs) {h : Hp} {ms : List Hp} (hm : m ∈ ms) : Rd h ms v sz n cs := by
  obtain ⟨h1, h2⟩ := O
  rcases h2 with ⟨rfl, rfl, rfl⟩ | ⟨g, cap, spare, rfl, rfl, e1, e2, e3⟩
  · exact ⟨none, 0, rfl, Nat.le_refl _, by omega, h1, fun h => by omega⟩
  · refine ⟨_, cap, rfl, e2, e3, h1, fun _ => ⟨_, rfl, fun j v hv => ?_⟩⟩
    obtain ⟨i, hi⟩ := List.getElem?_of_mem hm
    exact Cell.blk i hi (by rw [List.getElem?_append_left (List.getElem?_eq_some_iff.1 hv).1]; exact hv)
theorem Own.rdh (O : Own el sz m v n cs) {h : Hp} {ms : List Hp} (hm : m.le h) : Rd h ms v sz n cs := by
  obtain ⟨h1, h2⟩ := O
  rcases h2 with ⟨rfl, rfl, rfl⟩ | ⟨g, cap, spare, rfl, rfl, e1, e2, e3⟩
  · exact ⟨none, 0, rfl, Nat.le_refl _, by omega, h1, fun h => by omega⟩
  · refine ⟨_, cap, rfl, e2, e3, h1, fun _ => ⟨_, rfl, fun j v hv => ?_⟩⟩
    refine ⟨by unfold Addr.add; split <;> rfl, (cs ++ spare).toArray, el, (0, 0), .inl (hm _ _ ?_), ?_⟩
    · rw [C2]; exact Hp.one_self _ _
    · rw [Dw]
      have := (List.getElem?_eq_some_iff.1 hv).1
      simp only [Nat.zero_add, List.getElem?_toArray]
      rw [List.getElem?_append_left this]; exact hv
theorem Ends.put {w0 w w' : World} {h0 h : Hp} {ms0 ms : List Hp} {i : Nat} {l' : List Value} (H : Ends w0 h0 ms0 w h ms) (hm : ms[i]? = some (AX g el l))
    (hos : w'.os = w.os) (htape : TL w w') (hout : w'.output = w.output) (hsize : w.heap.size ≤ w'.heap.size)
    (hg : w'.heap[g]? = some (.cells l'.toArray el (0, 0))) (hother : ∀ k, k < w.heap.size → k ≠ g → w'.heap[k]? = w.heap[k]?) : Ends w0 h0 ms0 w' h (ms.set i (AX g el l')) := by
  obtain ⟨r, p1, p2⟩ := EU ms i (AX g el l) (AX g el l') hm
  exact Ends.perm (Ends.change (H.perm p1) hos htape hout hsize hg hother) p2.symm
section
variable {P : Program} {o : Oper} {s : Ay} {h : Hp} {ms : List Hp} {e : Entry} {Q : Exit → Act → World → Prop} {ops : Array Oper} {rest : List Oper}
theorem QV (zl : List Value) (ho : o.op = .alloc t) (hs : Elem e.P t sz z bytes) (hz : z.cells = zl.toArray) :
    OT e o s h ms (fun v h' ms' => ∃ g, v = .pointer (some ⟨g, 0, none⟩) ∧ h' = h ∧ ms' = AX g t zl :: ms) := fun ρ w hρ hw => by
  have : (execOp ρ o).run e.P w = .ok (.value (.pointer (some ⟨w.heap.size, 0, none⟩))) (w.alloc (.cells zl.toArray t)) := by
    simp [execOp, ho, Instr.alloc, hs.zeroValue, newVar, newRow, hz]
  unfold OpRes; rw [this]
  exact ⟨h, _, Ends.alloc hw _, _, rfl, rfl, rfl⟩
theorem Rq (zl : List Value) (ho : o.op = .alloc t) (hs : Elem e.P t sz z bytes) (hz : z.cells = zl.toArray) (hd : o.dst = some d) (hn : Nat.blt d e.n = true) (hg : o.guard = none)
    (k : ∀ g, WL e ops Q rest ((d, .pointer (some ⟨g, 0, none⟩)) :: s) h (AX g t zl :: ms)) : WL e ops Q (o :: rest) s h ms :=
  G6 (QV zl ho hs hz) hd hn hg fun _ _ _ ⟨g, e1, e2, e3⟩ => by subst e1 e2 e3; exact k g
theorem AS (zl : List Value) (ho : o.op = .box t x) (hx : ev s x = some v) (hz : v.cells = zl.toArray) (hd : o.dst = some d) (hn : Nat.blt d e.n = true) (hg : o.guard = none)
    (k : ∀ g, WL e ops Q rest ((d, .pointer (some ⟨g, 0, none⟩)) :: s) h (AX g t zl :: ms)) : WL e ops Q (o :: rest) s h ms :=
  G6 (post := fun v h' ms' => ∃ g, v = .pointer (some ⟨g, 0, none⟩) ∧ h' = h ∧ ms' = AX g t zl :: ms) (fun ρ w hρ hw => by
    have : (execOp ρ o).run e.P w = .ok (.value (.pointer (some ⟨w.heap.size, 0, none⟩))) (w.alloc (.cells zl.toArray t)) := by
      simp [execOp, ho, hρ _ _ hx, Instr.box, newVar, newRow, hz]
    unfold OpRes; rw [this]
    exact ⟨h, _, Ends.alloc hw _, _, rfl, rfl, rfl⟩) hd hn hg fun _ _ _ ⟨g, e1, e2, e3⟩ => by subst e1 e2 e3; exact k g
theorem FK {vs : List (Nat × Value)} (ps : List (Nat × List Value)) (zl vl : List Value) (ht : P.underlying t = some (.slice el)) (hs : Elem P el sz z bytes) (hb : n * sz ≤ 16777216)
    (hz : (Array.range (n * sz)).map (fun i => (if n * sz = 0 then #[] else z.cells)[i % (if n * sz = 0 then #[] else z.cells).size]!) = zl.toArray) (hps : Gr (fun i => some (i * sz, sz)) zl.length vs ps) (hvl : LD zl ps = vl) (w : World) :
    (Instr.buildSlice t n vs.toArray).run P w = .ok (.slice (some ⟨w.heap.size, 0, none⟩) n n) (w.alloc (.cells vl.toArray el)) := by
  have hf := FP (fun i => some (i * sz, sz)) vs zl ps hps
  have hb' : ¬ (n * sz > 2 ^ 24) := by omega
  rw [hvl, ← hz] at hf
  simp only [Instr.buildSlice, Sem.run_bind, run_underlying ht, Result.andThen_ok, hs.sizeOf]
  rw [if_neg hb']
  by_cases h0 : n * sz = 0
  · simp only [h0, if_true] at hf ⊢
    simp only [Sem.run_bind, Sem.run_pure, Result.andThen_ok, hf, newRow, run_newObj]; rfl
  · simp only [h0, if_false] at hf ⊢
    simp only [Sem.run_bind, Sem.run_pure, Result.andThen_ok, hs.zeroValue, hf, newRow, run_newObj]; rfl
theorem II : ∀ (vs l : List Value) (k : Nat), k + vs.length ≤ l.length → FG l k vs = l.take k ++ vs ++ l.drop (k + vs.length)
  | [], l, k, h => by simp [FG]
  | v :: vs, l, k, h => by
    simp only [FG]
    have hk : k < l.length := by simp at h; omega
    rw [II vs _ _ (by simp at h ⊢; omega)]
    rw [List.take_add_one, List.take_set_of_le (by omega), List.drop_set_of_lt (by omega)]
    have e1 : (l.set k v)[k]? = some v := by rw [List.getElem?_set]; simp only [if_true]; rw [if_pos hk]
    have e2 : k + 1 + vs.length = k + (v :: vs).length := by simp; omega
    rw [e1, e2]; simp
theorem Fs (zl : List Value) (ht : P.underlying t = some (.slice el)) (hs : Elem P el sz z bytes) (hv : v.cells = zl.toArray) (hl : zl.length = sz) (hzs : z.cells.size = sz) (hsz : 0 < sz ∧ sz ≤ 1000) (w : World) :
    (Instr.buildSlice t 1 #[(0, v)]).run P w = .ok (.slice (some ⟨w.heap.size, 0, none⟩) 1 1) (w.alloc (.cells zl.toArray el)) := by
  refine FK (vs := [(0, v)]) [(0, zl)] ((List.range (1 * sz)).map (fun i => (if 1 * sz = 0 then #[] else z.cells)[i % (if 1 * sz = 0 then #[] else z.cells).size]!)) zl ht hs (by omega) (by apply Array.ext'; simp) ?_ ?_ w
  · refine ⟨⟨hv, by simp [hl], ?_⟩, trivial⟩
    simp [hl]
  · simp only [LD]
    rw [II _ _ _ (by simp [hl])]
    simp [hl]
theorem AB (zl : List Value) (ho : o.op = .buildSlice t 1 #[(0, x)]) (ht : e.P.underlying t = some (.slice el)) (hs : Elem e.P el sz z bytes) (hx : ev s x = some v) (hv : v.cells = zl.toArray) (hl : zl.length = sz) (hzs : z.cells.size = sz) (hsz : 0 < sz ∧ sz ≤ 1000) (hd : o.dst = some d) (hn : Nat.blt d e.n = true) (hg : o.guard = none)
    (k : ∀ g, WL e ops Q rest ((d, .slice (some ⟨g, 0, none⟩) 1 1) :: s) h (AX g el zl :: ms)) : WL e ops Q (o :: rest) s h ms :=
  G6 (post := fun v h' ms' => ∃ g, v = .slice (some ⟨g, 0, none⟩) 1 1 ∧ h' = h ∧ ms' = AX g el zl :: ms) (fun ρ w hρ hw => by
    have : (execOp ρ o).run e.P w = .ok (.value (.slice (some ⟨w.heap.size, 0, none⟩) 1 1)) (w.alloc (.cells zl.toArray el)) := by
      simp [execOp, ho, hρ _ _ hx, Fs zl ht hs hv hl hzs hsz]
    unfold OpRes; rw [this]
    exact ⟨h, _, Ends.alloc hw _, _, rfl, rfl, rfl⟩) hd hn hg fun _ _ _ ⟨g, e1, e2, e3⟩ => by subst e1 e2 e3; exact k g
theorem AZ {lp : List (Nat × Operand)} {vs : List (Nat × Value)} (ps : List (Nat × List Value)) (zl vl : List Value) (ho : o.op = .buildSlice t n lp.toArray) (ht : e.P.underlying t = some (.slice el)) (hs : Elem e.P el sz z bytes)
    (hv : S7 s lp = some vs) (hb : n * sz ≤ 16777216) (hz : (Array.range (n * sz)).map (fun i => (if n * sz = 0 then #[] else z.cells)[i % (if n * sz = 0 then #[] else z.cells).size]!) = zl.toArray) (hps : Gr (fun i => some (i * sz, sz)) zl.length vs ps) (hvl : LD zl ps = vl) (hd : o.dst = some d) (hn : Nat.blt d e.n = true) (hg : o.guard = none)
    (k : ∀ g, WL e ops Q rest ((d, .slice (some ⟨g, 0, none⟩) n n) :: s) h (AX g el vl :: ms)) : WL e ops Q (o :: rest) s h ms :=
  G6 (post := fun v h' ms' => ∃ g, v = .slice (some ⟨g, 0, none⟩) n n ∧ h' = h ∧ ms' = AX g el vl :: ms) (fun ρ w hρ hw => by
    have hm : (lp.toArray.map fun (i, x) => (i, ρ x)) = vs.toArray := by
      rw [List.map_toArray, hρ.pairs lp vs hv]
    have : (execOp ρ o).run e.P w = .ok (.value (.slice (some ⟨w.heap.size, 0, none⟩) n n)) (w.alloc (.cells vl.toArray el)) := by
      simp only [execOp, ho, hm, Sem.run_bind, FK ps zl vl ht hs hb hz hps hvl, Result.andThen_ok, Sem.run_pure]
    unfold OpRes; rw [this]
    exact ⟨h, _, Ends.alloc hw _, _, rfl, rfl, rfl⟩) hd hn hg fun _ _ _ ⟨g, e1, e2, e3⟩ => by subst e1 e2 e3; exact k g
theorem AK {p : Addr} (i k : Nat) (ho : o.op = .store t x y) (hs : Elem e.P t 1 z bytes) (hx : ev s x = some (.pointer (some p))) (hy : ev s y = some v) (h1 : v.oneCell' = true)
    (hm : ms[i]? = some (AX g el l)) (hp : p = (⟨g, 0, none⟩ : Addr).add k) (hk : k < l.length) (hd : o.dst = none) (hg : o.guard = none)
    (K : WL e ops Q rest s h (ms.set i (AX g el (l.set k v)))) : WL e ops Q (o :: rest) s h ms :=
  Jp (post := fun _ h' ms' => h' = h ∧ ms' = ms.set i (AX g el (l.set k v))) (fun ρ w hρ hw => by
    have hp' : p = ⟨g, k, none⟩ := by subst hp; unfold Addr.add; split <;> simp_all
    have hgw : w.heap[g]? = some (.cells l.toArray el (0, 0)) := hw.st.own _ (List.mem_of_getElem? hm) g _ (Hp.one_self _ _)
    have hc : w.cell? ⟨g, k, none⟩ = some l[k] := by simp [World.cell?, hgw, hk]
    have hf : w.frozen? ⟨g, k, none⟩ = false := by simp [World.frozen?, hgw]
    have hvc : v.cells = #[v] := by cases v <;> first | rfl | (simp [Value.oneCell'] at h1)
    have hst : (store (Addr.add ⟨g, k, none⟩ 0) v).run e.P w = .ok () (w.setCell ⟨g, k, none⟩ v) := by
      rw [DK, run_store e.P w _ v _ h1, hc]; simp [hf]
    have : (execOp ρ o).run e.P w = .ok .skip (w.setCell ⟨g, k, none⟩ v) := by
      simp [execOp, ho, hρ _ _ hx, hρ _ _ hy, Instr.storeAt, Instr.sureAddr, storeVar, hs.sizeOf, hvc, hp', storeCells, hst]
    unfold OpRes; rw [this]
    refine ⟨h, _, Ends.put hw hm rfl ⟨rfl, Nat.le_refl _⟩ rfl (by simp [World.setCell]) (l' := l.set k v) ?_ (fun j hj hne => Below.heap_setCell _ _ _ _ hne), rfl, rfl⟩
    rw [heap_setCell_same w g k l.toArray el v hgw]; simp) hd hg fun _ _ _ ⟨e1, e2⟩ => by subst e1 e2; exact K
theorem K9 (i : Nat) (vl : List Value) (ho : o.op = .store t x y) (hs : Elem e.P t sz z bytes) (hx : ev s x = some (.pointer (some ⟨g, 0, none⟩))) (hy : ev s y = some v) (hv : v.cells = vl.toArray) (h1 : ∀ u ∈ vl, u.oneCell' = true)
    (hm : ms[i]? = some (AX g el l)) (hl : vl.length = sz) (hl' : l.length = sz) (hd : o.dst = none) (hg : o.guard = none)
    (K : WL e ops Q rest s h (ms.set i (AX g el vl))) : WL e ops Q (o :: rest) s h ms :=
  Jp (post := fun _ h' ms' => h' = h ∧ ms' = ms.set i (AX g el vl)) (fun ρ w hρ hw => by
    have hgw : w.heap[g]? = some (.cells l.toArray el (0, 0)) := hw.st.own _ (List.mem_of_getElem? hm) g _ (Hp.one_self _ _)
    have hst := run_storeCells_at e.P g 0 el vl 0 l.toArray w hgw (by simp; omega) h1
    have : (execOp ρ o).run e.P w = .ok .skip (w.setRow g vl.toArray) := by
      simp [execOp, ho, hρ _ _ hx, hρ _ _ hy, Instr.storeAt, Instr.sureAddr, storeVar, hs.sizeOf, hv, hl, hst]
      rw [List.drop_eq_nil_of_le (by omega)]; simp
    unfold OpRes; rw [this]
    exact ⟨h, _, Ends.put hw hm rfl ⟨rfl, Nat.le_refl _⟩ rfl (by simp) (setRow_heap w g _ _ _ _ hgw) (fun j hj hne => setRow_other w g j _ hne), rfl, rfl⟩) hd hg fun _ _ _ ⟨e1, e2⟩ => by subst e1 e2; exact K
theorem Fv (w : World) (t ty el : TypeId) (ht : P.underlying t = some (.slice el)) (hs : Elem P el sz z bytes) (base a : Option Addr) (n cap c : Nat) (hn : n ≤ cap) :
    (Builtin.append_ #[t, t] ty #[.slice base n cap, .slice a 0 c]).run P w = .ok (.slice base n cap) w := by
  cases base <;> cases a <;> simp [Builtin.append_, run_underlying ht, hs.sizeOf, Builtin.lenOf, hn, Builtin.firstCells, loadCells, loadCellsFrom, storeCells]
theorem Mz {w0 w : World} {h0 h : Hp} {ms0 ms : List Hp} (H : Ends w0 h0 ms0 w h (m :: ms)) (t ty el : TypeId) (ht : P.underlying t = some (.slice el)) (hs : Elem P el sz z bytes) (hzs : z.cells.size = sz) (hsz : 0 < sz)
    {x : Value} {k : Nat} {news : List Value} (O : Own el sz m v n cs) (R : Rd h (m :: ms) x sz k news) (h1 : ∀ u ∈ news, u.oneCell' = true) (hb : (n + k) * bytes ≤ 140737488355328) (hb63 : n + k ≤ 9223372036854775807) :
    ∃ v' w' m', (Builtin.append_ #[t, t] ty #[v, x]).run P w = .ok v' w' ∧ Own el sz m' v' (n + k) (cs ++ news) ∧ Ends w0 h0 ms0 w' h (m' :: ms) := by
  obtain ⟨a, c, rfl, hkc, hcm, hnl, hq⟩ := R.ex
  obtain ⟨hcl, hO⟩ := O
  obtain ⟨i, hi, hz, his, hib⟩ := hs.info
  rcases Nat.eq_zero_or_pos k with rfl | hk
  · have hnews : news = [] := List.eq_nil_of_length_eq_zero (by simpa using hnl)
    subst hnews
    rcases hO with ⟨rfl, rfl, rfl⟩ | ⟨g, cap, spare, rfl, rfl, e1, e2, e3⟩
    · exact ⟨_, w, _, Fv w t ty el ht hs none a 0 0 c (Nat.le_refl _), ⟨by simpa using hcl, .inl ⟨rfl, rfl, rfl⟩⟩, H⟩
    · exact ⟨_, w, _, Fv w t ty el ht hs _ a n cap c e2, ⟨by simpa using hcl, .inr ⟨g, cap, spare, rfl, by simp, by simpa using e1, e2, e3⟩⟩, H⟩
  · obtain ⟨q, rfl, hseg⟩ := hq hk
    have hnews : ∀ j u, news[j]? = some u → w.cell? (q.add j) = some u := fun j u e => H.st.cell (hseg j u e)
    have hcap : ∀ old, grownCap w (n + k) old el ≤ 9223372036854775807 ∧ n + k ≤ grownCap w (n + k) old el := fun old =>
      ⟨grownCap_le_maxLen w (n + k) old el (by simp only [maxLen]; omega), grownCap_ge w (n + k) old el⟩
    have hzl : ∀ N, (Builtin.zeroCells z.cells N).toList.length = N * sz := fun N => by rw [Array.length_toList, size_zeroCells, hzs]
    rcases hO with ⟨rfl, rfl, rfl⟩ | ⟨g, cap, spare, rfl, rfl, e1, e2, e3⟩
    · have hc0 : cs = [] := List.eq_nil_of_length_eq_zero (by simpa using hcl)
      subst hc0
      simp only [Nat.zero_add, List.nil_append] at *
      have hr := run_append_nil (P := P) w t ty el i z ht hi hz q k c news (by rw [his]; exact hnl) hnews hk (by omega) (by rw [hib]; omega)
      refine ⟨_, _, _, hr, ⟨hnl, .inr ⟨w.heap.size, grownCap w k 0 el, (Builtin.zeroCells z.cells (grownCap w k 0 el - k)).toList, rfl, rfl, ?_, (hcap 0).2, (hcap 0).1⟩⟩, ?_⟩
      · rw [List.length_append, hzl, hnl, ← Nat.add_mul]
        congr 1; have := (hcap 0).2; omega
      · have := Ends.alloc (Ends.drew (Ends.drop H)) (.cells (news.toArray ++ Builtin.zeroCells z.cells (grownCap w k 0 el - k)) el)
        have e : (news ++ (Builtin.zeroCells z.cells (grownCap w k 0 el - k)).toList).toArray = news.toArray ++ Builtin.zeroCells z.cells (grownCap w k 0 el - k) := by
          apply Array.ext'; simp
        unfold AX; rw [e]; exact this
    · have hgw : w.heap[g]? = some (.cells (cs ++ spare).toArray el (0, 0)) := H.st.own _ (List.mem_cons_self) g _ (Hp.one_self _ _)
      by_cases hroom : n + k ≤ cap
      · have hfit : n * i.size + news.length ≤ (cs ++ spare).toArray.size := by
          rw [his, hnl, List.size_toArray, e1, ← Nat.add_mul]; exact Nat.mul_le_mul_right _ hroom
        have hr := run_append_room (P := P) w t ty el i ht hi g n cap (cs ++ spare).toArray hgw q k c news (by rw [his]; exact hnl) hnews h1 hroom hfit
        have e5 : (List.take (n * i.size) (cs ++ spare).toArray.toList ++ news ++ List.drop (n * i.size + news.length) (cs ++ spare).toArray.toList) = cs ++ news ++ spare.drop news.length := by
          rw [his, ← hcl]
          have hd : List.drop (cs.length + news.length) (cs ++ spare) = spare.drop news.length := by rw [← List.drop_drop, List.drop_left]
          simp only [List.take_left', hd, List.append_assoc]
        rw [e5] at hr
        refine ⟨_, _, _, hr, ⟨by rw [List.length_append, hcl, hnl, Nat.add_mul], .inr ⟨g, cap, spare.drop news.length, rfl, rfl, ?_, hroom, e3⟩⟩, ?_⟩
        · rw [← e1]
          simp only [List.length_append, List.length_drop]
          have : news.length ≤ spare.length := by
            rw [List.size_toArray, List.length_append, his, ← hcl] at hfit; omega
          omega
        · exact Ends.change H rfl ⟨rfl, Nat.le_refl _⟩ rfl (by simp) (setRow_heap w g _ _ _ _ hgw) (fun j hj hne => setRow_other w g j _ hne)
      · have holds : ∀ j u, cs[j]? = some u → w.cell? ((⟨g, 0, none⟩ : Addr).add j) = some u := fun j u hv => H.st.cell (Cell.blk (el := el) (l := cs ++ spare) 0 rfl (by rw [List.getElem?_append_left (List.getElem?_eq_some_iff.1 hv).1]; exact hv))
        have hr := run_append_grow (P := P) w t ty el i z ht hi hz ⟨g, 0, none⟩ n cap cs (by rw [his]; exact hcl) holds q k c news (by rw [his]; exact hnl) hnews (by omega) (by omega) (by rw [hib]; exact growslice_fits (by omega) hb)
        refine ⟨_, _, _, hr, ⟨by rw [List.length_append, hcl, hnl, Nat.add_mul], .inr ⟨w.heap.size, grownCap w (n + k) cap el, (Builtin.zeroCells z.cells (grownCap w (n + k) cap el - (n + k))).toList, rfl, rfl, ?_, (hcap cap).2, (hcap cap).1⟩⟩, ?_⟩
        · rw [List.length_append, List.length_append, hzl, hcl, hnl, ← Nat.add_mul, ← Nat.add_mul]
          congr 1; have := (hcap cap).2; omega
        · have := Ends.alloc (Ends.drew (Ends.drop H)) (.cells (cs.toArray ++ news.toArray ++ Builtin.zeroCells z.cells (grownCap w (n + k) cap el - (n + k))) el)
          have e : (cs ++ news ++ (Builtin.zeroCells z.cells (grownCap w (n + k) cap el - (n + k))).toList).toArray = cs.toArray ++ news.toArray ++ Builtin.zeroCells z.cells (grownCap w (n + k) cap el - (n + k)) := by
            apply Array.ext'; simp
          unfold AX; rw [e]; exact this
theorem Jy {u : Value} {k : Nat} {news : List Value} (i : Nat) (ho : o.op = .call { callee := .builtin .append, args := #[x, y], argTypes := #[t, t] }) (ht : e.P.underlying t = some (.slice el)) (hs : Elem e.P el sz z bytes) (hzs : z.cells.size = sz) (hsz : 0 < sz)
    (hx : ev s x = some v) (hy : ev s y = some u) (hm : ms[i]? = some m) (O : Own el sz m v n cs) (R : Rd h ms u sz k news) (h1 : ∀ u ∈ news, u.oneCell' = true) (hb : (n + k) * bytes ≤ 140737488355328) (hb63 : n + k ≤ 9223372036854775807) (hd : o.dst = some d) (hn : Nat.blt d e.n = true) (hg : o.guard = none)
    (K : ∀ v' m', Own el sz m' v' (n + k) (cs ++ news) → WL e ops Q rest ((d, v') :: s) h (ms.set i m')) : WL e ops Q (o :: rest) s h ms :=
  G6 (post := fun v' h' ms' => ∃ m', h' = h ∧ ms' = ms.set i m' ∧ Own el sz m' v' (n + k) (cs ++ news)) (fun ρ w hρ hw => by
    obtain ⟨r, p1, _⟩ := EU ms i m m hm
    obtain ⟨v', w', m', hr, hO, hE⟩ := Mz (P := e.P) (Ends.perm hw p1) t o.type el ht hs hzs hsz O (R.sub (fun m hm => p1.mem_iff.1 hm)) h1 hb hb63
    have : (execOp ρ o).run e.P w = .ok (.value v') w' := by
      simp [execOp, ho, hρ _ _ hx, hρ _ _ hy, resolve, invoke, builtin, hr]
    unfold OpRes; rw [this]
    obtain ⟨r', q1, q2⟩ := EU ms i m m' hm
    have pr : (m' :: r).Perm (ms.set i m') := ((List.Perm.cons_inv (p1.symm.trans q1)).cons m').trans q2.symm
    exact ⟨h, _, Ends.perm hE pr, m', rfl, rfl, hO⟩) hd hn hg fun v' h' ms' ⟨m', e1, e2, e3⟩ => by subst e1 e2; exact K v' m' e3
theorem Jg (v : Value) (n : Nat) : madeCells #[v] n = (List.replicate n v).toArray := by
  apply Array.ext
  · simp [madeCells]
  · intro i h1 h2; simp [madeCells, Nat.mod_one]
theorem Eu {k1 k2 : IntKind} {l c : Int} (ho : o.op = .makeSlice t x y) (ht : e.P.underlying t = some (.slice el)) (hs : Elem e.P el 1 z bytes) (hz : z.cells = #[z])
    (hx : ev s x = some (.int k1 l)) (hy : ev s y = some (.int k2 c)) (hl : l = (n : Int)) (hc : c = (n : Int)) (hb : bytes * n ≤ 281474976710656) (h63 : n ≤ 9223372036854775807) (hd : o.dst = some d) (hn : Nat.blt d e.n = true) (hg : o.guard = none)
    (k : ∀ g, WL e ops Q rest ((d, .slice (some ⟨g, 0, none⟩) n n) :: s) h (AX g el (List.replicate n z) :: ms)) : WL e ops Q (o :: rest) s h ms :=
  G6 (post := fun v h' ms' => ∃ g, v = .slice (some ⟨g, 0, none⟩) n n ∧ h' = h ∧ ms' = AX g el (List.replicate n z) :: ms) (fun ρ w hρ hw => by
    obtain ⟨i, hi, hz', his, hib⟩ := hs.info
    have hb' : (i.bytes : Int) * c ≤ 281474976710656 := by
      rw [hib, hc]
      have h : ((bytes * n : Nat) : Int) ≤ 281474976710656 := by omega
      rwa [Int.natCast_mul] at h
    have hr := run_make (P := e.P) w t el i z ht hi hz' k1 k2 l c (by omega) (by omega) hb' (by omega)
    have : (execOp ρ o).run e.P w = .ok (.value (.slice (some ⟨w.heap.size, 0, none⟩) n n)) (w.alloc (.cells (List.replicate n z).toArray el)) := by
      have e1 : l.toNat = n := by omega
      have e2 : c.toNat = n := by omega
      rw [e1, e2, his, hz, Nat.mul_one, Jg] at hr
      simp only [execOp, ho, hρ _ _ hx, hρ _ _ hy, Sem.run_bind, hr, Result.andThen_ok, Sem.run_pure]
    unfold OpRes; rw [this]
    exact ⟨h, _, Ends.alloc hw _, _, rfl, rfl, rfl⟩) hd hn hg fun _ _ _ ⟨g, e1, e2, e3⟩ => by subst e1 e2 e3; exact k g
end
end Go.Eng
namespace Go.Eng
open Go.RowKit
abbrev VP := Hp → Value → Prop
abbrev Nb := (TypeId × List Value) × (Nat → Value)
abbrev KH := Value ⊕ (VP ⊕ Nb)
def Kg (o : Oper) (j : Nat) : Bool := o.after.any fun e => Region.binds .any e && e.on == j
def backs (o : Oper) (i : Nat) : Bool := o.after.all fun e => !Region.binds .any e || e.on < i
def HU (ops : Array Oper) : Nat → Nat → Nat → Bool
  | 0, _, _ => false
  | n + 1, i, j => match ops[i]? with
    | none => false
    | some o => Kg o j || o.after.any fun e => Region.binds .any e && HU ops n e.on j
def Bf (ops : Array Oper) (j : Nat) : Option Nat := (ops[j]?).bind (·.dst)
def _root_.Go.Op.idle : Op → Bool
  | .move (.const _) => true
  | _ => false
theorem OI {o : Op} (h : o.idle = true) : ∃ v, o = .move (.const v) := by
  unfold Op.idle at h
  split at h
  · exact ⟨_, rfl⟩
  · cases h
def Mb (pu : List Nat) (ops : Array Oper) (np : Nat) : Bool :=
  Nat.ble np ops.size && (pu.all fun i => Nat.blt i ops.size) && Region.noSelect ops &&
  (List.range ops.size).all fun i => match ops[i]? with
    | none => false
    | some o => backs o i &&
      if i < np then
        ((List.range np).all fun j => j == i || (match o.dst with | some d => Bf ops j != some d | none => true)) &&
        ((o.looksAt ops).all fun t => (List.range np).all fun j => Bf ops j != some t || (j < i && Kg o j))
      else if pu.contains i then o.dst.isNone && o.guard.isNone && o.op.idle else (List.range i).all fun j => pu.contains j || HU ops ops.size i j
def OPX (P : Program) (o : Oper) (s : Ay) (h : Hp) (ms : List Hp) (V : VP) : Prop :=
  ∀ ρ w, Evs s ρ → St w h ms → OpRes P o ρ w (fun u w' => ∃ h', h.le h' ∧ h'.inW w' ∧ (∀ k, k < w.heap.size → h' k = h k) ∧ Ext w w' ∧ V h' u)
def V6 (V : VP) : Prop := ∀ h h' u, Hp.le h h' → V h u → V h' u
def Ky (q : List (Nat × VP)) (val : Nat → Value) : Ay := q.map fun p => (p.1, val p.1)
def Rc (q : List (Nat × VP)) (val : Nat → Value) (h : Hp) : Prop := ∀ d V, (d, V) ∈ q → V h (val d)
def Wants (ops : Array Oper) (o : Oper) (s : Ay) (b : Bool) : Prop :=
  match o.guard with
  | none => b = true
  | some (j, want) => (∃ dj b', Bf ops j = some dj ∧ lk s dj = some (.bool b') ∧ b = (b' == want)) ∨ ∃ dj, Bf ops j = some dj ∧ lk s dj = some undef ∧ b = false
def WE (P : Program) (o : Oper) (s : Ay) (h : Hp) (ms : List Hp) (x : Nb) : Prop :=
  ∀ ρ w, Evs s ρ → St w h ms → OpRes P o ρ w (fun u w' => u = x.2 w.heap.size ∧ w' = w.alloc (.cells x.1.2.toArray x.1.1))
def StpOK (P : Program) (ops : Array Oper) (h : Hp) (ms : List Hp) (o : Oper) (s : Ay) (q : List (Nat × VP)) : KH → Prop
  | .inl v => (Wants ops o s true ∧ OX P o s h ms v) ∨ (Wants ops o s true ∧ ∃ q', (∀ p ∈ q', p ∈ q ∧ p.1 ∈ o.looksAt ops) ∧ ∀ h', h.le h' → ∀ val, Rc q' val h' → OX P o (Ky q' val ++ s) h' ms v) ∨ (Wants ops o s false ∧ v = undef)
  | .inr (.inl V) => Wants ops o s true ∧ V6 V ∧ (OPX P o s h ms V ∨ ∃ q', (∀ p ∈ q', p ∈ q ∧ p.1 ∈ o.looksAt ops) ∧ ∀ h', h.le h' → ∀ val, Rc q' val h' → OPX P o (Ky q' val ++ s) h' ms V)
  | .inr (.inr x) => Wants ops o s true ∧ (∃ d, o.dst = some d) ∧ WE P o s h ms x
def C9 : List Oper → List KH → Ay → Ay
  | o :: l, .inl v :: p, s => C9 l p (match o.dst with | some d => (d, v) :: s | none => s)
  | _ :: l, .inr _ :: p, s => C9 l p s
  | _, _, s => s
def Da : List Oper → List KH → List (Nat × VP)
  | o :: l, .inr (.inl V) :: p => (match o.dst with | some d => [(d, V)] | none => []) ++ Da l p
  | _ :: l, _ :: p => Da l p
  | _, _ => []
def CT : List Oper → List KH → List (Nat × Nb)
  | o :: l, .inr (.inr x) :: p => (match o.dst with | some d => [(d, x)] | none => []) ++ CT l p
  | _ :: l, _ :: p => CT l p
  | _, _ => []
def LI (al : List (Nat × Nb)) (γ : Nat → Nat) : Ay := al.map fun p => (p.1, p.2.2 (γ p.1))
def KJ (al : List (Nat × Nb)) (γ : Nat → Nat) : List Hp := al.map fun p => AX (γ p.1) p.2.1.1 p.2.1.2
def WR (e : Entry) (ops : Array Oper) (Q : Exit → Act → World → Prop) (tl : List Oper) (h : Hp) (ms : List Hp) : List Oper → Ay → List (Nat × VP) → List (Nat × Nb) → Prop
  | [], s, q, al => (q = [] ∧ ∀ γ, WL e ops Q tl (LI al γ ++ s) h (KJ al γ ++ ms)) ∨ ∀ h', h.le h' → ∀ val γ, Rc q val h' → WL e ops Q tl (Ky q val ++ (LI al γ ++ s)) h' (KJ al γ ++ ms)
  | o :: l, s, q, al =>
    (∃ v, StpOK e.P ops h ms o s q (.inl v) ∧ WR e ops Q tl h ms l (match o.dst with | some d => (d, v) :: s | none => s) q al) ∨
    (∃ V, StpOK e.P ops h ms o s q (.inr (.inl V)) ∧ WR e ops Q tl h ms l s (q ++ match o.dst with | some d => [(d, V)] | none => []) al) ∨
    (∃ x, StpOK e.P ops h ms o s q (.inr (.inr x)) ∧ WR e ops Q tl h ms l s q (al ++ match o.dst with | some d => [(d, x)] | none => []))
def PlanOK (P : Program) (ops : Array Oper) (h : Hp) (ms : List Hp) : List Oper → List KH → Ay → List (Nat × VP) → Prop
  | [], [], _, _ => True
  | o :: l, st :: p, s, q => StpOK P ops h ms o s q st ∧ PlanOK P ops h ms l p (match st with | .inl v => (match o.dst with | some d => (d, v) :: s | none => s) | _ => s) (match st with | .inr (.inl V) => q ++ (match o.dst with | some d => [(d, V)] | none => []) | _ => q)
  | _, _, _, _ => False
theorem Ia {e : Entry} {ops : Array Oper} {Q : Exit → Act → World → Prop} {tl : List Oper} {h : Hp} {ms : List Hp} : ∀ (l : List Oper) (s : Ay) (q : List (Nat × VP)) (al : List (Nat × Nb)), WR e ops Q tl h ms l s q al →
    ∃ pl, pl.length = l.length ∧ PlanOK e.P ops h ms l pl s q ∧
      ((q ++ Da l pl = [] ∧ ∀ γ, WL e ops Q tl (LI (al ++ CT l pl) γ ++ C9 l pl s) h (KJ (al ++ CT l pl) γ ++ ms)) ∨
        ∀ h', h.le h' → ∀ val γ, Rc (q ++ Da l pl) val h' → WL e ops Q tl (Ky (q ++ Da l pl) val ++ (LI (al ++ CT l pl) γ ++ C9 l pl s)) h' (KJ (al ++ CT l pl) γ ++ ms))
  | [], s, q, al, H => ⟨[], rfl, trivial, by simp only [WR] at H; simpa [Da, CT, C9] using H⟩
  | o :: l, s, q, al, H => by
    rcases H with ⟨v, h1, h2⟩ | ⟨V, h1, h2⟩ | ⟨x, h1, h2⟩
    · obtain ⟨pl, e1, e2, e3⟩ := Ia l _ _ _ h2
      exact ⟨.inl v :: pl, by simp [e1], ⟨h1, e2⟩, by simpa [Da, CT, C9] using e3⟩
    · obtain ⟨pl, e1, e2, e3⟩ := Ia l _ _ _ h2
      exact ⟨.inr (.inl V) :: pl, by simp [e1], ⟨h1, e2⟩, by simpa [Da, CT, C9, List.append_assoc] using e3⟩
    · obtain ⟨pl, e1, e2, e3⟩ := Ia l _ _ _ h2
      exact ⟨.inr (.inr x) :: pl, by simp [e1], ⟨h1, e2⟩, by simpa [Da, CT, C9, List.append_assoc] using e3⟩
theorem PlanOK.get {P : Program} {ops : Array Oper} {h : Hp} {ms : List Hp} : ∀ (l : List Oper) (pl : List KH) (s : Ay) (q : List (Nat × VP)), PlanOK P ops h ms l pl s q →
    ∀ i o, l[i]? = some o → ∃ st, pl[i]? = some st ∧ StpOK P ops h ms o (C9 (l.take i) (pl.take i) s) (q ++ Da (l.take i) (pl.take i)) st
  | [], [], _, _, _, i, o, e => by cases e
  | [], _ :: _, _, _, H, _, _, _ => H.elim
  | _ :: _, [], _, _, H, _, _, _ => H.elim
  | o :: l, st :: p, s, q, H, i, o', e => by
    cases i with
    | zero => simp at e; subst e; exact ⟨st, rfl, by simpa [C9, Da] using H.1⟩
    | succ i =>
      obtain ⟨st', e1, e2⟩ := PlanOK.get l p _ _ H.2 i o' (by simpa using e)
      refine ⟨st', by simpa using e1, ?_⟩
      rcases st with v | V | x <;> simpa [C9, Da, List.append_assoc] using e2
theorem GU : ∀ (l : List Oper) (pl : List KH) (s : Ay) (t : Nat) (u : Value), lk (C9 l pl s) t = some u →
    (∃ (j : Nat) (o : Oper), l[j]? = some o ∧ o.dst = some t ∧ pl[j]? = some (.inl u)) ∨ lk s t = some u
  | [], _, s, t, u, h => .inr (by simpa [C9] using h)
  | o :: l, [], s, t, u, h => .inr (by simpa [C9] using h)
  | o :: l, .inl v :: p, s, t, u, h => by
    rcases GU l p _ t u (by simpa [C9] using h) with ⟨j, o', h1, h2, h3⟩ | h
    · exact .inl ⟨j + 1, o', by simpa using h1, h2, by simpa using h3⟩
    · cases hd : o.dst with
      | none => simp [hd] at h; exact .inr h
      | some d =>
        simp [hd] at h
        by_cases hdt : d = t
        · subst hdt; rw [Bt] at h; cases h
          exact .inl ⟨0, o, rfl, hd, rfl⟩
        · rw [Bq _ _ hdt] at h; exact .inr h
  | o :: l, .inr x :: p, s, t, u, h => by
    rcases GU l p _ t u (by simpa [C9] using h) with ⟨j, o', h1, h2, h3⟩ | h
    · exact .inl ⟨j + 1, o', by simpa using h1, h2, by simpa using h3⟩
    · exact .inr h
theorem EQ : ∀ (l : List Oper) (pl : List KH) (d : Nat) (V : VP), (d, V) ∈ Da l pl → ∃ (j : Nat) (o : Oper), l[j]? = some o ∧ o.dst = some d ∧ pl[j]? = some (.inr (.inl V))
  | [], _, d, V, h => by cases h
  | o :: l, [], d, V, h => by cases h
  | o :: l, .inl v :: p, d, V, h => by
    obtain ⟨j, o', h1, h2, h3⟩ := EQ l p d V (by simpa [Da] using h)
    exact ⟨j + 1, o', by simpa using h1, h2, by simpa using h3⟩
  | o :: l, .inr (.inl W) :: p, d, V, h => by
    simp only [Da, List.mem_append] at h
    rcases h with h | h
    · cases hd : o.dst with
      | none => simp [hd] at h
      | some d' => simp [hd] at h; exact ⟨0, o, rfl, by rw [hd, h.1], by simp [h.2]⟩
    · obtain ⟨j, o', h1, h2, h3⟩ := EQ l p d V h
      exact ⟨j + 1, o', by simpa using h1, h2, by simpa using h3⟩
  | o :: l, .inr (.inr x) :: p, d, V, h => by
    obtain ⟨j, o', h1, h2, h3⟩ := EQ l p d V (by simpa [Da] using h)
    exact ⟨j + 1, o', by simpa using h1, h2, by simpa using h3⟩
theorem Gb : ∀ (l : List Oper) (pl : List KH) (d : Nat) (x : Nb), (d, x) ∈ CT l pl → ∃ (j : Nat) (o : Oper), l[j]? = some o ∧ o.dst = some d ∧ pl[j]? = some (.inr (.inr x))
  | [], _, d, V, h => by cases h
  | o :: l, [], d, V, h => by cases h
  | o :: l, .inl v :: p, d, V, h => by
    obtain ⟨j, o', h1, h2, h3⟩ := Gb l p d V (by simpa [CT] using h)
    exact ⟨j + 1, o', by simpa using h1, h2, by simpa using h3⟩
  | o :: l, .inr (.inr W) :: p, d, V, h => by
    simp only [CT, List.mem_append] at h
    rcases h with h | h
    · cases hd : o.dst with
      | none => simp [hd] at h
      | some d' => simp [hd] at h; exact ⟨0, o, rfl, by rw [hd, h.1], by simp [h.2]⟩
    · obtain ⟨j, o', h1, h2, h3⟩ := Gb l p d V h
      exact ⟨j + 1, o', by simpa using h1, h2, by simpa using h3⟩
  | o :: l, .inr (.inl x) :: p, d, V, h => by
    obtain ⟨j, o', h1, h2, h3⟩ := Gb l p d V (by simpa [CT] using h)
    exact ⟨j + 1, o', by simpa using h1, h2, by simpa using h3⟩
structure U7 (pu : List Nat) (ops : Array Oper) (np : Nat) : Prop where
  le : np ≤ ops.size
  low : ∀ i, pu.contains i = true → i < ops.size
  nosel : Region.noSelect ops = true
  backs : ∀ i o, ops[i]? = some o → ∀ e ∈ o.after, Region.binds .any e = true → e.on < i
  uniq : ∀ i j o d, ops[i]? = some o → i < np → j < np → o.dst = some d → Bf ops j = some d → j = i
  look : ∀ i o t j, ops[i]? = some o → i < np → t ∈ o.looksAt ops → j < np → Bf ops j = some t → j < i ∧ Kg o j = true
  tail : ∀ i j, i < ops.size → np ≤ i → pu.contains i = false → j < i → pu.contains j = true ∨ HU ops ops.size i j = true
  zap : ∀ i o, ops[i]? = some o → np ≤ i → pu.contains i = true → o.dst = none ∧ o.guard = none ∧ ∃ v, o.op = .move (.const v)
theorem Iz {pu : List Nat} {ops : Array Oper} {np : Nat} (h : Mb pu ops np = true) : U7 pu ops np := by
  simp only [Mb, Bool.and_eq_true, List.all_eq_true, List.mem_range] at h
  obtain ⟨⟨⟨h1, h1'⟩, h2⟩, h3⟩ := h
  have at_ : ∀ i o, ops[i]? = some o → i < ops.size := fun i o e => (Array.getElem?_eq_some_iff.1 e).1
  refine ⟨Nat.le_of_ble_eq_true h1, fun i hi => Nat.le_of_ble_eq_true (h1' i (by simpa using hi)), h2, ?_, ?_, ?_, ?_, ?_⟩
  · intro i o e ed hed hb
    have := h3 i (at_ i o e)
    simp only [e, Bool.and_eq_true] at this
    have h4 := Array.all_eq_true_iff_forall_mem.1 this.1 ed hed
    simp [hb] at h4
    exact h4
  · intro i j o d e hi hj hd hdj
    have := h3 i (at_ i o e)
    simp only [e, Bool.and_eq_true, hi, if_true, List.all_eq_true, List.mem_range, hd] at this
    have h4 := this.2.1 j hj
    simp [hdj] at h4
    exact h4
  · intro i o t j e hi ht hj hd
    have := h3 i (at_ i o e)
    simp only [e, Bool.and_eq_true, hi, if_true, List.all_eq_true, List.mem_range] at this
    have h4 := this.2.2 t ht j hj
    simp [hd] at h4
    exact h4
  · intro i j his hi hpu hj
    obtain ⟨o, e⟩ : ∃ o, ops[i]? = some o := ⟨ops[i], by simp [his]⟩
    have := h3 i (at_ i o e)
    have hni : ¬ i < np := by omega
    have hpu' : ¬ pu.contains i = true := by rw [hpu]; simp
    simp only [e, Bool.and_eq_true, if_neg hni, if_neg hpu', List.all_eq_true, List.mem_range] at this
    exact Bool.or_eq_true_iff.1 (this.2 j hj)
  · intro i o e hi hpu
    have := h3 i (at_ i o e)
    have hni : ¬ i < np := by omega
    simp only [e, Bool.and_eq_true, if_neg hni, if_pos hpu] at this
    exact ⟨by simpa using this.2.1.1, by simpa using this.2.1.2, OI this.2.2⟩
theorem Ed {o : Oper} {j : Nat} (h : Kg o j = true) : ∃ e ∈ o.after, Region.binds .any e = true ∧ e.on = j := by
  obtain ⟨e, he, hb⟩ := Array.any_eq_true'.1 h
  simp at hb
  exact ⟨e, he, hb.1, hb.2⟩
theorem Iu {ops : Array Oper} {listed : Array Bool} {i : Nat} {o : Oper} (hi : ops[i]? = some o) (hr : i ∈ Region.ready .any ops listed) {j : Nat} (h : Kg o j = true) : listed.getD j false = true := by
  obtain ⟨_, o', ho', hall⟩ := mem_ready.1 hr
  rw [hi] at ho'; cases ho'
  obtain ⟨e, he, hb, rfl⟩ := Ed h
  exact hall e he hb
def Closed (ops : Array Oper) (listed : Array Bool) : Prop := ∀ i o, listed.getD i false = true → ops[i]? = some o → ∀ e ∈ o.after, Region.binds .any e = true → listed.getD e.on false = true
theorem GS {ops : Array Oper} {listed : Array Bool} (hc : Closed ops listed) : ∀ (n i j : Nat) (o : Oper), ops[i]? = some o → (∀ e ∈ o.after, Region.binds .any e = true → listed.getD e.on false = true) → HU ops n i j = true → listed.getD j false = true
  | 0, _, _, _, _, _, h => by cases h
  | n + 1, i, j, o, ho, hall, h => by
    simp only [HU, ho, Bool.or_eq_true] at h
    rcases h with h | h
    · obtain ⟨e, he, hb, rfl⟩ := Ed h
      exact hall e he hb
    · obtain ⟨e, he, hb⟩ := Array.any_eq_true'.1 h
      simp only [Bool.and_eq_true] at hb
      have hl := hall e he hb.1
      cases ho' : ops[e.on]? with
      | none =>
        cases n with
        | zero => cases hb.2
        | succ n => simp [HU, ho'] at hb
      | some o' => exact GS hc n e.on j o' ho' (fun e' he' hb' => hc e.on o' hl ho' e' he' hb') hb.2
theorem HV {ops : Array Oper} {listed : Array Bool} (hc : Closed ops listed) {n i : Nat} (hr : i ∈ Region.ready .any ops listed) {j : Nat} (h : HU ops n i j = true) : listed.getD j false = true := by
  obtain ⟨_, o, ho, hall⟩ := mem_ready.1 hr
  exact GS hc n i j o ho hall h
theorem Closed.set {ops : Array Oper} {listed : Array Bool} (hc : Closed ops listed) {i : Nat} (hr : i ∈ Region.ready .any ops listed) : Closed ops (listed.setIfInBounds i true) := by
  intro k o hk ho e he hb
  refine getD_set_true ?_
  by_cases hki : i = k
  · subst hki
    obtain ⟨_, o', ho', hall⟩ := mem_ready.1 hr
    rw [ho] at ho'; cases ho'
    exact hall e he hb
  · rw [getD_set_ne false hki] at hk
    exact hc k o hk ho e he hb
def left (listed : Array Bool) : Nat := listed.toList.countP (! ·)
theorem MP (l : List Bool) (i : Nat) (h : l[i]? = some false) : (l.set i true).countP (! ·) + 1 = l.countP (! ·) := by
  induction l generalizing i with
  | nil => cases h
  | cons a l ih =>
    cases i with
    | zero => simp at h; subst h; simp
    | succ i => simp at h; simp [List.countP_cons]; have := ih i h; omega
theorem GF {listed : Array Bool} {i : Nat} (h : listed[i]? = some false) : left (listed.setIfInBounds i true) + 1 = left listed := by
  unfold left
  rw [Array.toList_setIfInBounds]
  exact MP _ _ (by simpa using h)
theorem Hy {listed : Array Bool} (h : left listed = 0) (i : Nat) : listed.getD i true = true := by
  unfold left at h
  rw [List.countP_eq_zero] at h
  rw [Array.getD_eq_getD_getElem?]
  cases e : listed[i]? with
  | none => rfl
  | some b =>
    have := h b (by rw [Array.mem_toList_iff]; exact Array.mem_of_getElem? e)
    simpa using this
theorem Be {listed : Array Bool} {i : Nat} (h : listed.getD i true = false) : listed[i]? = some false := by
  rw [Array.getD_eq_getD_getElem?] at h
  cases e : listed[i]? with
  | none => rw [e] at h; cases h
  | some b => rw [e] at h; simp at h; rw [h]
theorem Rh {P : Program} {pu : List Nat} {ops : Array Oper} {Q : Exit → Act → World → Prop} {np : Nat} (hp : U7 pu ops np) : ∀ (l : List Oper) (k fuel : Nat) (listed : Array Bool) (a : Act) (w : World),
    ops.toList.drop k = l → np ≤ k → Closed ops listed → listed.size = ops.size → (∀ j, j < ops.size → (listed.getD j false = true ↔ (j < k ∨ pu.contains j = true))) → left listed ≤ fuel → wpList P ops Q l a w → wpAny P .any ops Q fuel listed a w := by
  intro l
  induction l with
  | nil =>
    intro k fuel listed a w hl hk hc hs hlist hf h
    have hk' : ops.size ≤ k := by simpa using List.drop_eq_nil_iff.1 hl
    refine wpAny_done ?_ h fuel
    cases hr : Region.ready .any ops listed with
    | nil => rfl
    | cons x xs =>
      have hx : x ∈ Region.ready .any ops listed := by rw [hr]; exact List.mem_cons_self
      obtain ⟨h0, o, ho, _⟩ := mem_ready.1 hx
      have hlt := (Array.getElem?_eq_some_iff.1 ho).1
      have := (hlist x hlt).2 (.inl (by omega))
      have h2 := Be h0
      rw [Array.getD_eq_getD_getElem?, h2] at this; cases this
  | cons o l ih =>
    intro k fuel listed a w hl hk hc hs hlist hf h
    have hko : ops[k]? = some o := by
      have : (ops.toList.drop k)[0]? = some o := by rw [hl]; rfl
      simpa using this
    have hklt : k < ops.size := (Array.getElem?_eq_some_iff.1 hko).1
    by_cases hkpu : pu.contains k = true
    · obtain ⟨z1, z2, v, z3⟩ := hp.zap k o hko hk hkpu
      refine ih (k + 1) fuel listed a w (by rw [← List.drop_drop, hl]; rfl) (by omega) hc hs (fun j hj => ?_) hf ?_
      · rw [hlist j hj]
        constructor
        · rintro (h1 | h1)
          · exact .inl (by omega)
          · exact .inr h1
        · rintro (h1 | h1)
          · by_cases hjk : j = k
            · subst hjk; exact .inr hkpu
            · exact .inl (by omega)
          · exact .inr h1
      · unfold wpList at h
        rw [if_pos (by simp [Region.wanted, z2])] at h
        have hrun : (execOp a.eval o).run P w = .ok (.value v) w := by simp [execOp, z3, Act.eval]
        rcases h with h | h
        · unfold Oper.wp at h
          rw [hrun] at h
          simp only [Oper.upon, z1, Act.put] at h
          exact h
        · have h1 := h.1.1
          have e1 : execOp a.eval o = (pure (Next.value v) : Sem Next) := by simp only [execOp, z3, Act.eval]
          rw [e1] at h1
          have e2 : (Sem.runT P (pure (Next.value v) : Sem Next) w #[]).2 = #[] := rfl
          rw [e2] at h1
          exact absurd h1 (by simp)
    have hkpu' : pu.contains k = false := by simpa using hkpu
    have hkf : listed[k]? = some false := by
      have hlt : k < listed.size := by omega
      cases e : listed[k] with
      | false => simp [hlt, e]
      | true =>
        have := (hlist k hklt).1 (by rw [Array.getD_eq_getD_getElem?]; simp [hlt, e])
        rcases this with h1 | h1
        · omega
        · exact absurd h1 hkpu
    have hl1 := GF hkf
    cases fuel with
    | zero => omega
    | succ fuel =>
      have hready : ∀ j ∈ Region.ready .any ops listed, j = k := by
        intro j hj
        obtain ⟨h0, o', ho', _⟩ := mem_ready.1 hj
        have hjlt := (Array.getElem?_eq_some_iff.1 ho').1
        have hjn : ¬ (j < k ∨ pu.contains j = true) := fun hc => by
          have := (hlist j hjlt).2 hc
          rw [Array.getD_eq_getD_getElem?, Be h0] at this; cases this
        have hjk : ¬ j < k := fun hc => hjn (.inl hc)
        have hjpu : pu.contains j = false := by
          cases e : pu.contains j with
          | false => rfl
          | true => exact absurd (.inr e) hjn
        by_cases hjk' : j = k
        · exact hjk'
        · have := HV hc hj ((hp.tail j k hjlt (by omega) hjpu (by omega)).resolve_left hkpu)
          rw [Array.getD_eq_getD_getElem?, hkf] at this; cases this
      have hkr : k ∈ Region.ready .any ops listed := mem_ready.2 ⟨by rw [Array.getD_eq_getD_getElem?, hkf]; rfl, o, hko, fun e he hb => (hlist e.on (by have := hp.backs k o hko e he hb; omega)).2 (.inl (hp.backs k o hko e he hb))⟩
      refine ⟨fun h0 => (by rw [h0] at hkr; cases hkr), fun j hj => ?_⟩
      obtain rfl := hready j hj
      have hnext : ∀ a w, wpList P ops Q l a w → wpAny P .any ops Q fuel (listed.setIfInBounds j true) a w := fun a w hw => by
        refine ih (j + 1) fuel _ a w ?_ (by omega) (hc.set hkr) (by simpa using hs) ?_ (by omega) hw
        · rw [← List.drop_drop, hl]; rfl
        · intro i hi
          by_cases hij : i = j
          · subst hij
            have : i < listed.size := by omega
            simp [Array.getD_eq_getD_getElem?, this]
          · rw [Array.getD_eq_getD_getElem?, Array.getElem?_setIfInBounds_ne (Ne.symm hij), ← Array.getD_eq_getD_getElem?, hlist i hi]
            constructor
            · rintro (h1 | h1)
              · exact .inl (by omega)
              · exact .inr h1
            · rintro (h1 | h1)
              · exact .inl (by omega)
              · exact .inr h1
      unfold wpOp
      simp only [hko]
      unfold wpList at h
      split
      · rename_i hw
        rw [if_pos hw] at h
        exact h.imp (Oper.wp_mono hnext) id
      · rename_i hw
        rw [if_neg hw] at h
        exact hnext _ _ h
def CZ (pl : List KH) (dst : Nat → Option Nat) (γ : Nat → Nat) (j : Nat) : List Hp :=
  match pl[j]?, dst j with
  | some (.inr (.inr x)), some d => [AX (γ d) x.1.1 x.1.2]
  | _, _ => []
def Rel (h : Hp) (γ : Nat → Nat) (d : Nat) (u : Value) : KH → Prop
  | .inl v => u = v
  | .inr (.inl V) => V6 V ∧ V h u
  | .inr (.inr x) => u = x.2 (γ d)
structure Mid (e : Entry) (pu : List Nat) (ops : Array Oper) (np : Nat) (pl : List KH) (s0 : Ay) (h0 : Hp) (ms : List Hp) (listed : Array Bool) (a : Act) (w : World) (h : Hp) (γ : Nat → Nat) : Prop where
  le : h0.le h
  ends : e.Ends w h (((List.range np).flatMap fun j => if listed.getD j false then CZ pl (Bf ops) γ j else []) ++ ms)
  defers : a.defers = Ws e.ds
  size : a.tmps.size = e.n
  old : ∀ t u, lk s0 t = some u → (∀ j, j < np → Bf ops j ≠ some t) → a.tmps[t]? = some u
  new : ∀ j, j < np → listed.getD j false = true → ∀ d, Bf ops j = some d → ∃ u st, a.tmps[d]? = some u ∧ pl[j]? = some st ∧ Rel h γ d u st
  later : ∀ j, np ≤ j → listed.getD j false = pu.contains j
  lsize : listed.size = ops.size
  closed : Closed ops listed
  pure : ∀ j, pu.contains j = true → listed.getD j false = true
theorem B9 (a s : Ay) (t : Nat) : lk (a ++ s) t = (lk a t).or (lk s t) := by
  induction a with
  | nil => simp [lk]
  | cons p a ih =>
    obtain ⟨i, v⟩ := p
    by_cases hi : i = t
    · subst hi; rw [List.cons_append, Bt, Bt]; rfl
    · rw [List.cons_append, Bq _ _ hi, Bq _ _ hi, ih]
theorem Kz : ∀ (s : Ay) (t : Nat) (u : Value), lk s t = some u → (t, u) ∈ s
  | (i, v) :: s, t, u, h => by
    by_cases hi : i = t
    · subst hi; rw [Bt] at h; cases h; exact List.mem_cons_self
    · rw [Bq _ _ hi] at h; exact List.mem_cons_of_mem _ (Kz s t u h)
theorem Ends.grow {w0 w w' : World} {h0 h h1 h1' : Hp} {ms0 ms : List Hp} (H : Ends w0 h0 ms0 w h ms) (hl : h1.le h) (hl' : h1.le h1') (hin : h1'.inW w') (hold : ∀ k, k < w.heap.size → h1' k = h1 k) (he : Ext w w') :
    h.le (h.join h1') ∧ h1'.le (h.join h1') ∧ Ends w0 h0 ms0 w' (h.join h1') ms := by
  have H' := H.ext he
  have e1 : ∀ k, k < w.heap.size → (h.join h1') k = h k := fun k hk => by
    unfold Hp.join
    cases e : h k with
    | some o => rfl
    | none =>
      simp only
      rw [hold k hk]
      cases e2 : h1 k with
      | none => rfl
      | some o => rw [hl k o e2] at e; cases e
  refine ⟨Hp.le_join _ _, ?_, ⟨⟨?_, H'.st.own, ?_, H'.st.apart⟩, H'.os, H'.tape, H'.output, H'.size, H'.block, Hp.le_trans H'.le (Hp.le_join _ _), ?_, H'.mnew⟩⟩
  · intro k o e
    rcases Nat.lt_or_ge k w.heap.size with hk | hk
    · rw [e1 k hk]; rw [hold k hk] at e; exact hl k o e
    · have : h k = none := Hp.inW_none H.st.imm hk
      simp [Hp.join, this, e]
  · intro k o e
    unfold Hp.join at e
    split at e
    · rename_i o' e'; cases e; exact H'.st.imm k _ e'
    · exact hin k o e
  · intro m hm k
    cases e : m k with
    | none => exact .inl rfl
    | some o =>
      right
      have hk : k < w.heap.size := Hp.inW_lt (H.st.own m hm) e
      rw [e1 k hk]
      rcases H.st.off m hm k with e2 | e2
      · rw [e2] at e; cases e
      · exact e2
  · intro k hk hm
    rw [e1 k (Nat.lt_of_lt_of_le hk H.size)]
    exact H.hnew k hk hm
theorem St.weaken {w : World} {h h1 : Hp} {ms ms1 : List Hp} (s : St w h ms) (hl : h1.le h) (hm : ms1.Sublist ms) : St w h1 ms1 :=
  ⟨fun g o e => s.imm g o (hl g o e), fun m h' => s.own m (hm.subset h'), fun m h' k => by
    rcases s.off m (hm.subset h') k with e | e
    · exact .inl e
    · right
      cases e2 : h1 k with
      | none => rfl
      | some o => (rw [hl k o e2] at e; cases e), s.apart.sublist hm⟩
theorem Ends.back {w0 w w1 : World} {h0 h h1 : Hp} {ms0 ms ms1 : List Hp} (H : Ends w0 h0 ms0 w h ms) (H1 : Ends w0 h0 ms0 w1 h1 ms1) (hl : h1.le h) : Ends w0 h0 ms0 w h1 ms :=
  ⟨H.st.weaken hl (List.Sublist.refl _), H.os, H.tape, H.output, H.size, H.block, H1.le, H1.hnew, H.mnew⟩
theorem OpRes.congr {P : Program} {o : Oper} {ρ ρ' : Operand → Value} {w : World} {Φ : Value → World → Prop} (hs : ∀ cs b, o.op ≠ .select cs b) (h : ∀ x ∈ o.op.operands, ρ x = ρ' x) (k : OpRes P o ρ w Φ) : OpRes P o ρ' w Φ := by
  unfold OpRes at *; rwa [← execOp_congr o hs h]
theorem Act.eval_of_slot {a : Act} {t : Nat} {u : Value} (h : a.tmps[t]? = some u) : a.eval (.tmp t) = u := by
  simp only [Act.eval]; rw [Array.getD_eq_getD_getElem?, h]; rfl
theorem OpRes.looks {P : Program} {ops : Array Oper} {o : Oper} {a : Act} {w : World} {s : Ay} {Φ : Value → World → Prop} (hs : ∀ cs b, o.op ≠ .select cs b) (hl : ∀ t ∈ o.looksAt ops, ∀ u, lk s t = some u → a.tmps[t]? = some u)
    (k : ∀ ρ, Evs s ρ → OpRes P o ρ w Φ) : OpRes P o a.eval w Φ := by
  classical
  refine OpRes.congr (ρ := fun x => if x ∈ o.op.operands then a.eval x else (ev s x).getD undef) hs (fun x hx => if_pos hx) (k _ fun x u hu => ?_)
  show (if x ∈ o.op.operands then a.eval x else (ev s x).getD undef) = u
  split
  · rename_i hx
    cases x with
    | tmp t =>
      refine Act.eval_of_slot (hl t ?_ u hu)
      exact List.mem_append_left _ (List.mem_filterMap.2 ⟨.tmp t, by simpa using hx, rfl⟩)
    | const v => cases hu; rfl
    | global g => cases hu; rfl
    | func f => cases hu; rfl
  · rw [hu]; rfl
theorem H6 {α : Type} (x : α) (f f' : Nat → List α) (i : Nat) : ∀ (l : List Nat), l.Nodup → i ∈ l → (∀ j ∈ l, j ≠ i → f' j = f j) → f i = [] → f' i = [x] → (x :: l.flatMap f).Perm (l.flatMap f')
  | [], _, h, _, _, _ => by cases h
  | j :: l, hn, hi, ho, e1, e2 => by
    simp only [List.flatMap_cons]
    by_cases hj : j = i
    · subst hj
      rw [e1, e2]
      have hnot : j ∉ l := (List.nodup_cons.1 hn).1
      have : l.flatMap f' = l.flatMap f := by
        have : ∀ (l' : List Nat), (∀ k ∈ l', k ≠ j ∧ k ∈ j :: l) → l'.flatMap f' = l'.flatMap f := by
          intro l'
          induction l' with
          | nil => intro _; rfl
          | cons k l' ih => intro hk; simp only [List.flatMap_cons]; rw [ho k (hk k (by simp)).2 (hk k (by simp)).1, ih fun k' hk' => hk k' (List.mem_cons_of_mem _ hk')]
        exact this l fun k hk => ⟨fun e => hnot (e ▸ hk), List.mem_cons_of_mem _ hk⟩
      rw [this]
      exact List.Perm.refl _
    · rw [ho j (by simp) hj]
      have hil : i ∈ l := (List.mem_cons.1 hi).resolve_left (fun e => hj e.symm)
      have := H6 x f f' i l (List.nodup_cons.1 hn).2 hil (fun k hk hne => ho k (List.mem_cons_of_mem _ hk) hne) e1 e2
      exact (List.perm_middle.symm).trans (List.Perm.append_left _ this)
theorem D8 {α : Type} (f f' : Nat → List α) : ∀ (l : List Nat), (∀ j ∈ l, f' j = f j) → l.flatMap f' = l.flatMap f
  | [], _ => rfl
  | j :: l, h => by simp only [List.flatMap_cons]; rw [h j (by simp), D8 f f' l fun k hk => h k (List.mem_cons_of_mem _ hk)]
theorem NG (γ : Nat → Nat) : ∀ (l : List Oper) (pl : List KH), pl.length = l.length →
    (List.range l.length).flatMap (fun j => CZ pl (fun j => (l[j]?).bind (·.dst)) γ j) = KJ (CT l pl) γ
  | [], [], _ => rfl
  | o :: l, st :: pl, h => by
    have ih := NG γ l pl (by simpa using h)
    rw [List.length_cons, List.range_succ_eq_map, List.flatMap_cons, List.flatMap_map]
    have ih' : (List.range l.length).flatMap (fun a => CZ (st :: pl) (fun j => ((o :: l)[j]?).bind (·.dst)) γ (Nat.succ a)) = KJ (CT l pl) γ := by
      rw [← ih]
      refine D8 _ _ _ fun j _ => ?_
      simp [CZ]
    rw [ih']
    rcases st with v | V | x
    · simp [CT, CZ]
    · simp [CT, CZ]
    · cases hd : o.dst with
      | none => simp [CT, hd, CZ]
      | some d => simp [CT, hd, KJ, CZ]
section sound
variable {e : Entry} {pu : List Nat} {ops : Array Oper} {np : Nat} {pl : List KH} {s0 : Ay} {h0 : Hp} {ms : List Hp} {listed : Array Bool} {a : Act} {w : World} {h : Hp} {γ : Nat → Nat}
theorem Mid.look (M : Mid e pu ops np pl s0 h0 ms listed a w h γ) (hp : U7 pu ops np) (hlen : pl.length = np) (hf : ∀ j, j < np → ∀ d, Bf ops j = some d → lk s0 d = none) {i : Nat} {o : Oper} (hi : ops[i]? = some o) (hin : i < np) (hr : i ∈ Region.ready .any ops listed) {t : Nat} (ht : t ∈ o.looksAt ops) {u : Value}
    (hu : lk (C9 (ops.toList.take i) (pl.take i) s0) t = some u) : a.tmps[t]? = some u := by
  rcases GU _ _ _ _ _ hu with ⟨j, o', h1, h2, h3⟩ | h1
  · have hji : j < i := by
      have := (List.getElem?_eq_some_iff.1 h1).1
      simp at this; omega
    have hoj : ops[j]? = some o' := by
      rw [List.getElem?_take, if_pos hji] at h1; simpa using h1
    have hplj : pl[j]? = some (.inl u) := by
      rw [List.getElem?_take, if_pos hji] at h3; exact h3
    have hd : Bf ops j = some t := by simp [Bf, hoj, h2]
    obtain ⟨_, hed⟩ := hp.look i o t j hi hin ht (by omega) hd
    obtain ⟨u', st, e1, e2, e3⟩ := M.new j (by omega) (Iu hi hr hed) t hd
    rw [hplj] at e2; cases e2
    simp only [Rel] at e3
    rw [e1, e3]
  · exact M.old t u h1 fun j hj hd => by rw [hf j hj t hd] at h1; cases h1
theorem Mid.lookQ (M : Mid e pu ops np pl s0 h0 ms listed a w h γ) (hp : U7 pu ops np) {i : Nat} {o : Oper} (hi : ops[i]? = some o) (hin : i < np) (hr : i ∈ Region.ready .any ops listed) {d : Nat} {V : VP} (hd : d ∈ o.looksAt ops) (hq : (d, V) ∈ Da (ops.toList.take i) (pl.take i)) :
    ∃ u, a.tmps[d]? = some u ∧ V h u := by
  obtain ⟨j, o', h1, h2, h3⟩ := EQ _ _ _ _ hq
  have hji : j < i := by
    have := (List.getElem?_eq_some_iff.1 h1).1
    simp at this; omega
  have hoj : ops[j]? = some o' := by
    rw [List.getElem?_take, if_pos hji] at h1; simpa using h1
  have hplj : pl[j]? = some (.inr (.inl V)) := by
    rw [List.getElem?_take, if_pos hji] at h3; exact h3
  have hdj : Bf ops j = some d := by simp [Bf, hoj, h2]
  obtain ⟨_, hed⟩ := hp.look i o d j hi hin hd (by omega) hdj
  obtain ⟨u', st, e1, e2, e3⟩ := M.new j (by omega) (Iu hi hr hed) d hdj
  rw [hplj] at e2; cases e2
  exact ⟨u', e1, e3.2⟩
theorem Rel.le {h h' : Hp} {γ : Nat → Nat} {d : Nat} {u : Value} {st : KH} (hl : h.le h') (r : Rel h γ d u st) : Rel h' γ d u st := by
  rcases st with v | V | x
  · exact r
  · exact ⟨r.1, r.1 _ _ _ hl r.2⟩
  · exact r
theorem Mid.next (M : Mid e pu ops np pl s0 h0 ms listed a w h γ) (hp : U7 pu ops np) (hlen : pl.length = np) {i : Nat} {o : Oper} (hi : ops[i]? = some o) (hin : i < np) (hr : i ∈ Region.ready .any ops listed) (hun : listed.getD i true = false) (hbig : ∀ d, o.dst = some d → d < e.n) {st : KH} (hst : pl[i]? = some st) {u : Value} {w' : World} {h' : Hp} {γ' : Nat → Nat}
    (hl : h.le h') (hγ : ∀ d, o.dst ≠ some d → γ' d = γ d) (hγ0 : (∀ x, st ≠ .inr (.inr x)) → γ' = γ) (hR : ∀ d, o.dst = some d → Rel h' γ' d u st)
    (hE : e.Ends w' h' (CZ pl (Bf ops) γ' i ++ (((List.range np).flatMap fun j => if listed.getD j false then CZ pl (Bf ops) γ j else []) ++ ms))) :
    Mid e pu ops np pl s0 h0 ms (listed.setIfInBounds i true) (a.put o.dst u) w' h' γ' := by
  have hilt : i < listed.size := by rw [M.lsize]; exact (Array.getElem?_eq_some_iff.1 hi).1
  have hdi : Bf ops i = o.dst := by simp [Bf, hi]
  have hset : ∀ j d, (listed.setIfInBounds i true).getD j d = if j = i then true else listed.getD j d := fun j d => by
    by_cases hj : j = i
    · subst hj; simp [hilt]
    · rw [getD_set_ne d (Ne.symm hj)]; simp [hj]
  have hli : listed.getD i false = false := by rw [Array.getD_eq_getD_getElem?, Be hun]; rfl
  have hresj : ∀ j, j ≠ i → j < np → CZ pl (Bf ops) γ' j = CZ pl (Bf ops) γ j := fun j hj hjn => by
    unfold CZ
    split
    · rename_i x d e1 e2
      rw [hγ d (fun e3 => hj (hp.uniq i j o d hi hin hjn e3 e2))]
    · rfl
  refine ⟨Hp.le_trans M.le hl, ?_, by cases hd : o.dst <;> exact M.defers, ?_, ?_, ?_, ?_, by simpa using M.lsize, M.closed.set hr, fun j hj => getD_set_true (M.pure j hj)⟩
  · -- resources
    cases hr : CZ pl (Bf ops) γ' i with
    | nil =>
      rw [hr, List.nil_append] at hE
      refine Ends.perm hE (List.Perm.of_eq ?_)
      congr 1
      refine (D8 _ _ _ fun j hj => ?_).symm
      rw [hset]
      by_cases hji : j = i
      · subst hji; simp [hli, hr]
      · simp only [hji, if_false]
        split
        · exact hresj j hji (by simpa using hj)
        · rfl
    | cons x xs =>
      have hx : xs = [] := by
        unfold CZ at hr; split at hr
        · simp at hr; exact hr.2
        · cases hr
      subst hx
      rw [hr, List.singleton_append, ← List.cons_append] at hE
      refine Ends.perm hE (List.Perm.append_right _ ?_)
      refine H6 x _ _ i _ List.nodup_range (by simpa using hin) ?_ (by simp [hli]) (by rw [hset]; simp [hr])
      intro j hj hji
      rw [hset]
      simp only [hji, if_false]
      split
      · exact hresj j hji (by simpa using hj)
      · rfl
  · cases hd : o.dst <;> simp [Act.put, M.size]
  · intro t v hv hno
    have hne : o.dst ≠ some t := by rw [← hdi]; exact hno i hin
    cases hd : o.dst with
    | none => exact M.old t v hv hno
    | some d =>
      have : d ≠ t := fun e => hne (by rw [hd, e])
      simp [Act.put, Array.getElem?_setIfInBounds_ne this, M.old t v hv hno]
  · intro j hj hlj d hd
    by_cases hji : j = i
    · subst hji
      rw [hdi] at hd
      refine ⟨u, st, ?_, hst, hR d hd⟩
      rw [hd]; simp [Act.put, M.size, hbig d hd]
    · rw [hset] at hlj; simp only [hji, if_false] at hlj
      obtain ⟨u', st', e1, e2, e3⟩ := M.new j hj hlj d hd
      have hne : o.dst ≠ some d := fun e' => hji (hp.uniq i j o d hi hin hj e' hd)
      refine ⟨u', st', ?_, e2, ?_⟩
      · cases hd' : o.dst with
        | none => exact e1
        | some d' =>
          have : d' ≠ d := fun e => hne (by rw [hd', e])
          simp [Act.put, Array.getElem?_setIfInBounds_ne this, e1]
      · have := Rel.le hl e3
        rcases st' with v | V | x
        · exact this
        · exact this
        · simp only [Rel] at this ⊢; rw [hγ d hne]; exact this
  · intro j hj
    rw [hset]
    have : j ≠ i := by omega
    simp only [this, if_false]
    exact M.later j hj
theorem Ek {s : Ay} {o : Oper} {b : Bool} (hl : ∀ t ∈ o.looksAt ops, ∀ u, lk s t = some u → a.tmps[t]? = some u) (h : Wants ops o s b) : Region.wanted o (yielded ops a.tmps) = b := by
  unfold Wants at h
  unfold Region.wanted
  cases hg : o.guard with
  | none => simp only [hg] at h; simp [h]
  | some p =>
    obtain ⟨j, want⟩ := p
    simp only [hg] at h
    have hlk : ∀ dj u, Bf ops j = some dj → lk s dj = some u → a.tmps[dj]? = some u := fun dj u e1 e2 => by
      refine hl dj ?_ _ e2
      unfold Oper.looksAt
      refine List.mem_append_right _ ?_
      simp only [hg]
      unfold Bf at e1
      rw [e1]; simp
    rcases h with ⟨dj, b', e1, e2, e3⟩ | ⟨dj, e1, e2, e3⟩
    rotate_left
    · have h1 := hlk dj _ e1 e2
      have hy : yielded ops a.tmps j = none := by
        unfold yielded
        unfold Bf at e1
        rw [e1]; simp [h1, undef]
      simp only [hy, e3]; rfl
    have h1 : a.tmps[dj]? = some (.bool b') := hlk dj _ e1 e2
    have hy : yielded ops a.tmps j = some b' := by
      unfold yielded
      unfold Bf at e1
      rw [e1]; simp [h1]
    simp only [hy, e3]
    cases b' <;> cases want <;> rfl
theorem Mid.step (M : Mid e pu ops np pl s0 h0 ms listed a w h γ) (hp : U7 pu ops np) (hlen : pl.length = np) (hf : ∀ j, j < np → ∀ d, Bf ops j = some d → lk s0 d = none) (hbig : ∀ j, j < np → ∀ d, Bf ops j = some d → d < e.n) {i : Nat} {o : Oper} (hi : ops[i]? = some o) (hin : i < np) (hr : i ∈ Region.ready .any ops listed)
    {st : KH} (hst : pl[i]? = some st) (hok : StpOK e.P ops h0 ms o (C9 (ops.toList.take i) (pl.take i) s0) (Da (ops.toList.take i) (pl.take i)) st) {Q : Exit → Act → World → Prop} {K : Act → World → Prop}
    (hK : ∀ a' w' h' γ', Mid e pu ops np pl s0 h0 ms (listed.setIfInBounds i true) a' w' h' γ' → K a' w') : wpOp e.P ops Q i K a w := by
  have hun := (mem_ready.1 hr).1
  have hdi : Bf ops i = o.dst := by simp [Bf, hi]
  have hbig' : ∀ d, o.dst = some d → d < e.n := fun d hd => hbig i hin d (by rw [hdi, hd])
  have hlook := fun (t : Nat) (ht : t ∈ o.looksAt ops) (u : Value) hu => M.look hp hlen hf hi hin hr ht (u := u) hu
  have hsel : ∀ cs b, o.op ≠ .select cs b := fun cs b => Region.noSelect_spec hp.nosel i o cs b hi
  have hst0 : St w h0 ms := M.ends.st.weaken M.le (List.sublist_append_right _ _)
  have hsth : St w h ms := M.ends.st.weaken (Hp.le_refl _) (List.sublist_append_right _ _)
  unfold wpOp
  simp only [hi]
  have hresX : (∀ x, st ≠ .inr (.inr x)) → CZ pl (Bf ops) γ i = [] := fun hne => by
    unfold CZ; rw [hst]
    rcases st with v | V | x
    · rfl
    · rfl
    · exact absurd rfl (hne x)
  have hvalQ : ∀ q', (∀ p ∈ q', p ∈ Da (ops.toList.take i) (pl.take i) ∧ p.1 ∈ o.looksAt ops) → Rc q' (fun d => (a.tmps[d]?).getD undef) h ∧ ∀ t ∈ o.looksAt ops, ∀ u, lk (Ky q' (fun d => (a.tmps[d]?).getD undef) ++ C9 (ops.toList.take i) (pl.take i) s0) t = some u → a.tmps[t]? = some u := fun q' hq' => by
    refine ⟨fun d V hdV => ?_, fun t ht u hu => ?_⟩
    · obtain ⟨h1, h2⟩ := hq' _ hdV
      obtain ⟨u, e1, e2⟩ := M.lookQ hp hi hin hr h2 h1
      simp only [e1]; exact e2
    · rw [B9] at hu
      cases hq : lk (Ky q' fun d => (a.tmps[d]?).getD undef) t with
      | none => rw [hq] at hu; exact hlook t ht u hu
      | some u' =>
        rw [hq] at hu; cases hu
        have hm := Kz _ _ _ hq
        unfold Ky at hm
        obtain ⟨p, hp', e1⟩ := List.mem_map.1 hm
        obtain ⟨d, V⟩ := p
        simp only [Prod.mk.injEq] at e1
        obtain ⟨rfl, rfl⟩ := e1
        obtain ⟨h1, h2⟩ := hq' _ hp'
        obtain ⟨u, e1, e2⟩ := M.lookQ hp hi hin hr h2 h1
        simp [e1]
  -- an exact value, or none
  have exact_ : ∀ v, st = .inl v → ∀ w', Ext w w' → K (a.put o.dst v) w' := fun v hv w' he => by
    subst hv
    refine hK _ _ h γ (M.next hp hlen hi hin hr hun hbig' hst (Hp.le_refl _) (fun _ _ => rfl) (fun _ => rfl) (fun d _ => rfl) ?_)
    rw [hresX (fun x hx => by cases hx), List.nil_append]
    exact Ends.ext M.ends he
  rcases st with v | V | x
  · rcases hok with ⟨hw, hx⟩ | ⟨hw, q', hq', hx⟩ | ⟨hw, rfl⟩
    · rw [Ek hlook hw, if_pos rfl]
      exact .inl ((OpRes.looks hsel hlook fun ρ hρ => hx ρ w hρ hst0).wp fun v' w' ⟨e1, e2⟩ => by subst e1; exact exact_ _ rfl w' e2)
    · rw [Ek hlook hw, if_pos rfl]
      obtain ⟨hsat, hlook'⟩ := hvalQ q' hq'
      exact .inl ((OpRes.looks hsel hlook' fun ρ hρ => hx h M.le _ hsat ρ w hρ hsth).wp fun v' w' ⟨e1, e2⟩ => by subst e1; exact exact_ _ rfl w' e2)
    · rw [Ek hlook hw, if_neg (by simp)]
      exact exact_ _ rfl w (Ext.refl _)
  · obtain ⟨hw, hmono, hx⟩ := hok
    rw [Ek hlook hw, if_pos rfl]
    have fin : ∀ (h1 : Hp) (u : Value) (w' : World), h1.le h → (∃ h' : Hp, h1.le h' ∧ h'.inW w' ∧ (∀ k, k < w.heap.size → h' k = h1 k) ∧ Ext w w' ∧ V h' u) → K (a.put o.dst u) w' := fun h1 u w' hl ⟨h', g1, g2, g3, g4, g5⟩ => by
      obtain ⟨l1, l2, E⟩ := Ends.grow M.ends hl g1 g2 g3 g4
      refine hK _ _ _ γ (M.next hp hlen hi hin hr hun hbig' hst l1 (fun _ _ => rfl) (fun _ => rfl) (fun d _ => ⟨hmono, hmono _ _ _ l2 g5⟩) ?_)
      rw [hresX (fun x hx => by cases hx), List.nil_append]
      exact E
    rcases hx with hx | ⟨q', hq', hx⟩
    · exact .inl ((OpRes.looks hsel hlook fun ρ hρ => hx ρ w hρ hst0).wp fun u w' hh => fin h0 u w' M.le hh)
    · obtain ⟨hsat, hlook'⟩ := hvalQ q' hq'
      exact .inl ((OpRes.looks hsel hlook' fun ρ hρ => hx h M.le _ hsat ρ w hρ hsth).wp fun u w' hh => fin h u w' (Hp.le_refl _) hh)
  · obtain ⟨hw, ⟨d, hd⟩, hx⟩ := hok
    rw [Ek hlook hw, if_pos rfl]
    refine .inl ((OpRes.looks hsel hlook fun ρ hρ => hx ρ w hρ hst0).wp fun u w' ⟨e1, e2⟩ => ?_)
    subst e1 e2
    refine hK _ _ h (fun y => if y = d then w.heap.size else γ y) (M.next hp hlen hi hin hr hun hbig' hst (Hp.le_refl _) (fun y hy => ?_) (fun hne => absurd rfl (hne _)) (fun y hy => ?_) ?_)
    · have : y ≠ d := fun e => hy (by rw [hd, e])
      simp [this]
    · rw [hd] at hy; cases hy; simp [Rel]
    · have hres : CZ pl (Bf ops) (fun y => if y = d then w.heap.size else γ y) i = [AX w.heap.size x.1.1 x.1.2] := by
        unfold CZ; rw [hst, hdi, hd]; simp
      rw [hres, List.singleton_append]
      exact Ends.alloc M.ends _
theorem Mid.any (hp : U7 pu ops np) (hlen : pl.length = np) (hf : ∀ j, j < np → ∀ d, Bf ops j = some d → lk s0 d = none) (hbig : ∀ j, j < np → ∀ d, Bf ops j = some d → d < e.n)
    (hplan : ∀ i o, i < np → ops[i]? = some o → ∃ st, pl[i]? = some st ∧ StpOK e.P ops h0 ms o (C9 (ops.toList.take i) (pl.take i) s0) (Da (ops.toList.take i) (pl.take i)) st) {Q : Exit → Act → World → Prop}
    (hend : ∀ listed a w h γ, Mid e pu ops np pl s0 h0 ms listed a w h γ → (∀ j, j < np → listed.getD j false = true) → wpList e.P ops Q (ops.toList.drop np) a w) :
    ∀ fuel listed a w h γ, Mid e pu ops np pl s0 h0 ms listed a w h γ → left listed ≤ fuel → wpAny e.P .any ops Q fuel listed a w := by
  have alldone : ∀ fuel listed a w h γ, Mid e pu ops np pl s0 h0 ms listed a w h γ → left listed ≤ fuel → (∀ j, j < np → listed.getD j false = true) → wpAny e.P .any ops Q fuel listed a w := by
    intro fuel listed a w h γ M hle hall
    refine Rh hp _ np fuel listed a w rfl (Nat.le_refl _) M.closed M.lsize (fun j hj => ⟨fun h1 => ?_, fun h1 => h1.elim (hall j) (M.pure j)⟩) hle (hend _ _ _ _ _ M hall)
    rcases Nat.lt_or_ge j np with h2 | h2
    · exact .inl h2
    · rw [M.later j h2] at h1; exact .inr h1
  intro fuel
  induction fuel with
  | zero =>
    intro listed a w h γ M hle
    refine alldone 0 listed a w h γ M hle fun j hj => ?_
    have h1 := Hy (show left listed = 0 by omega) j
    have hjlt : j < listed.size := by rw [M.lsize]; exact Nat.lt_of_lt_of_le hj hp.le
    rw [Array.getD_eq_getD_getElem?] at h1 ⊢
    simp [hjlt] at h1 ⊢; exact h1
  | succ fuel ih =>
    intro listed a w h γ M hle
    by_cases hall : ∀ j, j < np → listed.getD j false = true
    · exact alldone _ listed a w h γ M hle hall
    · -- the least that is left is ready
      have hex : ∃ j, j < np ∧ listed.getD j false = false := by
        apply Classical.byContradiction
        intro hne
        exact hall fun j hj => by
          cases hl : listed.getD j false with
          | true => rfl
          | false => exact absurd ⟨j, hj, hl⟩ hne
      obtain ⟨k, hk, hkl, hmin⟩ : ∃ k, k < np ∧ listed.getD k false = false ∧ ∀ j, j < k → listed.getD j false = true := by
        obtain ⟨j, hj, hl⟩ := hex
        have : ∀ n j, j ≤ n → j < np → listed.getD j false = false → ∃ k, k < np ∧ listed.getD k false = false ∧ ∀ i, i < k → listed.getD i false = true := by
          intro n
          induction n with
          | zero => intro j hjn hj hl; exact ⟨j, hj, hl, fun i hi => by omega⟩
          | succ n ihn =>
            intro j hjn hj hl
            by_cases hc : ∃ i, i < j ∧ listed.getD i false = false
            · obtain ⟨i, hi, hil⟩ := hc
              exact ihn i (by omega) (by omega) hil
            · refine ⟨j, hj, hl, fun i hi => ?_⟩
              cases hil : listed.getD i false with
              | true => rfl
              | false => exact absurd ⟨i, hi, hil⟩ hc
        exact this j j (Nat.le_refl _) hj hl
      have hko : ∃ o, ops[k]? = some o := ⟨ops[k]'(Nat.lt_of_lt_of_le hk hp.le), by simp [Nat.lt_of_lt_of_le hk hp.le]⟩
      obtain ⟨ok, hko⟩ := hko
      have hkr : k ∈ Region.ready .any ops listed := by
        refine mem_ready.2 ⟨?_, ok, hko, fun ed hed hb => hmin _ (hp.backs k ok hko ed hed hb)⟩
        have hklt : k < listed.size := by rw [M.lsize]; exact Nat.lt_of_lt_of_le hk hp.le
        rw [Array.getD_eq_getD_getElem?] at hkl ⊢
        simp [hklt] at hkl ⊢; exact hkl
      refine ⟨fun h0' => (by rw [h0'] at hkr; cases hkr), fun i hir => ?_⟩
      obtain ⟨hun, o, ho, _⟩ := mem_ready.1 hir
      have hin : i < np := by
        rcases Nat.lt_or_ge i np with h2 | h2
        · exact h2
        · have hipu : pu.contains i = false := by
            rw [← M.later i h2]
            rw [Array.getD_eq_getD_getElem?, Be hun]; rfl
          have := HV M.closed hir ((hp.tail i k (Array.getElem?_eq_some_iff.1 ho).1 h2 hipu (by omega)).resolve_left fun h' => by have := M.pure k h'; rw [hkl] at this; cases this)
          rw [hkl] at this; cases this
      obtain ⟨st, hst, hok⟩ := hplan i o hin ho
      have hls := GF (Be hun)
      exact M.step hp hlen hf hbig ho hin hir hst hok fun a' w' h' γ' M' => ih _ a' w' h' γ' M' (by omega)
end sound
def HI (n : Nat) : List Oper → Ay → Bool
  | [], _ => true
  | o :: l, s => (match o.dst with | some d => (match lk s d with | none => true | some _ => false) && Nat.blt d n | none => true) && HI n l s
theorem HZ {n : Nat} : ∀ (l : List Oper) (s : Ay), HI n l s = true → ∀ (j : Nat) (o : Oper) (d : Nat), l[j]? = some o → o.dst = some d → lk s d = none ∧ d < n
  | [], _, _, j, o, d, h, _ => by cases h
  | o :: l, s, H, j, o', d, h, hd => by
    simp only [HI, Bool.and_eq_true] at H
    cases j with
    | zero =>
      simp at h; subst h
      have h1 := H.1
      simp only [hd, Bool.and_eq_true] at h1
      refine ⟨?_, Nat.le_of_ble_eq_true h1.2⟩
      cases hl : lk s d with
      | none => rfl
      | some v => rw [hl] at h1; cases h1.1
    | succ j => exact HZ l s H.2 j o' d (by simpa using h) hd
theorem KV {e : Entry} {pu : List Nat} {l : List Oper} {Q : Exit → Act → World → Prop} {s : Ay} {h : Hp} {ms : List Hp} (np : Nat) (hp : Mb pu l.toArray np = true) (hf : HI e.n (l.take np) s = true)
    (k : WR e l.toArray Q (l.drop np) h ms (l.take np) s [] []) {listed : Array Bool} (hl1 : listed.size = l.length) (hl2 : ∀ i, listed.getD i false = pu.contains i) (hl3 : Closed l.toArray listed) (hl4 : ∀ i, pu.contains i = true → Bf l.toArray i = none) {fuel : Nat} (hfu : left listed ≤ fuel)
    {a : Act} {w : World} (ha : Has e.n e.ds a s) (hw : e.Ends w h ms) : wpAny e.P .any l.toArray Q fuel listed a { w with drawn := w.drawn + 1 } := by
  have P := Iz hp
  have hnp : np ≤ l.length := by simpa using P.le
  obtain ⟨pl, hlen, hplan, hfin⟩ := Ia _ _ _ _ k
  have hlen' : pl.length = np := by rw [hlen, List.length_take]; omega
  have hd : ∀ j d, j < np → Bf l.toArray j = some d → lk s d = none ∧ d < e.n := fun j d hj hd => by
    unfold Bf at hd
    simp only [List.getElem?_toArray] at hd
    cases ho : l[j]? with
    | none => rw [ho] at hd; cases hd
    | some o =>
      rw [ho] at hd
      exact HZ _ _ hf j o d (by rw [List.getElem?_take, if_pos hj]; exact ho) hd
  have hw1 : e.Ends { w with drawn := w.drawn + 1 } h ms := Ends.drew hw
  have M0 : Mid e pu l.toArray np pl s h ms listed a { w with drawn := w.drawn + 1 } h (fun _ => 0) := by
    refine ⟨Hp.le_refl _, ?_, ha.defers, ha.size, fun t u hu _ => ha.slots t u hu, fun j _ hj d hd => ?_, fun j hj => ?_, by simpa using hl1, hl3, fun j hj => by rw [hl2]; exact hj⟩
    · have : (List.range np).flatMap (fun j => if listed.getD j false then CZ pl (Bf l.toArray) (fun _ => 0) j else []) = [] := by
        rw [List.flatMap_eq_nil_iff]
        intro j _; rw [hl2]
        cases hc : pu.contains j with
        | false => rfl
        | true => simp only [if_true]; unfold CZ; rw [hl4 j hc]; split <;> first | rfl | (rename_i hh; cases hh)
      rw [this]; exact hw1
    · rw [hl2] at hj; rw [hl4 j hj] at hd; cases hd
    · exact hl2 j
  refine (Mid.any P hlen' (fun j hj d hdj => (hd j d hj hdj).1) (fun j hj d hdj => (hd j d hj hdj).2) ?_ ?_ _ _ _ _ _ _ M0 hfu)
  · intro i o hi ho
    have ho' : (l.take np)[i]? = some o := by rw [List.getElem?_take, if_pos hi]; simpa using ho
    obtain ⟨st, e1, e2⟩ := PlanOK.get _ _ _ _ hplan i o ho'
    refine ⟨st, e1, ?_⟩
    have e3 : (l.take np).take i = l.toArray.toList.take i := by rw [List.take_take]; congr 1; omega
    rw [e3] at e2
    simpa using e2
  · intro listed a w h' γ M hall
    have hfd : ∀ t u, lk (C9 (l.take np) pl s) t = some u → a.tmps[t]? = some u := fun t u hu => by
      rcases GU _ _ _ _ _ hu with ⟨j, o, h1, h2, h3⟩ | h1
      · have hj : j < np := by
          have := (List.getElem?_eq_some_iff.1 h1).1; simp at this; omega
        have hdj : Bf l.toArray j = some t := by
          rw [List.getElem?_take, if_pos hj] at h1; simp [Bf, h1, h2]
        obtain ⟨u', st, e1, e2, e3⟩ := M.new j hj (hall j hj) t hdj
        rw [h3] at e2; cases e2
        simp only [Rel] at e3; rw [e1, e3]
      · exact M.old t u h1 fun j hj hdj => by rw [(hd j t hj hdj).1] at h1; cases h1
    have hres : ((List.range np).flatMap fun j => if listed.getD j false then CZ pl (Bf l.toArray) γ j else []) = KJ (CT (l.take np) pl) γ := by
      rw [← NG γ (l.take np) pl hlen]
      have hlt : (l.take np).length = np := by rw [List.length_take]; omega
      rw [hlt]
      refine D8 _ _ _ fun j hj => ?_
      have hj' : j < np := by simpa using hj
      rw [hall j hj', if_pos rfl]
      unfold CZ Bf
      simp only [List.getElem?_toArray]
      rw [List.getElem?_take, if_pos hj']
    have hslotA : ∀ t u, lk (LI (CT (l.take np) pl) γ) t = some u → a.tmps[t]? = some u := fun t u hu => by
      have hm := Kz _ _ _ hu
      unfold LI at hm
      obtain ⟨p, hp', e1⟩ := List.mem_map.1 hm
      obtain ⟨d, x⟩ := p
      simp only [Prod.mk.injEq] at e1
      obtain ⟨rfl, rfl⟩ := e1
      obtain ⟨j, o, h1, h2, h3⟩ := Gb _ _ _ _ hp'
      have hj : j < np := by
        have := (List.getElem?_eq_some_iff.1 h1).1; simp at this; omega
      have hdj : Bf l.toArray j = some d := by
        rw [List.getElem?_take, if_pos hj] at h1; simp [Bf, h1, h2]
      obtain ⟨u', st, e1, e2, e3⟩ := M.new j hj (hall j hj) d hdj
      rw [h3] at e2; cases e2
      simp only [Rel] at e3; rw [e1, e3]
    have hq : ∀ d V, (d, V) ∈ Da (l.take np) pl → ∃ u, a.tmps[d]? = some u ∧ V h' u := fun d V hm => by
      obtain ⟨j, o, h1, h2, h3⟩ := EQ _ _ _ _ hm
      have hj : j < np := by
        have := (List.getElem?_eq_some_iff.1 h1).1; simp at this; omega
      have hdj : Bf l.toArray j = some d := by
        rw [List.getElem?_take, if_pos hj] at h1; simp [Bf, h1, h2]
      obtain ⟨u', st, e1, e2, e3⟩ := M.new j hj (hall j hj) d hdj
      rw [h3] at e2; cases e2
      exact ⟨u', e1, e3.2⟩
    have hE := M.ends
    rw [hres] at hE
    have hA : ∀ t u, lk (LI (CT (l.take np) pl) γ ++ C9 (l.take np) pl s) t = some u → a.tmps[t]? = some u := fun t u hu => by
      rw [B9] at hu
      cases hv : lk (LI (CT (l.take np) pl) γ) t with
      | none => rw [hv] at hu; exact hfd t u hu
      | some u' => rw [hv] at hu; cases hu; exact hslotA t _ hv
    simp only [List.nil_append] at hfin
    have hdr : l.toArray.toList.drop np = l.drop np := rfl
    rw [hdr]
    rcases hfin with ⟨_, hfin⟩ | hfin
    · exact hfin γ a w ⟨M.defers, M.size, hA⟩ (Ends.back hE hw M.le)
    · refine hfin h' M.le (fun d => (a.tmps[d]?).getD undef) γ (fun d V hm => ?_) a w ⟨M.defers, M.size, fun t u hu => ?_⟩ hE
      · obtain ⟨u, e1, e2⟩ := hq d V hm
        simp only [e1]; exact e2
      · rw [B9] at hu
        cases hv : lk (Ky (Da (l.take np) pl) fun d => (a.tmps[d]?).getD undef) t with
        | none => rw [hv] at hu; exact hA t u hu
        | some u' =>
          rw [hv] at hu; cases hu
          have hm := Kz _ _ _ hv
          unfold Ky at hm
          obtain ⟨p, hp', e1⟩ := List.mem_map.1 hm
          obtain ⟨d, V⟩ := p
          simp only [Prod.mk.injEq] at e1
          obtain ⟨rfl, rfl⟩ := e1
          obtain ⟨u, e1, e2⟩ := hq d V hp'
          simp [e1]
theorem BM (n i : Nat) : (Array.replicate n false).getD i false = false := by
  rw [Array.getD_eq_getD_getElem?]
  by_cases hi : i < n
  · simp [hi]
  · simp [Array.getElem?_eq_none, hi]
theorem BB {e : Entry} {id : Nat} {l : List Oper} {Q : Exit → Act → World → Prop} {s : Ay} {h : Hp} {ms : List Hp} (np : Nat) (hm : e.P.follows .mixedOrders = true) (hp : Mb [] l.toArray np = true) (hf : HI e.n (l.take np) s = true)
    (k : WR e l.toArray Q (l.drop np) h ms (l.take np) s [] []) : WS e (.region id l.toArray true) Q s h ms := by
  intro a w ha hw
  refine wp_region_any hm (KV np hp hf k (by simp) (fun i => by rw [BM]; rfl) (fun i o hi => by rw [BM] at hi; cases hi) (fun i hi => by cases hi) ?_ ha hw)
  unfold left; rw [Array.toList_replicate]; exact Nat.le_trans (List.countP_le_length) (by simp)
end Go.Eng
namespace Go.Eng
open Go.RowKit
variable {s' : Ay} {b : Bool} {d j dj t : Nat} {v : Value} {P : Program}
section
variable {e : Entry} {ops : Array Oper} {Q : Exit → Act → World → Prop} {tl : List Oper} {h : Hp} {ms : List Hp} {l : List Oper} {o : Oper} {s : Ay} {q : List (Nat × VP)} {al : List (Nat × Nb)}
theorem Wants.plain (hg : o.guard = none) : Wants ops o s true := by unfold Wants; rw [hg]
theorem Wants.yes (hg : o.guard = some (j, b)) (hj : Bf ops j = some dj) (hv : lk s dj = some (.bool b)) : Wants ops o s true := by
  unfold Wants; rw [hg]; exact .inl ⟨dj, b, hj, hv, by cases b <;> rfl⟩
theorem Wants.no {b' : Bool} (hg : o.guard = some (j, b)) (hj : Bf ops j = some dj) (hv : lk s dj = some (.bool b')) (hne : (b' == b) = false) : Wants ops o s false := by
  unfold Wants; rw [hg]; exact .inl ⟨dj, b', hj, hv, hne.symm⟩
theorem AV (hx : OX e.P o s h ms v) (hd : o.dst = some d) (hg : o.guard = none) (k : WR e ops Q tl h ms l ((d, v) :: s) q al) : WR e ops Q tl h ms (o :: l) s q al :=
  .inl ⟨v, .inl ⟨.plain hg, hx⟩, by rw [hd]; exact k⟩
theorem Bp (hx : OX e.P o s h ms v) (hd : o.dst = some d) (hg : o.guard = some (j, b)) (hj : Bf ops j = some dj) (hv : lk s dj = some (.bool b)) (k : WR e ops Q tl h ms l ((d, v) :: s) q al) : WR e ops Q tl h ms (o :: l) s q al :=
  .inl ⟨v, .inl ⟨.yes hg hj hv, hx⟩, by rw [hd]; exact k⟩
theorem AN {b' : Bool} (hd : o.dst = some d) (hg : o.guard = some (j, b)) (hj : Bf ops j = some dj) (hv : lk s dj = some (.bool b')) (hne : (b' == b) = false) (k : WR e ops Q tl h ms l ((d, undef) :: s) q al) : WR e ops Q tl h ms (o :: l) s q al :=
  .inl ⟨undef, .inr (.inr ⟨.no hg hj hv hne, rfl⟩), by rw [hd]; exact k⟩
theorem U9 {x : Nb} (hx : WE e.P o s h ms x) (hd : o.dst = some d) (hg : o.guard = none) (k : WR e ops Q tl h ms l s q (al ++ [(d, x)])) : WR e ops Q tl h ms (o :: l) s q al :=
  .inr (.inr ⟨x, ⟨.plain hg, ⟨d, hd⟩, hx⟩, by rw [hd]; exact k⟩)
theorem DX {t el : TypeId} {sz : Nat} {z : Value} {bytes : Nat} {x : Operand} (zl : List Value) (ho : o.op = .buildSlice t 1 #[(0, x)]) (ht : P.underlying t = some (.slice el)) (hs : Elem P el sz z bytes) (hx : ev s x = some v) (hv : v.cells = zl.toArray) (hl : zl.length = sz) (hzs : z.cells.size = sz) (hsz : 0 < sz ∧ sz ≤ 1000) :
    WE P o s h ms ((el, zl), fun g => .slice (some ⟨g, 0, none⟩) 1 1) := fun ρ w hρ hw => by
  have := Fs (P := P) zl ht hs hv hl hzs hsz w
  have : (execOp ρ o).run P w = .ok (.value (.slice (some ⟨w.heap.size, 0, none⟩) 1 1)) (w.alloc (.cells zl.toArray el)) := by
    simp [execOp, ho, hρ _ _ hx, this]
  unfold OpRes; rw [this]; exact ⟨rfl, rfl⟩
theorem BC (k : WL e ops Q tl s h ms) : WR e ops Q tl h ms [] s [] [] := .inl ⟨rfl, fun _ => k⟩
theorem Ko {zl : List Value} {f : Nat → Value} (k : ∀ g, WL e ops Q tl ((d, f g) :: s) h (AX g t zl :: ms)) : WR e ops Q tl h ms [] s [] [(d, ((t, zl), f))] := .inl ⟨rfl, fun γ => k (γ d)⟩
theorem VA {s : Ay} (he : ∀ t, lk s t = lk s' t) (x : Operand) : ev s x = ev s' x := by cases x <;> first | exact he _ | rfl
theorem Evs.ext {s : Ay} (he : ∀ t, lk s t = lk s' t) {ρ : Operand → Value} (H : Evs s' ρ) : Evs s ρ := fun x u hu => H x u (by rw [← VA he]; exact hu)
theorem OX.ext {s : Ay} (he : ∀ t, lk s t = lk s' t) (H : OX P o s h ms v) : OX P o s' h ms v := fun ρ w hρ hw => H ρ w (Evs.ext he hρ) hw
theorem OPX.ext {s : Ay} {V : VP} (he : ∀ t, lk s t = lk s' t) (H : OPX P o s h ms V) : OPX P o s' h ms V := fun ρ w hρ hw => H ρ w (Evs.ext he hρ) hw
theorem CM {s : Ay} (he : ∀ t, lk s t = lk s' t) (a : Ay) (t : Nat) : lk (a ++ s) t = lk (a ++ s') t := by rw [B9, B9, he]
theorem Wants.ext {s : Ay} (he : ∀ t, lk s t = lk s' t) (H : Wants ops o s b) : Wants ops o s' b := by
  unfold Wants at *
  cases hg : o.guard with
  | none => simp only [hg] at H; exact H
  | some p => simp only [hg] at H; exact H.imp (fun ⟨dj, b', e1, e2, e3⟩ => ⟨dj, b', e1, by rw [← he]; exact e2, e3⟩) (fun ⟨dj, e1, e2, e3⟩ => ⟨dj, e1, by rw [← he]; exact e2, e3⟩)
theorem StpOK.ext {s : Ay} {st : KH} (he : ∀ t, lk s t = lk s' t) (H : StpOK P ops h ms o s q st) : StpOK P ops h ms o s' q st := by
  rcases st with v | V | x
  · rcases H with ⟨h1, h2⟩ | ⟨h1, q', h2, h3⟩ | ⟨h1, h2⟩
    · exact .inl ⟨h1.ext he, OX.ext he h2⟩
    · exact .inr (.inl ⟨h1.ext he, q', h2, fun h' hl val hs => OX.ext (CM he _) (h3 h' hl val hs)⟩)
    · exact .inr (.inr ⟨h1.ext he, h2⟩)
  · obtain ⟨h1, h2, h3⟩ := H
    refine ⟨h1.ext he, h2, ?_⟩
    rcases h3 with h3 | ⟨q', h3, h4⟩
    · exact .inl (OPX.ext he h3)
    · exact .inr ⟨q', h3, fun h' hl val hs => OPX.ext (CM he _) (h4 h' hl val hs)⟩
  · exact ⟨H.1.ext he, H.2.1, fun ρ w hρ hw => H.2.2 ρ w (Evs.ext he hρ) hw⟩
theorem WL.ext {s : Ay} (he : ∀ t, lk s t = lk s' t) (H : WL e ops Q l s h ms) : WL e ops Q l s' h ms :=
  fun a w ha hw => H a w ⟨ha.defers, ha.size, fun i v hi => ha.slots i v (by rw [← he]; exact hi)⟩ hw
theorem WR.ext : ∀ (l : List Oper) (s s' : Ay) (q : List (Nat × VP)) (al : List (Nat × Nb)), (∀ t, lk s t = lk s' t) → WR e ops Q tl h ms l s q al → WR e ops Q tl h ms l s' q al
  | [], s, s', q, al, he, H => by
    rcases H with ⟨h1, h2⟩ | h2
    · exact .inl ⟨h1, fun γ => WL.ext (CM he _) (h2 γ)⟩
    · exact .inr fun h' hl val γ hs => WL.ext (CM (CM he _) _) (h2 h' hl val γ hs)
  | o :: l, s, s', q, al, he, H => by
    rcases H with ⟨v, h1, h2⟩ | ⟨V, h1, h2⟩ | ⟨x, h1, h2⟩
    · refine .inl ⟨v, h1.ext he, WR.ext l _ _ _ _ ?_ h2⟩
      cases o.dst with
      | none => exact he
      | some d => exact fun t => CM he [(d, v)] t
    · exact .inr (.inl ⟨V, h1.ext he, WR.ext l _ _ _ _ he h2⟩)
    · exact .inr (.inr ⟨x, h1.ext he, WR.ext l _ _ _ _ he h2⟩)
theorem DR {p : Prop} {_ : Decidable p} (hc : lk s t = some (.bool (decide p))) (kt : p → WR e ops Q tl h ms l ((t, .bool true) :: s) q al) (kf : ¬ p → WR e ops Q tl h ms l ((t, .bool false) :: s) q al) : WR e ops Q tl h ms l s q al := by
  by_cases hp : p
  · refine WR.ext l _ _ _ _ (fun i => ?_) (kt hp)
    by_cases hi : t = i
    · subst hi; rw [Bt, hc]; simp [hp]
    · rw [Bq _ _ hi]
  · refine WR.ext l _ _ _ _ (fun i => ?_) (kf hp)
    by_cases hi : t = i
    · subst hi; rw [Bt, hc]; simp [hp]
    · rw [Bq _ _ hi]
theorem OQ (hc : lk s t = some (.bool b)) (kt : b = true → WR e ops Q tl h ms l ((t, .bool true) :: s) q al) (kf : b = false → WR e ops Q tl h ms l ((t, .bool false) :: s) q al) : WR e ops Q tl h ms l s q al := by
  have e1 : decide (b = true) = b := by cases b <;> rfl
  exact DR (p := b = true) (by rw [hc, e1]) kt (fun hb => kf (by simpa using hb))
end
end Go.Eng
