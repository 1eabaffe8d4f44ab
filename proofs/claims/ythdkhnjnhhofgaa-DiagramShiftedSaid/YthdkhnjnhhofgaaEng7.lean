/- The engine, part 7: slices that are read by their elements; lists of typed data. -/
import Derived.Test.YthdkhnjnhhofgaaEng6
set_option linter.unusedSimpArgs false
set_option linter.unusedVariables false
namespace Go.Eng
open Go.RowKit

/-- Where a slice's cells begin. -/
def vbase : Value → Addr
  | .slice (some p) _ _ => p
  | _ => ⟨0, 0, none⟩
/-- A part of a slice. -/
def vsub (sz : Nat) (v : Value) (i j : Nat) : Value :=
  match v with
  | .slice a _ c => .slice (if c = i then a else a.map (·.add (i * sz))) (j - i) (c - i)
  | u => u

theorem Rd.val {h : Hp} {ms : List Hp} {v : Value} {sz n : Nat} {cs : List Value} (R : Rd h ms v sz n cs) (hn : 0 < n) : ∃ c, v = .slice (some (vbase v)) n c ∧ Seg h ms (vbase v) cs := by
  obtain ⟨a, c, rfl, e2, e3, e4, e5⟩ := R.ex
  obtain ⟨q, rfl, hs⟩ := e5 hn
  exact ⟨c, rfl, hs⟩
theorem Rd.len_le {h : Hp} {ms : List Hp} {v : Value} {sz n : Nat} {cs : List Value} (R : Rd h ms v sz n cs) : n ≤ 9223372036854775807 := by
  obtain ⟨a, c, rfl, e2, e3, e4, e5⟩ := R.ex; omega
theorem Rd.cells {h : Hp} {ms : List Hp} {v : Value} {sz n : Nat} {cs : List Value} (R : Rd h ms v sz n cs) : v.cells = [v].toArray := by
  obtain ⟨a, c, rfl, _⟩ := R.ex; rfl
theorem Rd.one {h : Hp} {ms : List Hp} {v : Value} {sz n : Nat} {cs : List Value} (R : Rd h ms v sz n cs) : v.oneCell' = true := by
  obtain ⟨a, c, rfl, _⟩ := R.ex; rfl
theorem Rd.blk {h : Hp} {ms : List Hp} {g : Nat} {el : TypeId} {sz n c : Nat} {cs : List Value} (hm : Blk g el cs ∈ ms) (hl : cs.length = n * sz) (hn : n ≤ c) (hc : c ≤ 9223372036854775807) : Rd h ms (.slice (some ⟨g, 0, none⟩) n c) sz n cs := by
  refine ⟨_, c, rfl, hn, hc, hl, fun _ => ⟨_, rfl, ?_⟩⟩
  obtain ⟨i, hi⟩ := List.getElem?_of_mem hm
  exact Seg.blk i hi
theorem Rd.sub_ {h : Hp} {ms : List Hp} {v : Value} {sz n : Nat} {cs : List Value} (R : Rd h ms v sz n cs) {i j : Nat} (hi : i ≤ j) (hj : j ≤ n) : Rd h ms (vsub sz v i j) sz (j - i) ((cs.drop (i * sz)).take ((j - i) * sz)) := by
  obtain ⟨a, c, rfl, e2, e3, e4, e5⟩ := R.ex
  refine ⟨_, c - i, rfl, by omega, by omega, ?_, fun hlt => ?_⟩
  · rw [List.length_take, List.length_drop, e4]
    have h1 : (j - i) * sz ≤ n * sz - i * sz := by rw [← Nat.sub_mul]; exact Nat.mul_le_mul_right _ (by omega)
    omega
  · obtain ⟨q, rfl, hs⟩ := e5 (by omega)
    have hci : ¬ c = i := by omega
    refine ⟨q.add (i * sz), by simp [hci], fun k u hu => ?_⟩
    rw [addr_add_add]
    refine hs _ u ?_
    rw [List.getElem?_take] at hu
    split at hu
    · rw [List.getElem?_drop] at hu; exact hu
    · cases hu

/-- A slice that reads as a list. -/
structure RdL {α : Type} (F : α → List Value) (sz : Nat) (h : Hp) (ms : List Hp) (v : Value) (l : List α) : Prop where
  rd : Rd h ms v sz l.length (l.flatMap F)
  len : ∀ x, (F x).length = sz
/-- A slice that owns its row, which reads as a list. -/
structure OwnL {α : Type} (F : α → List Value) (sz : Nat) (el : TypeId) (m : Hp) (v : Value) (l : List α) : Prop where
  own : Own el sz m v l.length (l.flatMap F)
  len : ∀ x, (F x).length = sz

section
variable {α : Type} {F : α → List Value} {sz : Nat} {h h' : Hp} {ms ms' : List Hp} {v : Value} {l : List α} {el : TypeId} {m : Hp}
theorem RdL.up (R : RdL F sz h ms v l) (hl : h.le h') : RdL F sz h' ms v l := ⟨R.rd.le hl, R.len⟩
theorem RdL.sub (R : RdL F sz h ms v l) (hm : ∀ m ∈ ms, m ∈ ms') : RdL F sz h ms' v l := ⟨R.rd.sub hm, R.len⟩
theorem RdL.any (R : RdL F sz h [] v l) : RdL F sz h ms v l := R.sub (by simp)
theorem RdL.len_le (R : RdL F sz h ms v l) : l.length ≤ 9223372036854775807 := R.rd.len_le
theorem OwnL.rd (O : OwnL F sz el m v l) (hm : m ∈ ms) : RdL F sz h ms v l := ⟨O.own.rd hm, O.len⟩
theorem OwnL.rdh (O : OwnL F sz el m v l) (hm : m.le h) : RdL F sz h ms v l := ⟨O.own.rdh hm, O.len⟩
theorem OwnL.frozen (O : OwnL F sz el m v l) {h0 : Hp} (hd : m.disj h0) : RdL F sz (h0.join m) ms v l := O.rdh (Hp.join_le_right hd)
theorem OwnL.nil (hF : ∀ x, (F x).length = sz) : OwnL F sz el Hp.emp (.slice none 0 0) [] := ⟨Own.nil el sz, hF⟩

theorem flatMap_drop (hF : ∀ x, (F x).length = sz) : ∀ (l : List α) (j : Nat), (l.flatMap F).drop (j * sz) = (l.drop j).flatMap F
  | [], j => by simp
  | x :: l, 0 => by simp
  | x :: l, j + 1 => by
    rw [List.flatMap_cons, Nat.add_mul, Nat.one_mul, Nat.add_comm, ← List.drop_drop, ← hF x, List.drop_left, hF x, flatMap_drop hF l j]; rfl
theorem flatMap_take (hF : ∀ x, (F x).length = sz) : ∀ (l : List α) (j : Nat), (l.flatMap F).take (j * sz) = (l.take j).flatMap F
  | [], j => by simp
  | x :: l, 0 => by simp
  | x :: l, j + 1 => by
    rw [List.flatMap_cons, Nat.add_mul, Nat.one_mul, Nat.add_comm, List.take_append, hF x, List.take_of_length_le (by rw [hF x]; omega), Nat.add_sub_cancel_left, flatMap_take hF l j]; rfl
theorem flatMap_len (hF : ∀ x, (F x).length = sz) (l : List α) : (l.flatMap F).length = l.length * sz := by
  induction l with
  | nil => simp
  | cons x l ih => rw [List.flatMap_cons, List.length_append, hF, ih, List.length_cons, Nat.add_mul]; omega
theorem flatMap_get (hF : ∀ x, (F x).length = sz) (l : List α) (j : Nat) (hj : j < l.length) (f : Nat) (u : Value) (hf : (F l[j])[f]? = some u) : (l.flatMap F)[j * sz + f]? = some u := by
  have h1 : ((l.flatMap F).drop (j * sz))[f]? = some u := by
    rw [flatMap_drop hF, List.drop_eq_getElem_cons hj, List.flatMap_cons, List.getElem?_append_left (List.getElem?_eq_some_iff.1 hf).1]; exact hf
  rwa [List.getElem?_drop] at h1

/-- A field of an element. -/
theorem RdL.cell (R : RdL F sz h ms v l) {j : Nat} (hj : j < l.length) {f : Nat} {u : Value} (hf : (F l[j])[f]? = some u) : Cell h ms (((vbase v).add (j * sz)).add f) u := by
  obtain ⟨c, _, hs⟩ := R.rd.val (by omega)
  rw [addr_add_add]
  exact hs _ u (flatMap_get R.len l j hj f u hf)
theorem RdL.cell0 (R : RdL F sz h ms v l) {j : Nat} (hj : j < l.length) {u : Value} (hf : (F l[j])[0]? = some u) : Cell h ms ((vbase v).add (j * sz)) u := by
  have := R.cell hj hf; rwa [addr_add_zero] at this
/-- A whole element. -/
theorem RdL.seg (R : RdL F sz h ms v l) {j : Nat} (hj : j < l.length) : Seg h ms ((vbase v).add (j * sz)) (F l[j]) := fun f u hf => R.cell hj hf

theorem RdL.sub_ (R : RdL F sz h ms v l) {i j : Nat} (hi : i ≤ j) (hj : j ≤ l.length) : RdL F sz h ms (vsub sz v i j) ((l.drop i).take (j - i)) := by
  refine ⟨?_, R.len⟩
  have := R.rd.sub_ hi hj
  rw [flatMap_drop R.len, flatMap_take R.len] at this
  have e : ((l.drop i).take (j - i)).length = j - i := by rw [List.length_take, List.length_drop]; omega
  rw [e]; exact this
end

section
variable {P : Program} {o : Oper} {s : Slots} {h : Hp} {ms : List Hp} {t el : TypeId} {x y lo hi : Operand} {v : Value} {sz n : Nat} {cs : List Value} {z : Value} {bytes : Nat} {k k' : IntKind}
theorem ox_indexR {i : Int} (j : Nat) (R : Rd h ms v sz n cs) (ho : o.op = .indexAddr t x y) (ht : P.underlying t = some (.slice el)) (hs : Elem P el sz z bytes) (hx : ev s x = some v) (hy : ev s y = some (.int k i)) (hi : i = (j : Int)) (hlt : j < n) : OX P o s h ms (.pointer (some ((vbase v).add (j * sz)))) := by
  obtain ⟨c, e, _⟩ := R.val (by omega)
  rw [e] at hx
  exact ox_index j ho ht hs hx hy hi hlt
theorem ox_lenR (R : Rd h ms v sz n cs) (ho : o.op = .call { callee := .builtin .len, args := #[x], argTypes := #[t] }) (ht : P.underlying t = some (.slice el)) (hx : ev s x = some v) : OX P o s h ms (.int .i64 n) := by
  obtain ⟨a, c, rfl, _⟩ := R.ex
  exact ox_len (ty := t) ho ht hx
theorem ox_sliceR_lh {l r : Int} (i j : Nat) (R : Rd h ms v sz n cs) (ho : o.op = .slice t x (some lo) (some hi) none) (ht : P.underlying t = some (.slice el)) (hs : Elem P el sz z bytes) (hx : ev s x = some v) (hlo : ev s lo = some (.int k l)) (hhi : ev s hi = some (.int k' r)) (el' : l = (i : Int)) (er : r = (j : Int)) (h1 : i ≤ j) (h2 : j ≤ n) :
    OX P o s h ms (vsub sz v i j) := by
  obtain ⟨a, c, rfl, e2, e3, e4, e5⟩ := R.ex
  exact ox_of fun ρ w hρ _ => by
    have g1 : (0 : Int) ≤ l ∧ l ≤ (j : Int) := by omega
    have g2 : (0 : Int) ≤ r ∧ r ≤ (c : Int) := by omega
    have g3 : l.toNat = i := by omega
    have g4 : r.toNat = j := by omega
    simp [execOp, ho, hρ _ _ hx, hρ _ _ hlo, hρ _ _ hhi, Instr.sliceAt, Instr.slice, run_underlying ht, Instr.sliceBounds, Instr.sliceBound, asIntOf, g1, g2, g3, g4, hs.sizeOf, vsub]
theorem ox_sliceR_l {l : Int} (i : Nat) (R : Rd h ms v sz n cs) (ho : o.op = .slice t x (some lo) none none) (ht : P.underlying t = some (.slice el)) (hs : Elem P el sz z bytes) (hx : ev s x = some v) (hlo : ev s lo = some (.int k l)) (el' : l = (i : Int)) (h1 : i ≤ n) :
    OX P o s h ms (vsub sz v i n) := by
  obtain ⟨a, c, rfl, e2, e3, e4, e5⟩ := R.ex
  exact ox_of fun ρ w hρ _ => by
    have g1 : (0 : Int) ≤ l ∧ l ≤ (n : Int) := by omega
    have g3 : l.toNat = i := by omega
    simp [execOp, ho, hρ _ _ hx, hρ _ _ hlo, Instr.sliceAt, Instr.slice, run_underlying ht, Instr.sliceBounds, Instr.sliceBound, asIntOf, g1, g3, hs.sizeOf, vsub]
theorem ox_sliceR_h {r : Int} (j : Nat) (R : Rd h ms v sz n cs) (ho : o.op = .slice t x none (some hi) none) (ht : P.underlying t = some (.slice el)) (hs : Elem P el sz z bytes) (hx : ev s x = some v) (hhi : ev s hi = some (.int k r)) (er : r = (j : Int)) (h2 : j ≤ n) :
    OX P o s h ms (vsub sz v 0 j) := by
  obtain ⟨a, c, rfl, e2, e3, e4, e5⟩ := R.ex
  exact ox_of fun ρ w hρ _ => by
    have g2 : (0 : Int) ≤ r ∧ r ≤ (c : Int) := by omega
    have g4 : r.toNat = j := by omega
    simp [execOp, ho, hρ _ _ hx, hρ _ _ hhi, Instr.sliceAt, Instr.slice, run_underlying ht, Instr.sliceBounds, Instr.sliceBound, asIntOf, g2, g4, hs.sizeOf, vsub]
theorem vsub_cells {sz : Nat} {v : Value} {i j : Nat} (h : v.cells = [v].toArray) : (vsub sz v i j).cells = [vsub sz v i j].toArray := by
  cases v <;> first | rfl | exact h
end

section
variable {e : Entry} {Q : Exit → Act → World → Prop} {ops : Array Oper} {rest : List Oper} {o : Oper} {s : Slots} {h : Hp} {ms : List Hp} {α : Type} {F : α → List Value}
/-- append of what reads as a list. -/
theorem wl_appendL {t el : TypeId} {sz d : Nat} {z : Value} {bytes : Nat} {x y : Operand} {v u : Value} {m : Hp} {l r : List α} (i : Nat) (O : OwnL F sz el m v l) (R : RdL F sz h ms u r) (ho : o.op = .call { callee := .builtin .append, args := #[x, y], argTypes := #[t, t] }) (ht : e.P.underlying t = some (.slice el)) (hs : Elem e.P el sz z bytes) (hzs : z.cells.size = sz) (hsz : 0 < sz)
    (hx : ev s x = some v) (hy : ev s y = some u) (hm : ms[i]? = some m) (h1 : ∀ a, ∀ c ∈ F a, c.oneCell' = true) (hb : (l.length + r.length) * bytes ≤ 140737488355328) (hb63 : l.length + r.length ≤ 9223372036854775807) (hd : o.dst = some d) (hn : Nat.blt d e.n = true) (hg : o.guard = none)
    (K : ∀ v' m', OwnL F sz el m' v' (l ++ r) → WL e ops Q rest ((d, v') :: s) h (ms.set i m')) : WL e ops Q (o :: rest) s h ms :=
  wl_append i ho ht hs hzs hsz hx hy hm O.own R.rd (fun c hc => by obtain ⟨a, _, ha⟩ := List.mem_flatMap.1 hc; exact h1 a c ha) hb hb63 hd hn hg fun v' m' O' => K v' m' ⟨by rw [List.length_append, List.flatMap_append]; exact O', O.len⟩
theorem RdL.one {sz : Nat} {g : Nat} {el : TypeId} {x : α} {cs : List Value} (hF : ∀ x, (F x).length = sz) (hm : Blk g el cs ∈ ms) (hc : cs = F x) : RdL F sz h ms (.slice (some ⟨g, 0, none⟩) 1 1) [x] :=
  ⟨by subst hc; simpa using Rd.blk (h := h) (n := 1) (c := 1) (sz := sz) hm (by rw [hF]; omega) (Nat.le_refl _) (by omega), hF⟩
end

/-! integers and bools in a row -/
def cI (n : Int) : List Value := [.int .i64 n]
def cB (b : Bool) : List Value := [.bool b]
theorem cI_len : ∀ n, (cI n).length = 1 := fun _ => rfl
theorem cB_len : ∀ n, (cB n).length = 1 := fun _ => rfl
theorem cI_one : ∀ a, ∀ c ∈ cI a, c.oneCell' = true := fun a c hc => by simp [cI] at hc; subst hc; rfl
theorem cB_one : ∀ a, ∀ c ∈ cB a, c.oneCell' = true := fun a c hc => by simp [cB] at hc; subst hc; rfl
theorem flatMap_set1 {α : Type} (f : α → Value) (l : List α) (k : Nat) (x : α) : (l.flatMap fun y => [f y]).set k (f x) = (l.set k x).flatMap fun y => [f y] := by
  induction l generalizing k with
  | nil => simp
  | cons a l ih =>
    cases k with
    | zero => simp
    | succ k => simp only [List.flatMap_cons, List.set_cons_succ, List.singleton_append]; rw [ih]
theorem cI_set (l : List Int) (k : Nat) (x : Int) : (l.flatMap cI).set k (.int .i64 x) = (l.set k x).flatMap cI := flatMap_set1 (Value.int .i64) l k x
theorem cB_set (l : List Bool) (k : Nat) (x : Bool) : (l.flatMap cB).set k (.bool x) = (l.set k x).flatMap cB := flatMap_set1 Value.bool l k x
theorem cI_rep (n : Nat) (x : Int) : List.replicate n (Value.int .i64 x) = (List.replicate n x).flatMap cI := by
  induction n with
  | zero => rfl
  | succ n ih => rw [List.replicate_succ, List.replicate_succ, List.flatMap_cons, ih]; rfl
theorem cB_rep (n : Nat) (x : Bool) : List.replicate n (Value.bool x) = (List.replicate n x).flatMap cB := by
  induction n with
  | zero => rfl
  | succ n ih => rw [List.replicate_succ, List.replicate_succ, List.flatMap_cons, ih]; rfl
end Go.Eng
