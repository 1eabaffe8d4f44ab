/- The engine, part 3: operations that yield one value. -/
import Derived.Test.YthdkhnjnhhofgaaEng2
import Derived.Laws.Entries
import Derived.Laws.Cells
import Derived.Laws.Slices
import Derived.Laws.Small
import Derived.IntWalk
set_option linter.unusedSimpArgs false
set_option linter.unusedVariables false
namespace Go.Eng
open Go.RowKit

/-- Is a value of such a type made of parts? -/
def aggD : TypeDesc → Bool
  | .struct _ | .array _ _ => true
  | _ => false
theorem run_isAgg {P : Program} {t : TypeId} {d : TypeDesc} (h : P.underlying t = some d) (w : World) : (isAgg t).run P w = .ok (aggD d) w := by
  simp only [isAgg, Sem.run_bind, run_underlying h, Result.andThen_ok]
  cases d <;> rfl

/-- Memory: the cell at p holds v, in the immutable part or in a part that is owned. -/
def Cell (h : Hp) (ms : List Hp) (p : Addr) (v : Value) : Prop :=
  p.spot = none ∧ ∃ cs el fr, (h p.block = some (.cells cs el fr) ∨ ∃ m ∈ ms, m p.block = some (.cells cs el fr)) ∧ cs[p.off]? = some v
/-- The cells from p on. -/
def Seg (h : Hp) (ms : List Hp) (p : Addr) (vs : List Value) : Prop := ∀ j v, vs[j]? = some v → Cell h ms (p.add j) v
/-- A block of cells. -/
def Blk (g : Nat) (el : TypeId) (l : List Value) : Hp := Hp.one g (.cells l.toArray el (0, 0))

theorem St.cell {w : World} {h : Hp} {ms : List Hp} (s : St w h ms) {p : Addr} {v : Value} (c : Cell h ms p v) : w.cell? p = some v := by
  obtain ⟨hs, cs, el, fr, hm, hv⟩ := c
  have hb : w.heap[p.block]? = some (.cells cs el fr) := by
    rcases hm with hm | ⟨m, hm, e⟩
    · exact s.imm _ _ hm
    · exact s.own m hm _ _ e
  simp [World.cell?, hb, hs, hv]

theorem Cell.le {h h' : Hp} {ms : List Hp} {p : Addr} {v : Value} (c : Cell h ms p v) (l : h.le h') : Cell h' ms p v :=
  let ⟨hs, cs, el, fr, hm, hv⟩ := c
  ⟨hs, cs, el, fr, hm.imp (l _ _) id, hv⟩
theorem Cell.sub {h : Hp} {ms ms' : List Hp} {p : Addr} {v : Value} (c : Cell h ms p v) (l : ∀ m ∈ ms, m ∈ ms') : Cell h ms' p v :=
  let ⟨hs, cs, el, fr, hm, hv⟩ := c
  ⟨hs, cs, el, fr, hm.imp id (fun ⟨m, e1, e2⟩ => ⟨m, l m e1, e2⟩), hv⟩
theorem Seg.le {h h' : Hp} {ms : List Hp} {p : Addr} {vs : List Value} (c : Seg h ms p vs) (l : h.le h') : Seg h' ms p vs := fun j v e => (c j v e).le l
theorem Seg.sub {h : Hp} {ms ms' : List Hp} {p : Addr} {vs : List Value} (c : Seg h ms p vs) (l : ∀ m ∈ ms, m ∈ ms') : Seg h ms' p vs := fun j v e => (c j v e).sub l
/-- What is in the immutable part is there whatever is owned. -/
theorem Cell.any {h : Hp} {ms : List Hp} {p : Addr} {v : Value} (c : Cell h [] p v) : Cell h ms p v := c.sub (by simp)
theorem Seg.any {h : Hp} {ms : List Hp} {p : Addr} {vs : List Value} (c : Seg h [] p vs) : Seg h ms p vs := c.sub (by simp)

theorem addr_add_add (p : Addr) (i j : Nat) : (p.add i).add j = p.add (i + j) := by
  unfold Addr.add
  by_cases hi : i = 0 <;> by_cases hj : j = 0 <;> simp [hi, hj, Nat.add_assoc]
theorem addr_add_zero (p : Addr) : p.add 0 = p := by simp [Addr.add]
theorem addr_add_block (p : Addr) (i : Nat) : (p.add i).block = p.block := by unfold Addr.add; split <;> rfl
theorem addr_add_off (p : Addr) (i : Nat) : (p.add i).off = p.off + i := by unfold Addr.add; split <;> simp_all

theorem Cell.blk {h : Hp} {ms : List Hp} {g : Nat} {el : TypeId} {l : List Value} (i : Nat) (hm : ms[i]? = some (Blk g el l)) {k : Nat} {v : Value} (hv : l[k]? = some v) : Cell h ms ((⟨g, 0, none⟩ : Addr).add k) v := by
  refine ⟨by unfold Addr.add; split <;> rfl, l.toArray, el, (0, 0), .inr ⟨_, List.mem_of_getElem? hm, ?_⟩, ?_⟩
  · rw [addr_add_block]; exact Hp.one_self _ _
  · rw [addr_add_off]; simpa using hv
theorem Cell.blk0 {h : Hp} {ms : List Hp} {g : Nat} {el : TypeId} {l : List Value} (i : Nat) (hm : ms[i]? = some (Blk g el l)) {v : Value} (hv : l[0]? = some v) : Cell h ms ⟨g, 0, none⟩ v := by
  have := Cell.blk (h := h) i hm (k := 0) hv
  rwa [addr_add_zero] at this
theorem Seg.blk {h : Hp} {ms : List Hp} {g : Nat} {el : TypeId} {l : List Value} (i : Nat) (hm : ms[i]? = some (Blk g el l)) : Seg h ms ⟨g, 0, none⟩ l := fun _ _ e => Cell.blk i hm e
theorem Seg.at {h : Hp} {ms : List Hp} {p : Addr} {vs : List Value} (c : Seg h ms p vs) {j : Nat} {v : Value} (e : vs[j]? = some v) : Cell h ms (p.add j) v := c j v e
theorem Seg.at0 {h : Hp} {ms : List Hp} {p : Addr} {vs : List Value} (c : Seg h ms p vs) {v : Value} (e : vs[0]? = some v) : Cell h ms p v := by
  have := c 0 v e; rwa [addr_add_zero] at this

/-- An element's type: its cells, its zero value, its bytes. -/
structure Elem (P : Program) (el : TypeId) (sz : Nat) (z : Value) (bytes : Nat) : Prop where
  info : ∃ i, P.info? el = some i ∧ i.zero = some z ∧ i.size = sz ∧ i.bytes = bytes

theorem Elem.of {P : Program} {el : TypeId} {sz : Nat} {z : Value} {bytes : Nat} (h : (P.info? el).map (fun i => (i.zero, i.size, i.bytes)) = some (some z, sz, bytes)) : Elem P el sz z bytes := by
  cases e : P.info? el with
  | none => rw [e] at h; cases h
  | some i => rw [e] at h; simp at h; exact ⟨i, e ▸ rfl, h.1, h.2.1, h.2.2⟩

theorem Elem.sizeOf {P : Program} {el : TypeId} {sz : Nat} {z : Value} {bytes : Nat} (E : Elem P el sz z bytes) (w : World) : (Go.sizeOf el).run P w = .ok sz w := by
  obtain ⟨i, h1, h2, h3, h4⟩ := E.info
  simp [Go.sizeOf, typeInfo, h1, h3]
theorem Elem.zeroValue {P : Program} {el : TypeId} {sz : Nat} {z : Value} {bytes : Nat} (E : Elem P el sz z bytes) (w : World) : (Go.zeroValue el).run P w = .ok z w := by
  obtain ⟨i, h1, h2, h3, h4⟩ := E.info
  simp [Go.zeroValue, typeInfo, h1, h2]
theorem Elem.typeInfo {P : Program} {el : TypeId} {sz : Nat} {z : Value} {bytes : Nat} (E : Elem P el sz z bytes) (w : World) : ∃ i, (Go.typeInfo el).run P w = .ok i w ∧ i.bytes = bytes := by
  obtain ⟨i, h1, h2, h3, h4⟩ := E.info
  exact ⟨i, by simp [Go.typeInfo, h1], h4⟩

section
variable {P : Program} {o : Oper} {s : Slots} {h : Hp} {ms : List Hp}

theorem ox_of {v : Value} (k : ∀ ρ w, Evs s ρ → St w h ms → (execOp ρ o).run P w = .ok (.value v) w) : OX P o s h ms v := fun ρ w hρ hw => by
  unfold OpRes; rw [k ρ w hρ hw]; exact ⟨rfl, Below.refl _ _⟩
theorem ox_of_drew {v : Value} (k : ∀ ρ w, Evs s ρ → St w h ms → ∃ n, (execOp ρ o).run P w = .ok (.value v) { w with drawn := n }) : OX P o s h ms v := fun ρ w hρ hw => by
  obtain ⟨n, hn⟩ := k ρ w hρ hw
  unfold OpRes; rw [hn]; exact ⟨rfl, ⟨rfl, rfl, rfl, Nat.le_refl _, fun _ _ => rfl⟩⟩

theorem ox_move {x : Operand} {v : Value} (ho : o.op = .move x) (hx : ev s x = some v) : OX P o s h ms v :=
  ox_of fun ρ w hρ _ => by simp [execOp, ho, hρ _ _ hx]
theorem ox_assign {x : Operand} {v : Value} (ho : o.op = .assign x) (hx : ev s x = some v) : OX P o s h ms v :=
  ox_of fun ρ w hρ _ => by simp [execOp, ho, hρ _ _ hx]
theorem ox_pick_t {c x y : Operand} {v : Value} (ho : o.op = .pick c x y) (hc : ev s c = some (.bool true)) (hx : ev s x = some v) : OX P o s h ms v :=
  ox_of fun ρ w hρ _ => by simp [execOp, ho, hρ _ _ hc, hρ _ _ hx, asBool]
theorem ox_pick_f {c x y : Operand} {v : Value} (ho : o.op = .pick c x y) (hc : ev s c = some (.bool false)) (hx : ev s y = some v) : OX P o s h ms v :=
  ox_of fun ρ w hρ _ => by simp [execOp, ho, hρ _ _ hc, hρ _ _ hx, asBool]
theorem ox_extract {x : Operand} {i : Nat} {vs : Array Value} {v : Value} (ho : o.op = .extract x i) (hx : ev s x = some (.tuple vs)) (hv : vs[i]? = some v) : OX P o s h ms v :=
  ox_of fun ρ w hρ _ => by simp [execOp, ho, hρ _ _ hx, Instr.extract, hv]

/-! integers -/
section
variable {t u : TypeId} {x y : Operand} {k : IntKind} {a b : Int}
theorem ox_addW (ho : o.op = .binOp .add t x y u) (hx : ev s x = some (.int k a)) (hy : ev s y = some (.int k b)) : OX P o s h ms (.int k (k.wrap (a + b))) :=
  ox_of fun ρ w hρ _ => by simp [execOp, ho, hρ _ _ hx, hρ _ _ hy, go_sem]
theorem ox_subW (ho : o.op = .binOp .sub t x y u) (hx : ev s x = some (.int k a)) (hy : ev s y = some (.int k b)) : OX P o s h ms (.int k (k.wrap (a - b))) :=
  ox_of fun ρ w hρ _ => by simp [execOp, ho, hρ _ _ hx, hρ _ _ hy, go_sem]
theorem ox_mulW (ho : o.op = .binOp .mul t x y u) (hx : ev s x = some (.int k a)) (hy : ev s y = some (.int k b)) : OX P o s h ms (.int k (k.wrap (a * b))) :=
  ox_of fun ρ w hρ _ => by simp [execOp, ho, hρ _ _ hx, hρ _ _ hy, go_sem]
theorem wrap_i64 {n : Int} (hn : -9223372036854775808 ≤ n ∧ n ≤ 9223372036854775807) : IntKind.i64.wrap n = n := IntWalk.i64_in n hn
theorem ox_add (ho : o.op = .binOp .add t x y u) (hx : ev s x = some (.int .i64 a)) (hy : ev s y = some (.int .i64 b)) (hr : -9223372036854775808 ≤ a + b ∧ a + b ≤ 9223372036854775807) : OX P o s h ms (.int .i64 (a + b)) := by
  have := ox_addW (P := P) (h := h) (ms := ms) ho hx hy; rwa [wrap_i64 hr] at this
theorem ox_sub (ho : o.op = .binOp .sub t x y u) (hx : ev s x = some (.int .i64 a)) (hy : ev s y = some (.int .i64 b)) (hr : -9223372036854775808 ≤ a - b ∧ a - b ≤ 9223372036854775807) : OX P o s h ms (.int .i64 (a - b)) := by
  have := ox_subW (P := P) (h := h) (ms := ms) ho hx hy; rwa [wrap_i64 hr] at this
theorem ox_mul (ho : o.op = .binOp .mul t x y u) (hx : ev s x = some (.int .i64 a)) (hy : ev s y = some (.int .i64 b)) (hr : -9223372036854775808 ≤ a * b ∧ a * b ≤ 9223372036854775807) : OX P o s h ms (.int .i64 (a * b)) := by
  have := ox_mulW (P := P) (h := h) (ms := ms) ho hx hy; rwa [wrap_i64 hr] at this
theorem ox_quoW (ho : o.op = .binOp .quo t x y u) (hx : ev s x = some (.int k a)) (hy : ev s y = some (.int k b)) (hb : b ≠ 0) : OX P o s h ms (.int k (k.wrap (a.tdiv b))) :=
  ox_of fun ρ w hρ _ => by simp [execOp, ho, hρ _ _ hx, hρ _ _ hy, go_sem, hb]
theorem tdiv_bound {a b : Int} (ha : -9223372036854775808 ≤ a ∧ a ≤ 9223372036854775807) (hb : 1 ≤ b) : -9223372036854775808 ≤ a.tdiv b ∧ a.tdiv b ≤ 9223372036854775807 := by
  rcases Int.lt_or_le a 0 with h0 | h0
  · have e : a.tdiv b = -((-a) / b) := by rw [tdiv_eq_if]; simp [Int.not_le.2 h0]
    have h1 : (-a) / b ≤ -a := Int.ediv_le_self _ (by omega)
    have h2 : 0 ≤ (-a) / b := Int.ediv_nonneg (by omega) (by omega)
    omega
  · have e : a.tdiv b = a / b := by rw [tdiv_eq_if]; simp [h0]
    have h1 : a / b ≤ a := Int.ediv_le_self _ h0
    have h2 : 0 ≤ a / b := Int.ediv_nonneg h0 (by omega)
    omega
theorem ox_quo (ho : o.op = .binOp .quo t x y u) (hx : ev s x = some (.int .i64 a)) (hy : ev s y = some (.int .i64 b)) (ha : -9223372036854775808 ≤ a ∧ a ≤ 9223372036854775807) (hb : 1 ≤ b) : OX P o s h ms (.int .i64 (a.tdiv b)) := by
  have := ox_quoW (P := P) (h := h) (ms := ms) ho hx hy (by omega); rwa [wrap_i64 (tdiv_bound ha hb)] at this
theorem ox_quoP (ho : o.op = .binOp .quo t x y u) (hx : ev s x = some (.int .i64 a)) (hy : ev s y = some (.int .i64 b)) (ha : 0 ≤ a ∧ a ≤ 9223372036854775807) (hb : 1 ≤ b) : OX P o s h ms (.int .i64 (a / b)) := by
  have := ox_quo (P := P) (h := h) (ms := ms) ho hx hy (by omega) hb
  have e : a.tdiv b = a / b := by rw [tdiv_eq_if]; simp [ha.1]
  rwa [e] at this
theorem ox_rem (ho : o.op = .binOp .rem t x y u) (hx : ev s x = some (.int k a)) (hy : ev s y = some (.int k b)) (hb : b ≠ 0) : OX P o s h ms (.int k (a.tmod b)) :=
  ox_of fun ρ w hρ _ => by simp [execOp, ho, hρ _ _ hx, hρ _ _ hy, go_sem, hb]
theorem ox_remP (ho : o.op = .binOp .rem t x y u) (hx : ev s x = some (.int k a)) (hy : ev s y = some (.int k b)) (ha : 0 ≤ a) (hb : 1 ≤ b) : OX P o s h ms (.int k (a % b)) := by
  have := ox_rem (P := P) (h := h) (ms := ms) ho hx hy (by omega)
  have e : a.tmod b = a % b := by rw [tmod_eq_if]; simp [ha]
  rwa [e] at this
theorem ox_lss (ho : o.op = .binOp .lss t x y u) (hx : ev s x = some (.int k a)) (hy : ev s y = some (.int k b)) : OX P o s h ms (.bool (decide (a < b))) :=
  ox_of fun ρ w hρ _ => by simp [execOp, ho, hρ _ _ hx, hρ _ _ hy, go_sem]
theorem ox_leq (ho : o.op = .binOp .leq t x y u) (hx : ev s x = some (.int k a)) (hy : ev s y = some (.int k b)) : OX P o s h ms (.bool (decide (a ≤ b))) :=
  ox_of fun ρ w hρ _ => by simp [execOp, ho, hρ _ _ hx, hρ _ _ hy, go_sem]
theorem ox_gtr (ho : o.op = .binOp .gtr t x y u) (hx : ev s x = some (.int k a)) (hy : ev s y = some (.int k b)) : OX P o s h ms (.bool (decide (b < a))) :=
  ox_of fun ρ w hρ _ => by simp [execOp, ho, hρ _ _ hx, hρ _ _ hy, go_sem]
theorem ox_geq (ho : o.op = .binOp .geq t x y u) (hx : ev s x = some (.int k a)) (hy : ev s y = some (.int k b)) : OX P o s h ms (.bool (decide (b ≤ a))) :=
  ox_of fun ρ w hρ _ => by simp [execOp, ho, hρ _ _ hx, hρ _ _ hy, go_sem]
theorem ox_eqi (ho : o.op = .binOp .eql t x y u) (hx : ev s x = some (.int k a)) (hy : ev s y = some (.int k b)) : OX P o s h ms (.bool (decide (a = b))) :=
  ox_of fun ρ w hρ _ => by simp [execOp, ho, hρ _ _ hx, hρ _ _ hy, go_sem]; rfl
theorem ox_nei (ho : o.op = .binOp .neq t x y u) (hx : ev s x = some (.int k a)) (hy : ev s y = some (.int k b)) : OX P o s h ms (.bool (decide (a ≠ b))) :=
  ox_of fun ρ w hρ _ => by simp [execOp, ho, hρ _ _ hx, hρ _ _ hy, go_sem]; rfl
theorem ox_neg (ho : o.op = .unOp .neg t x) (hx : ev s x = some (.int .i64 a)) (hr : -9223372036854775807 ≤ a ∧ a ≤ 9223372036854775807) : OX P o s h ms (.int .i64 (-a)) :=
  ox_of fun ρ w hρ _ => by
    have := wrap_i64 (n := -a) (by omega)
    simp [execOp, ho, hρ _ _ hx, Op.unary, Op.intArith, this]
theorem ox_negW (ho : o.op = .unOp .neg t x) (hx : ev s x = some (.int k a)) : OX P o s h ms (.int k (k.wrap (-a))) :=
  ox_of fun ρ w hρ _ => by simp [execOp, ho, hρ _ _ hx, Op.unary, Op.intArith]
theorem ox_conv {k' : IntKind} {d : TypeDesc} (ho : o.op = .convert t u x) (ht : P.underlying t = some d) (hu : P.underlying u = some (.int k')) (hx : ev s x = some (.int k a)) (hr : k'.wrap a = a) : OX P o s h ms (.int k' a) :=
  ox_of fun ρ w hρ _ => by simp [execOp, ho, hρ _ _ hx, convert, run_underlying ht, run_underlying hu, Conv.intToInt, hr]
theorem ox_convW {k' : IntKind} {d : TypeDesc} (ho : o.op = .convert t u x) (ht : P.underlying t = some d) (hu : P.underlying u = some (.int k')) (hx : ev s x = some (.int k a)) : OX P o s h ms (.int k' (k'.wrap a)) :=
  ox_of fun ρ w hρ _ => by simp [execOp, ho, hρ _ _ hx, convert, run_underlying ht, run_underlying hu, Conv.intToInt]
theorem ox_max {ts : Array TypeId} {k' : IntKind} (ho : o.op = .call { callee := .builtin .max, args := #[x, y], argTypes := ts }) (hx : ev s x = some (.int k a)) (hy : ev s y = some (.int k' b)) : OX P o s h ms (.int k (max a b)) :=
  ox_of fun ρ w hρ _ => by
    have : (if b > a then b else a) = max a b := by omega
    simp [execOp, ho, hρ _ _ hx, hρ _ _ hy, resolve, invoke, builtin, run_max_int2, this]
theorem ox_min {ts : Array TypeId} {k' : IntKind} (ho : o.op = .call { callee := .builtin .min, args := #[x, y], argTypes := ts }) (hx : ev s x = some (.int k a)) (hy : ev s y = some (.int k' b)) : OX P o s h ms (.int k (min a b)) :=
  ox_of fun ρ w hρ _ => by
    have : (if b < a then b else a) = min a b := by omega
    simp [execOp, ho, hρ _ _ hx, hρ _ _ hy, resolve, invoke, builtin, run_min_int2, this]
end

/-! bools -/
section
variable {t u : TypeId} {x y : Operand} {a b : Bool}
theorem ox_eqb (ho : o.op = .binOp .eql t x y u) (ht : P.underlying t = some .bool) (hx : ev s x = some (.bool a)) (hy : ev s y = some (.bool b)) : OX P o s h ms (.bool (decide (a = b))) :=
  ox_of fun ρ w hρ _ => by simp [execOp, ho, hρ _ _ hx, hρ _ _ hy, go_sem, run_eql_bool _ _ _ _ ht]; cases a <;> cases b <;> rfl
theorem ox_neb (ho : o.op = .binOp .neq t x y u) (ht : P.underlying t = some .bool) (hx : ev s x = some (.bool a)) (hy : ev s y = some (.bool b)) : OX P o s h ms (.bool (decide (a ≠ b))) :=
  ox_of fun ρ w hρ _ => by simp [execOp, ho, hρ _ _ hx, hρ _ _ hy, go_sem, run_neq_bool _ _ _ _ ht]; cases a <;> cases b <;> rfl
theorem ox_not (ho : o.op = .unOp .not t x) (hx : ev s x = some (.bool a)) : OX P o s h ms (.bool (!a)) :=
  ox_of fun ρ w hρ _ => by simp [execOp, ho, hρ _ _ hx, Op.unary]
theorem ox_notd {p : Prop} {_ : Decidable p} (ho : o.op = .unOp .not t x) (hx : ev s x = some (.bool (decide p))) : OX P o s h ms (.bool (decide (¬ p))) :=
  ox_of fun ρ w hρ _ => by simp [execOp, ho, hρ _ _ hx, Op.unary]
end

/-! addresses and loads -/
section
variable {t el : TypeId} {x y : Operand} {p : Addr} {len cap sz : Nat} {k : IntKind}
theorem ox_index {z : Value} {bytes : Nat} {i : Int} (j : Nat) (ho : o.op = .indexAddr t x y) (ht : P.underlying t = some (.slice el)) (hs : Elem P el sz z bytes) (hx : ev s x = some (.slice (some p) len cap)) (hy : ev s y = some (.int k i)) (hi : i = (j : Int)) (hlt : j < len) :
    OX P o s h ms (.pointer (some (p.add (j * sz)))) :=
  ox_of fun ρ w hρ _ => by
    have h1 : (0 : Int) ≤ i ∧ i < (len : Int) := by omega
    have h2 : i.toNat = j := by omega
    simp [execOp, ho, hρ _ _ hx, hρ _ _ hy, Instr.indexAt, run_underlying ht, asIntOf, h1, h2, hs.sizeOf]
theorem ox_indexA {z : Value} {bytes : Nat} {i : Int} (j : Nat) (ho : o.op = .indexAddr t x y) (ht : P.underlying t = some (.array len el)) (hs : Elem P el sz z bytes) (hx : ev s x = some (.pointer (some p))) (hy : ev s y = some (.int k i)) (hi : i = (j : Int)) (hlt : j < len) :
    OX P o s h ms (.pointer (some (p.add (j * sz)))) :=
  ox_of fun ρ w hρ _ => by
    have h1 : (0 : Int) ≤ i ∧ i < (len : Int) := by omega
    have h2 : i.toNat = j := by omega
    simp [execOp, ho, hρ _ _ hx, hρ _ _ hy, Instr.indexAt, run_underlying ht, Instr.sureAddr, asIntOf, h1, h2, hs.sizeOf]
theorem ox_field {fs : Array Field} {f : Field} {n i : Nat} (ho : o.op = .fieldAddr t x i) (ht : P.underlying t = some (.struct fs)) (hf : fs[i]? = some f) (hs : ∀ w, (sizeOf f.type).run P w = .ok (n + 1) w) (hx : ev s x = some (.pointer (some p))) :
    OX P o s h ms (.pointer (some (p.add f.offset))) :=
  ox_of fun ρ w hρ _ => by simp [execOp, ho, hρ _ _ hx, Instr.fieldAt, run_underlying ht, hf, Instr.sureAddr, fieldPlace, hs]
theorem ox_load {d : TypeDesc} {v : Value} (ho : o.op = .load t x) (ht : P.underlying t = some d) (hd : aggD d = false) (hx : ev s x = some (.pointer (some p))) (hc : Cell h ms p v) : OX P o s h ms v :=
  ox_of fun ρ w hρ hw => by
    have ha : (isAgg t).run P w = .ok false w := by rw [run_isAgg ht, hd]
    simp [execOp, ho, hρ _ _ hx, Instr.loadAt, Instr.sureAddr, loadVar, ha, hw.cell hc]
theorem ox_loadG {d : TypeDesc} {z : Value} {bytes : Nat} {vs : List Value} (ho : o.op = .load t x) (ht : P.underlying t = some d) (hd : aggD d = true) (hs : Elem P t sz z bytes) (hl : vs.length = sz) (hx : ev s x = some (.pointer (some p))) (hc : Seg h ms p vs) : OX P o s h ms (.agg vs.toArray) :=
  ox_of fun ρ w hρ hw => by
    have ha : (isAgg t).run P w = .ok true w := by rw [run_isAgg ht, hd]
    have hc' : ∀ j v, vs[j]? = some v → w.cell? (p.add j) = some v := fun j v e => hw.cell (hc j v e)
    subst hl
    simp [execOp, ho, hρ _ _ hx, Instr.loadAt, Instr.sureAddr, loadVar, ha, hs.sizeOf, run_loadCells_list (P := P) w p vs hc']
theorem ox_nilCheck (ho : o.op = .nilCheck x) (hx : ev s x = some (.pointer (some p))) : OX P o s h ms (.pointer (some p)) :=
  ox_of fun ρ w hρ _ => by simp [execOp, ho, hρ _ _ hx]
theorem ox_len {ty : TypeId} {a : Option Addr} (ho : o.op = .call { callee := .builtin .len, args := #[x], argTypes := #[t] }) (ht : P.underlying t = some (.slice el)) (hx : ev s x = some (.slice a len cap)) : OX P o s h ms (.int .i64 len) :=
  ox_of fun ρ w hρ _ => by simp [execOp, ho, hρ _ _ hx, resolve, invoke, builtin, Builtin.len_, run_underlying ht, goInt]
/-- A field of a struct that is a value. -/
theorem ox_fieldV {fs : Array Field} {f : Field} {d : TypeDesc} {cs : Array Value} {v : Value} {i : Nat} (ho : o.op = .field t x i) (ht : P.underlying t = some (.struct fs)) (hf : fs[i]? = some f) (hd : P.underlying f.type = some d) (ha : aggD d = false) (hx : ev s x = some (.agg cs)) (hv : cs[f.offset]? = some v) :
    OX P o s h ms v :=
  ox_of fun ρ w hρ _ => by
    have hag : (isAgg f.type).run P w = .ok false w := by rw [run_isAgg hd, ha]
    simp [execOp, ho, hρ _ _ hx, Instr.field, run_underlying ht, hf, asAgg, part, hag, hv]
/-- Parts are laid into cells. -/
def pourAt : List Value → Nat → List Value → List Value
  | l, _, [] => l
  | l, k, v :: vs => pourAt (l.set k v) (k + 1) vs
def pour : List Value → List (Nat × List Value) → List Value
  | l, [] => l
  | l, (k, vs) :: r => pour (pourAt l k vs) r

theorem foldl_pour (vs : List Value) : ∀ (k off : Nat) (l : List Value), (List.foldl (fun (cs : Array Value) (c : Value × Nat) => cs.setIfInBounds (off + c.2) c.1) l.toArray (vs.zipIdx k)) = (pourAt l (off + k) vs).toArray := by
  induction vs with
  | nil => intro k off l; rfl
  | cons v vs ih =>
    intro k off l
    simp only [List.zipIdx_cons, List.foldl_cons, List.setIfInBounds_toArray]
    rw [ih (k + 1) off]; rfl

def PourOK (place : Nat → Option (Nat × Nat)) (n : Nat) : List (Nat × Value) → List (Nat × List Value) → Prop
  | [], [] => True
  | p :: ps, q :: qs => (p.2.cells = q.2.toArray ∧ place p.1 = some (q.1, q.2.length) ∧ Nat.ble (q.1 + q.2.length) n = true) ∧ PourOK place n ps qs
  | _, _ => False

theorem length_pourAt : ∀ (vs : List Value) (l : List Value) (k : Nat), (pourAt l k vs).length = l.length
  | [], _, _ => rfl
  | v :: vs, l, k => by simp only [pourAt]; rw [length_pourAt vs]; simp

theorem fill_pour (place : Nat → Option (Nat × Nat)) : ∀ (parts : List (Nat × Value)) (l : List Value) (ps : List (Nat × List Value)), PourOK place l.length parts ps → Instr.fill place l.toArray parts = some (pour l ps).toArray
  | [], l, [], _ => rfl
  | [], _, _ :: _, h => h.elim
  | _ :: _, _, [], h => h.elim
  | (i, v) :: parts, l, (off, vs) :: ps, h => by
    obtain ⟨⟨h1, h2, h3⟩, h4⟩ := h
    simp only at h1 h2 h3
    have h3' := Nat.le_of_ble_eq_true h3
    simp only [Instr.fill, h2, h1, List.size_toArray]
    rw [if_neg (by simp; omega)]
    rw [← Array.foldl_toList]
    simp only [Array.toList_zipIdx]
    rw [foldl_pour vs 0 off l, Nat.add_zero]
    exact fill_pour place parts _ ps (by rw [length_pourAt]; exact h4)

theorem ox_build {fs : Array Field} {z : Value} {bytes : Nat} {lp : List (Nat × Operand)} {vs : List (Nat × Value)} {places : Array (Nat × Nat)} (zl : List Value) (ps : List (Nat × List Value)) (vl : List Value) (ho : o.op = .build t lp.toArray) (ht : P.underlying t = some (.struct fs)) (hs : Elem P t sz z bytes) (hz : z.cells = zl.toArray)
    (hpl : ∀ w, (fs.mapM fun f => do pure (f.offset, ← sizeOf f.type) : Sem (Array (Nat × Nat))).run P w = .ok places w) (hv : evp s lp = some vs)
    (hps : PourOK (places[·]?) zl.length vs ps) (hvl : pour zl ps = vl) : OX P o s h ms (.agg vl.toArray) :=
  ox_of fun ρ w hρ _ => by
    have hf := fill_pour (places[·]?) vs zl ps hps
    have hm : (lp.toArray.map fun (i, x) => (i, ρ x)) = vs.toArray := by
      rw [List.map_toArray, hρ.pairs lp vs hv]
    have hpl' := hpl w
    simp only [execOp, ho, hm]
    simp only [Instr.build, Sem.run_bind, hs.zeroValue, run_underlying ht, hz, Result.andThen_ok, hpl', hf, Sem.run_pure, hvl]
/-- An array, written out. -/
theorem ox_buildA {n : Nat} {z : Value} {bytes bytes' : Nat} {zt : Value} {lp : List (Nat × Operand)} {vs : List (Nat × Value)} {szt : Nat} (zl : List Value) (ps : List (Nat × List Value)) (vl : List Value) (ho : o.op = .build t lp.toArray) (ht : P.underlying t = some (.array n el)) (hs : Elem P t szt zt bytes) (hz : zt.cells = zl.toArray) (hel : Elem P el sz z bytes') (hv : evp s lp = some vs)
    (hps : PourOK (fun i => some (i * sz, sz)) zl.length vs ps) (hvl : pour zl ps = vl) : OX P o s h ms (.agg vl.toArray) :=
  ox_of fun ρ w hρ _ => by
    have hf := fill_pour (fun i => some (i * sz, sz)) vs zl ps hps
    have hm : (lp.toArray.map fun (i, x) => (i, ρ x)) = vs.toArray := by
      rw [List.map_toArray, hρ.pairs lp vs hv]
    simp only [execOp, ho, hm]
    simp only [Instr.build, Sem.run_bind, hs.zeroValue, run_underlying ht, hz, Result.andThen_ok, hel.sizeOf, hf, Sem.run_pure, hvl]

theorem ox_makeFunc {fn : Fn} {lf lc : List Operand} {vf vc : List Value} (ho : o.op = .makeFunc fn lf.toArray lc.toArray) (hf : evs s lf = some vf) (hc : evs s lc = some vc) : OX P o s h ms (.func fn vf.toArray vc.toArray) :=
  ox_of fun ρ w hρ _ => by simp [execOp, ho, hρ.map _ _ hf, hρ.map _ _ hc, Instr.makeFunc]
end

/-! slices of slices -/
section
variable {t el : TypeId} {x lo hi : Operand} {p : Addr} {len cap sz : Nat} {k k' : IntKind} {z : Value} {bytes : Nat}
theorem ox_slice_lh {l r : Int} (i j : Nat) (ho : o.op = .slice t x (some lo) (some hi) none) (ht : P.underlying t = some (.slice el)) (hs : Elem P el sz z bytes) (hx : ev s x = some (.slice (some p) len cap)) (hlo : ev s lo = some (.int k l)) (hhi : ev s hi = some (.int k' r)) (el' : l = (i : Int)) (er : r = (j : Int)) (h1 : i ≤ j) (h2 : j ≤ cap) :
    OX P o s h ms (.slice (some (if cap = i then p else p.add (i * sz))) (j - i) (cap - i)) :=
  ox_of fun ρ w hρ _ => by
    have g1 : (0 : Int) ≤ l ∧ l ≤ (j : Int) := by omega
    have g2 : (0 : Int) ≤ r ∧ r ≤ (cap : Int) := by omega
    have g3 : l.toNat = i := by omega
    have g4 : r.toNat = j := by omega
    simp [execOp, ho, hρ _ _ hx, hρ _ _ hlo, hρ _ _ hhi, Instr.sliceAt, Instr.slice, run_underlying ht, Instr.sliceBounds, Instr.sliceBound, asIntOf, g1, g2, g3, g4, hs.sizeOf]
    split <;> rfl
theorem ox_slice_l {l : Int} (i : Nat) (ho : o.op = .slice t x (some lo) none none) (ht : P.underlying t = some (.slice el)) (hs : Elem P el sz z bytes) (hx : ev s x = some (.slice (some p) len cap)) (hlo : ev s lo = some (.int k l)) (el' : l = (i : Int)) (h1 : i ≤ len) :
    OX P o s h ms (.slice (some (if cap = i then p else p.add (i * sz))) (len - i) (cap - i)) :=
  ox_of fun ρ w hρ _ => by
    have g1 : (0 : Int) ≤ l ∧ l ≤ (len : Int) := by omega
    have g3 : l.toNat = i := by omega
    simp [execOp, ho, hρ _ _ hx, hρ _ _ hlo, Instr.sliceAt, Instr.slice, run_underlying ht, Instr.sliceBounds, Instr.sliceBound, asIntOf, g1, g3, hs.sizeOf]
    split <;> rfl
theorem ox_slice_h {r : Int} (j : Nat) (ho : o.op = .slice t x none (some hi) none) (ht : P.underlying t = some (.slice el)) (hs : Elem P el sz z bytes) (hx : ev s x = some (.slice (some p) len cap)) (hhi : ev s hi = some (.int k r)) (er : r = (j : Int)) (h2 : j ≤ cap) :
    OX P o s h ms (.slice (some p) j cap) :=
  ox_of fun ρ w hρ _ => by
    have g2 : (0 : Int) ≤ r ∧ r ≤ (cap : Int) := by omega
    have g4 : r.toNat = j := by omega
    simp [execOp, ho, hρ _ _ hx, hρ _ _ hhi, Instr.sliceAt, Instr.slice, run_underlying ht, Instr.sliceBounds, Instr.sliceBound, asIntOf, g2, g4, hs.sizeOf, addr_add_zero]
end

/-! calls -/
theorem ox_call {f : FuncId} {l : List Operand} {ts : Array TypeId} {vs : List Value} {v : Value} (ho : o.op = .call { callee := .value (.func f), args := l.toArray, argTypes := ts }) (hc : ∀ as w, (callFunc f as).run P w = .ok (.enter f as) w) (ha : evs s l = some vs) (k : FnV P f vs.toArray h ms v) : OX P o s h ms v :=
  fun ρ w hρ hw => by
    have hev : ρ (.func f) = .func (.func f) #[] #[] := hρ _ _ rfl
    have : (execOp ρ o).run P w = .ok (.enter f vs.toArray) w := by simp [execOp, ho, resolve, hev, Deferred.ofValue, invoke, hc, hρ.map l vs ha]
    unfold OpRes; rw [this]
    exact (k w hw).mono fun x w' ⟨e1, e2⟩ => ⟨v, e1, rfl, e2⟩
theorem ot_call {e : Entry} {f : FuncId} {l : List Operand} {ts : Array TypeId} {vs : List Value} {pre fr : List Hp} {post : Value → Hp → List Hp → Prop} (ho : o.op = .call { callee := .value (.func f), args := l.toArray, argTypes := ts }) (hc : ∀ as w, (callFunc f as).run e.P w = .ok (.enter f as) w) (ha : evs s l = some vs) (k : FnT e.P f vs.toArray h pre post) :
    OT e o s h (pre ++ fr) (fun v h' ms' => ∃ pre', ms' = pre' ++ fr ∧ h.le h' ∧ post v h' pre') :=
  fun ρ w hρ hw => by
    have hev : ρ (.func f) = .func (.func f) #[] #[] := hρ _ _ rfl
    have : (execOp ρ o).run e.P w = .ok (.enter f vs.toArray) w := by simp [execOp, ho, resolve, hev, Deferred.ofValue, invoke, hc, hρ.map l vs ha]
    unfold OpRes; rw [this]
    exact (k w hw.st.pre).mono fun x w' ⟨r, h', pre', e1, e2, e3⟩ => ⟨r, e1, h', pre' ++ fr, Ends.call hw e2, pre', rfl, e2.le, e3⟩
/-- A call of a function that is a value. -/
theorem ox_callv {x : Operand} {f : FuncId} {l : List Operand} {ts : Array TypeId} {fs cs vs : List Value} {v : Value} (ho : o.op = .call { callee := .value x, args := l.toArray, argTypes := ts }) (hx : ev s x = some (.func (.func f) fs.toArray cs.toArray)) (hc : ∀ as w, (callFunc f as).run P w = .ok (.enter f as) w) (ha : evs s l = some vs) (k : FnV P f (fs ++ vs ++ cs).toArray h ms v) : OX P o s h ms v :=
  fun ρ w hρ hw => by
    have : (execOp ρ o).run P w = .ok (.enter f (fs ++ vs ++ cs).toArray) w := by simp [execOp, ho, resolve, hρ _ _ hx, Deferred.ofValue, invoke, hc, hρ.map l vs ha]
    unfold OpRes; rw [this]
    exact (k w hw).mono fun x w' ⟨e1, e2⟩ => ⟨v, e1, rfl, e2⟩
theorem ot_callv {e : Entry} {x : Operand} {f : FuncId} {l : List Operand} {ts : Array TypeId} {fs cs vs : List Value} {pre fr : List Hp} {post : Value → Hp → List Hp → Prop} (ho : o.op = .call { callee := .value x, args := l.toArray, argTypes := ts }) (hx : ev s x = some (.func (.func f) fs.toArray cs.toArray)) (hc : ∀ as w, (callFunc f as).run e.P w = .ok (.enter f as) w) (ha : evs s l = some vs) (k : FnT e.P f (fs ++ vs ++ cs).toArray h pre post) :
    OT e o s h (pre ++ fr) (fun v h' ms' => ∃ pre', ms' = pre' ++ fr ∧ h.le h' ∧ post v h' pre') :=
  fun ρ w hρ hw => by
    have : (execOp ρ o).run e.P w = .ok (.enter f (fs ++ vs ++ cs).toArray) w := by simp [execOp, ho, resolve, hρ _ _ hx, Deferred.ofValue, invoke, hc, hρ.map l vs ha]
    unfold OpRes; rw [this]
    exact (k w hw.st.pre).mono fun x w' ⟨r, h', pre', e1, e2, e3⟩ => ⟨r, e1, h', pre' ++ fr, Ends.call hw e2, pre', rfl, e2.le, e3⟩

/-- A call with nothing of the caller's own handed over. -/
theorem wl_call {e : Entry} {Q : Exit → Act → World → Prop} {ops : Array Oper} {rest : List Oper} {f : FuncId} {l : List Operand} {ts : Array TypeId} {vs : List Value} {d : Nat} {post : Value → Hp → List Hp → Prop} (ho : o.op = .call { callee := .value (.func f), args := l.toArray, argTypes := ts }) (hc : ∀ as w, (callFunc f as).run e.P w = .ok (.enter f as) w) (ha : evs s l = some vs) (k : FnT e.P f vs.toArray h [] post) (hd : o.dst = some d) (hn : Nat.blt d e.n = true) (hg : o.guard = none)
    (K : ∀ v h' pre', h.le h' → post v h' pre' → WL e ops Q rest ((d, v) :: s) h' (pre' ++ ms)) : WL e ops Q (o :: rest) s h ms :=
  wl_t (ot_call (fr := ms) ho hc ha k) hd hn hg fun v h' ms' ⟨pre', e1, e2, e3⟩ => by subst e1; exact K v h' pre' e2 e3
theorem wl_call_ {e : Entry} {Q : Exit → Act → World → Prop} {ops : Array Oper} {rest : List Oper} {f : FuncId} {l : List Operand} {ts : Array TypeId} {vs : List Value} {d : Nat} {pre fr : List Hp} {post : Value → Hp → List Hp → Prop} (ho : o.op = .call { callee := .value (.func f), args := l.toArray, argTypes := ts }) (hc : ∀ as w, (callFunc f as).run e.P w = .ok (.enter f as) w) (ha : evs s l = some vs) (k : FnT e.P f vs.toArray h pre post) (hm : ms = pre ++ fr) (hd : o.dst = some d) (hn : Nat.blt d e.n = true) (hg : o.guard = none)
    (K : ∀ v h' pre', h.le h' → post v h' pre' → WL e ops Q rest ((d, v) :: s) h' (pre' ++ fr)) : WL e ops Q (o :: rest) s h ms := by
  subst hm
  exact wl_t (ot_call ho hc ha k) hd hn hg fun v h' ms' ⟨pre', e1, e2, e3⟩ => by subst e1; exact K v h' pre' e2 e3
theorem wl_callv_ {e : Entry} {Q : Exit → Act → World → Prop} {ops : Array Oper} {rest : List Oper} {x : Operand} {f : FuncId} {l : List Operand} {ts : Array TypeId} {fs cs vs : List Value} {d : Nat} {pre fr : List Hp} {post : Value → Hp → List Hp → Prop} (ho : o.op = .call { callee := .value x, args := l.toArray, argTypes := ts }) (hx : ev s x = some (.func (.func f) fs.toArray cs.toArray)) (hc : ∀ as w, (callFunc f as).run e.P w = .ok (.enter f as) w) (ha : evs s l = some vs) (k : FnT e.P f (fs ++ vs ++ cs).toArray h pre post) (hm : ms = pre ++ fr) (hd : o.dst = some d) (hn : Nat.blt d e.n = true) (hg : o.guard = none)
    (K : ∀ v h' pre', h.le h' → post v h' pre' → WL e ops Q rest ((d, v) :: s) h' (pre' ++ fr)) : WL e ops Q (o :: rest) s h ms := by
  subst hm
  exact wl_t (ot_callv ho hx hc ha k) hd hn hg fun v h' ms' ⟨pre', e1, e2, e3⟩ => by subst e1; exact K v h' pre' e2 e3
end
end Go.Eng
