/- The engine, part 4: operations that write or make memory. -/
import Derived.Test.YthdkhnjnhhofgaaEng3
import Derived.Laws.Append
import Derived.Laws.MakeOwn
import Derived.Laws.CopyRow
set_option linter.unusedSimpArgs false
set_option linter.unusedVariables false
namespace Go.Eng
open Go.RowKit

theorem perm_set {α : Type} (l : List α) (i : Nat) (x y : α) (h : l[i]? = some x) : ∃ r, l.Perm (x :: r) ∧ (l.set i y).Perm (y :: r) := by
  induction l generalizing i with
  | nil => cases h
  | cons a l ih =>
    cases i with
    | zero => simp at h; subst h; exact ⟨l, List.Perm.refl _, List.Perm.refl _⟩
    | succ i =>
      simp at h
      obtain ⟨r, h1, h2⟩ := ih i h
      exact ⟨a :: r, (h1.cons a).trans (List.Perm.swap _ _ _), by rw [List.set_cons_succ]; exact (h2.cons a).trans (List.Perm.swap _ _ _)⟩

/-- A slice value that reads as n elements of sz cells each. -/
structure Rd (h : Hp) (ms : List Hp) (v : Value) (sz n : Nat) (cs : List Value) : Prop where
  ex : ∃ a c, v = .slice a n c ∧ n ≤ c ∧ c ≤ 9223372036854775807 ∧ cs.length = n * sz ∧ (0 < n → ∃ q, a = some q ∧ Seg h ms q cs)

/-- A slice value that owns its row. -/
def Own (el : TypeId) (sz : Nat) (m : Hp) (v : Value) (n : Nat) (cs : List Value) : Prop :=
  cs.length = n * sz ∧ ((v = .slice none 0 0 ∧ n = 0 ∧ m = Hp.emp) ∨
    ∃ g cap spare, v = .slice (some ⟨g, 0, none⟩) n cap ∧ m = Blk g el (cs ++ spare) ∧ (cs ++ spare).length = cap * sz ∧ n ≤ cap ∧ cap ≤ 9223372036854775807)

theorem Rd.le {h h' : Hp} {ms : List Hp} {v : Value} {sz n : Nat} {cs : List Value} (R : Rd h ms v sz n cs) (l : h.le h') : Rd h' ms v sz n cs := by
  obtain ⟨a, c, e1, e2, e3, e4, e5⟩ := R.ex
  exact ⟨a, c, e1, e2, e3, e4, fun hn => let ⟨q, q1, q2⟩ := e5 hn; ⟨q, q1, q2.le l⟩⟩
theorem Rd.sub {h : Hp} {ms ms' : List Hp} {v : Value} {sz n : Nat} {cs : List Value} (R : Rd h ms v sz n cs) (l : ∀ m ∈ ms, m ∈ ms') : Rd h ms' v sz n cs := by
  obtain ⟨a, c, e1, e2, e3, e4, e5⟩ := R.ex
  exact ⟨a, c, e1, e2, e3, e4, fun hn => let ⟨q, q1, q2⟩ := e5 hn; ⟨q, q1, q2.sub l⟩⟩
theorem Rd.any {h : Hp} {ms : List Hp} {v : Value} {sz n : Nat} {cs : List Value} (R : Rd h [] v sz n cs) : Rd h ms v sz n cs := R.sub (by simp)
theorem Rd.nil (h : Hp) (ms : List Hp) (sz : Nat) : Rd h ms (.slice none 0 0) sz 0 [] := ⟨none, 0, rfl, Nat.le_refl _, by omega, by simp, fun h => by omega⟩

theorem Own.nil (el : TypeId) (sz : Nat) : Own el sz Hp.emp (.slice none 0 0) 0 [] := ⟨by simp, .inl ⟨rfl, rfl, rfl⟩⟩
/-- What is owned can be read. -/
theorem Own.rd {el : TypeId} {sz : Nat} {m : Hp} {v : Value} {n : Nat} {cs : List Value} (O : Own el sz m v n cs) {h : Hp} {ms : List Hp} (hm : m ∈ ms) : Rd h ms v sz n cs := by
  obtain ⟨h1, h2⟩ := O
  rcases h2 with ⟨rfl, rfl, rfl⟩ | ⟨g, cap, spare, rfl, rfl, e1, e2, e3⟩
  · exact ⟨none, 0, rfl, Nat.le_refl _, by omega, h1, fun h => by omega⟩
  · refine ⟨_, cap, rfl, e2, e3, h1, fun _ => ⟨_, rfl, fun j v hv => ?_⟩⟩
    obtain ⟨i, hi⟩ := List.getElem?_of_mem hm
    exact Cell.blk i hi (by rw [List.getElem?_append_left (List.getElem?_eq_some_iff.1 hv).1]; exact hv)
/-- .. once it is immutable. -/
theorem Own.rdh {el : TypeId} {sz : Nat} {m : Hp} {v : Value} {n : Nat} {cs : List Value} (O : Own el sz m v n cs) {h : Hp} {ms : List Hp} (hm : m.le h) : Rd h ms v sz n cs := by
  obtain ⟨h1, h2⟩ := O
  rcases h2 with ⟨rfl, rfl, rfl⟩ | ⟨g, cap, spare, rfl, rfl, e1, e2, e3⟩
  · exact ⟨none, 0, rfl, Nat.le_refl _, by omega, h1, fun h => by omega⟩
  · refine ⟨_, cap, rfl, e2, e3, h1, fun _ => ⟨_, rfl, fun j v hv => ?_⟩⟩
    refine ⟨by unfold Addr.add; split <;> rfl, (cs ++ spare).toArray, el, (0, 0), .inl (hm _ _ ?_), ?_⟩
    · rw [addr_add_block]; exact Hp.one_self _ _
    · rw [addr_add_off]
      have := (List.getElem?_eq_some_iff.1 hv).1
      simp only [Nat.zero_add, List.getElem?_toArray]
      rw [List.getElem?_append_left this]; exact hv

theorem Ends.put {w0 w w' : World} {h0 h : Hp} {ms0 ms : List Hp} {i g : Nat} {el : TypeId} {l l' : List Value} (H : Ends w0 h0 ms0 w h ms) (hm : ms[i]? = some (Blk g el l))
    (hos : w'.os = w.os) (htape : w'.tape = w.tape) (hout : w'.output = w.output) (hsize : w.heap.size ≤ w'.heap.size)
    (hg : w'.heap[g]? = some (.cells l'.toArray el (0, 0))) (hother : ∀ k, k < w.heap.size → k ≠ g → w'.heap[k]? = w.heap[k]?) : Ends w0 h0 ms0 w' h (ms.set i (Blk g el l')) := by
  obtain ⟨r, p1, p2⟩ := perm_set ms i (Blk g el l) (Blk g el l') hm
  exact Ends.perm (Ends.change (H.perm p1) hos htape hout hsize hg hother) p2.symm

section
variable {P : Program} {o : Oper} {s : Slots} {h : Hp} {ms : List Hp} {e : Entry} {Q : Exit → Act → World → Prop} {ops : Array Oper} {rest : List Oper}

/-! new blocks -/
theorem ot_alloc {t : TypeId} {sz : Nat} {z : Value} {bytes : Nat} (zl : List Value) (ho : o.op = .alloc t) (hs : Elem e.P t sz z bytes) (hz : z.cells = zl.toArray) :
    OT e o s h ms (fun v h' ms' => ∃ g, v = .pointer (some ⟨g, 0, none⟩) ∧ h' = h ∧ ms' = Blk g t zl :: ms) := fun ρ w hρ hw => by
  have : (execOp ρ o).run e.P w = .ok (.value (.pointer (some ⟨w.heap.size, 0, none⟩))) (w.alloc (.cells zl.toArray t)) := by
    simp [execOp, ho, Instr.alloc, hs.zeroValue, newVar, newRow, hz]
  unfold OpRes; rw [this]
  exact ⟨h, _, Ends.alloc hw _, _, rfl, rfl, rfl⟩
theorem wl_alloc {t : TypeId} {sz : Nat} {z : Value} {bytes d : Nat} (zl : List Value) (ho : o.op = .alloc t) (hs : Elem e.P t sz z bytes) (hz : z.cells = zl.toArray) (hd : o.dst = some d) (hn : Nat.blt d e.n = true) (hg : o.guard = none)
    (k : ∀ g, WL e ops Q rest ((d, .pointer (some ⟨g, 0, none⟩)) :: s) h (Blk g t zl :: ms)) : WL e ops Q (o :: rest) s h ms :=
  wl_t (ot_alloc zl ho hs hz) hd hn hg fun _ _ _ ⟨g, e1, e2, e3⟩ => by subst e1 e2 e3; exact k g
theorem wl_box {t : TypeId} {x : Operand} {v : Value} {d : Nat} (zl : List Value) (ho : o.op = .box t x) (hx : ev s x = some v) (hz : v.cells = zl.toArray) (hd : o.dst = some d) (hn : Nat.blt d e.n = true) (hg : o.guard = none)
    (k : ∀ g, WL e ops Q rest ((d, .pointer (some ⟨g, 0, none⟩)) :: s) h (Blk g t zl :: ms)) : WL e ops Q (o :: rest) s h ms :=
  wl_t (post := fun v h' ms' => ∃ g, v = .pointer (some ⟨g, 0, none⟩) ∧ h' = h ∧ ms' = Blk g t zl :: ms) (fun ρ w hρ hw => by
    have : (execOp ρ o).run e.P w = .ok (.value (.pointer (some ⟨w.heap.size, 0, none⟩))) (w.alloc (.cells zl.toArray t)) := by
      simp [execOp, ho, hρ _ _ hx, Instr.box, newVar, newRow, hz]
    unfold OpRes; rw [this]
    exact ⟨h, _, Ends.alloc hw _, _, rfl, rfl, rfl⟩) hd hn hg fun _ _ _ ⟨g, e1, e2, e3⟩ => by subst e1 e2 e3; exact k g
theorem run_buildSlice {t el : TypeId} {sz n : Nat} {z : Value} {bytes : Nat} {vs : List (Nat × Value)} (ps : List (Nat × List Value)) (zl vl : List Value) (ht : P.underlying t = some (.slice el)) (hs : Elem P el sz z bytes) (hb : n * sz ≤ 16777216)
    (hz : (Array.range (n * sz)).map (fun i => (if n * sz = 0 then #[] else z.cells)[i % (if n * sz = 0 then #[] else z.cells).size]!) = zl.toArray) (hps : PourOK (fun i => some (i * sz, sz)) zl.length vs ps) (hvl : pour zl ps = vl) (w : World) :
    (Instr.buildSlice t n vs.toArray).run P w = .ok (.slice (some ⟨w.heap.size, 0, none⟩) n n) (w.alloc (.cells vl.toArray el)) := by
  have hf := fill_pour (fun i => some (i * sz, sz)) vs zl ps hps
  have hb' : ¬ (n * sz > 2 ^ 24) := by omega
  rw [hvl, ← hz] at hf
  simp only [Instr.buildSlice, Sem.run_bind, run_underlying ht, Result.andThen_ok, hs.sizeOf]
  rw [if_neg hb']
  by_cases h0 : n * sz = 0
  · simp only [h0, if_true] at hf ⊢
    simp only [Sem.run_bind, Sem.run_pure, Result.andThen_ok, hf, newRow, run_newObj]; rfl
  · simp only [h0, if_false] at hf ⊢
    simp only [Sem.run_bind, Sem.run_pure, Result.andThen_ok, hs.zeroValue, hf, newRow, run_newObj]; rfl
/-- A slice of one element. -/
theorem pourAt_all : ∀ (vs l : List Value) (k : Nat), k + vs.length ≤ l.length → pourAt l k vs = l.take k ++ vs ++ l.drop (k + vs.length)
  | [], l, k, h => by simp [pourAt]
  | v :: vs, l, k, h => by
    simp only [pourAt]
    have hk : k < l.length := by simp at h; omega
    rw [pourAt_all vs _ _ (by simp at h ⊢; omega)]
    rw [List.take_add_one, List.take_set_of_le (by omega), List.drop_set_of_lt (by omega)]
    have e1 : (l.set k v)[k]? = some v := by rw [List.getElem?_set]; simp only [if_true]; rw [if_pos hk]
    have e2 : k + 1 + vs.length = k + (v :: vs).length := by simp; omega
    rw [e1, e2]; simp
theorem run_buildSlice1 {t el : TypeId} {sz : Nat} {z : Value} {bytes : Nat} {v : Value} (zl : List Value) (ht : P.underlying t = some (.slice el)) (hs : Elem P el sz z bytes) (hv : v.cells = zl.toArray) (hl : zl.length = sz) (hzs : z.cells.size = sz) (hsz : 0 < sz ∧ sz ≤ 1000) (w : World) :
    (Instr.buildSlice t 1 #[(0, v)]).run P w = .ok (.slice (some ⟨w.heap.size, 0, none⟩) 1 1) (w.alloc (.cells zl.toArray el)) := by
  refine run_buildSlice (vs := [(0, v)]) [(0, zl)] ((List.range (1 * sz)).map (fun i => (if 1 * sz = 0 then #[] else z.cells)[i % (if 1 * sz = 0 then #[] else z.cells).size]!)) zl ht hs (by omega) (by apply Array.ext'; simp) ?_ ?_ w
  · refine ⟨⟨hv, by simp [hl], ?_⟩, trivial⟩
    simp [hl]
  · simp only [pour]
    rw [pourAt_all _ _ _ (by simp [hl])]
    simp [hl]
theorem wl_buildSlice1 {t el : TypeId} {sz d : Nat} {z : Value} {bytes : Nat} {x : Operand} {v : Value} (zl : List Value) (ho : o.op = .buildSlice t 1 #[(0, x)]) (ht : e.P.underlying t = some (.slice el)) (hs : Elem e.P el sz z bytes) (hx : ev s x = some v) (hv : v.cells = zl.toArray) (hl : zl.length = sz) (hzs : z.cells.size = sz) (hsz : 0 < sz ∧ sz ≤ 1000) (hd : o.dst = some d) (hn : Nat.blt d e.n = true) (hg : o.guard = none)
    (k : ∀ g, WL e ops Q rest ((d, .slice (some ⟨g, 0, none⟩) 1 1) :: s) h (Blk g el zl :: ms)) : WL e ops Q (o :: rest) s h ms :=
  wl_t (post := fun v h' ms' => ∃ g, v = .slice (some ⟨g, 0, none⟩) 1 1 ∧ h' = h ∧ ms' = Blk g el zl :: ms) (fun ρ w hρ hw => by
    have : (execOp ρ o).run e.P w = .ok (.value (.slice (some ⟨w.heap.size, 0, none⟩) 1 1)) (w.alloc (.cells zl.toArray el)) := by
      simp [execOp, ho, hρ _ _ hx, run_buildSlice1 zl ht hs hv hl hzs hsz]
    unfold OpRes; rw [this]
    exact ⟨h, _, Ends.alloc hw _, _, rfl, rfl, rfl⟩) hd hn hg fun _ _ _ ⟨g, e1, e2, e3⟩ => by subst e1 e2 e3; exact k g
theorem wl_buildSlice {t el : TypeId} {n sz d : Nat} {z : Value} {bytes : Nat} {lp : List (Nat × Operand)} {vs : List (Nat × Value)} (ps : List (Nat × List Value)) (zl vl : List Value) (ho : o.op = .buildSlice t n lp.toArray) (ht : e.P.underlying t = some (.slice el)) (hs : Elem e.P el sz z bytes)
    (hv : evp s lp = some vs) (hb : n * sz ≤ 16777216) (hz : (Array.range (n * sz)).map (fun i => (if n * sz = 0 then #[] else z.cells)[i % (if n * sz = 0 then #[] else z.cells).size]!) = zl.toArray) (hps : PourOK (fun i => some (i * sz, sz)) zl.length vs ps) (hvl : pour zl ps = vl) (hd : o.dst = some d) (hn : Nat.blt d e.n = true) (hg : o.guard = none)
    (k : ∀ g, WL e ops Q rest ((d, .slice (some ⟨g, 0, none⟩) n n) :: s) h (Blk g el vl :: ms)) : WL e ops Q (o :: rest) s h ms :=
  wl_t (post := fun v h' ms' => ∃ g, v = .slice (some ⟨g, 0, none⟩) n n ∧ h' = h ∧ ms' = Blk g el vl :: ms) (fun ρ w hρ hw => by
    have hm : (lp.toArray.map fun (i, x) => (i, ρ x)) = vs.toArray := by
      rw [List.map_toArray, hρ.pairs lp vs hv]
    have : (execOp ρ o).run e.P w = .ok (.value (.slice (some ⟨w.heap.size, 0, none⟩) n n)) (w.alloc (.cells vl.toArray el)) := by
      simp only [execOp, ho, hm, Sem.run_bind, run_buildSlice ps zl vl ht hs hb hz hps hvl, Result.andThen_ok, Sem.run_pure]
    unfold OpRes; rw [this]
    exact ⟨h, _, Ends.alloc hw _, _, rfl, rfl, rfl⟩) hd hn hg fun _ _ _ ⟨g, e1, e2, e3⟩ => by subst e1 e2 e3; exact k g

/-! stores -/
theorem wl_storeAt {t el : TypeId} {x y : Operand} {p : Addr} {v : Value} {z : Value} {bytes g : Nat} {l : List Value} (i k : Nat) (ho : o.op = .store t x y) (hs : Elem e.P t 1 z bytes) (hx : ev s x = some (.pointer (some p))) (hy : ev s y = some v) (h1 : v.oneCell' = true)
    (hm : ms[i]? = some (Blk g el l)) (hp : p = (⟨g, 0, none⟩ : Addr).add k) (hk : k < l.length) (hd : o.dst = none) (hg : o.guard = none)
    (K : WL e ops Q rest s h (ms.set i (Blk g el (l.set k v)))) : WL e ops Q (o :: rest) s h ms :=
  wl_t0 (post := fun _ h' ms' => h' = h ∧ ms' = ms.set i (Blk g el (l.set k v))) (fun ρ w hρ hw => by
    have hp' : p = ⟨g, k, none⟩ := by subst hp; unfold Addr.add; split <;> simp_all
    have hgw : w.heap[g]? = some (.cells l.toArray el (0, 0)) := hw.st.own _ (List.mem_of_getElem? hm) g _ (Hp.one_self _ _)
    have hc : w.cell? ⟨g, k, none⟩ = some l[k] := by simp [World.cell?, hgw, hk]
    have hf : w.frozen? ⟨g, k, none⟩ = false := by simp [World.frozen?, hgw]
    have hvc : v.cells = #[v] := by cases v <;> first | rfl | (simp [Value.oneCell'] at h1)
    have hst : (store (Addr.add ⟨g, k, none⟩ 0) v).run e.P w = .ok () (w.setCell ⟨g, k, none⟩ v) := by
      rw [addr_add_zero, run_store e.P w _ v _ h1, hc]; simp [hf]
    have : (execOp ρ o).run e.P w = .ok .skip (w.setCell ⟨g, k, none⟩ v) := by
      simp [execOp, ho, hρ _ _ hx, hρ _ _ hy, Instr.storeAt, Instr.sureAddr, storeVar, hs.sizeOf, hvc, hp', storeCells, hst]
    unfold OpRes; rw [this]
    refine ⟨h, _, Ends.put hw hm rfl rfl rfl (by simp [World.setCell]) (l' := l.set k v) ?_ (fun j hj hne => Below.heap_setCell _ _ _ _ hne), rfl, rfl⟩
    rw [heap_setCell_same w g k l.toArray el v hgw]; simp) hd hg fun _ _ _ ⟨e1, e2⟩ => by subst e1 e2; exact K
/-- A whole variable. -/
theorem wl_storeAll {t el : TypeId} {x y : Operand} {v : Value} {z : Value} {sz bytes g : Nat} {l : List Value} (i : Nat) (vl : List Value) (ho : o.op = .store t x y) (hs : Elem e.P t sz z bytes) (hx : ev s x = some (.pointer (some ⟨g, 0, none⟩))) (hy : ev s y = some v) (hv : v.cells = vl.toArray) (h1 : ∀ u ∈ vl, u.oneCell' = true)
    (hm : ms[i]? = some (Blk g el l)) (hl : vl.length = sz) (hl' : l.length = sz) (hd : o.dst = none) (hg : o.guard = none)
    (K : WL e ops Q rest s h (ms.set i (Blk g el vl))) : WL e ops Q (o :: rest) s h ms :=
  wl_t0 (post := fun _ h' ms' => h' = h ∧ ms' = ms.set i (Blk g el vl)) (fun ρ w hρ hw => by
    have hgw : w.heap[g]? = some (.cells l.toArray el (0, 0)) := hw.st.own _ (List.mem_of_getElem? hm) g _ (Hp.one_self _ _)
    have hst := run_storeCells_at e.P g 0 el vl 0 l.toArray w hgw (by simp; omega) h1
    have : (execOp ρ o).run e.P w = .ok .skip (w.setRow g vl.toArray) := by
      simp [execOp, ho, hρ _ _ hx, hρ _ _ hy, Instr.storeAt, Instr.sureAddr, storeVar, hs.sizeOf, hv, hl, hst]
      rw [List.drop_eq_nil_of_le (by omega)]; simp
    unfold OpRes; rw [this]
    exact ⟨h, _, Ends.put hw hm rfl rfl rfl (by simp) (setRow_heap w g _ _ _ _ hgw) (fun j hj hne => setRow_other w g j _ hne), rfl, rfl⟩) hd hg fun _ _ _ ⟨e1, e2⟩ => by subst e1 e2; exact K

/-! append -/
theorem run_append_zero (w : World) (t ty el : TypeId) {sz : Nat} {z : Value} {bytes : Nat} (ht : P.underlying t = some (.slice el)) (hs : Elem P el sz z bytes) (base a : Option Addr) (n cap c : Nat) (hn : n ≤ cap) :
    (Builtin.append_ #[t, t] ty #[.slice base n cap, .slice a 0 c]).run P w = .ok (.slice base n cap) w := by
  cases base <;> cases a <;> simp [Builtin.append_, run_underlying ht, hs.sizeOf, Builtin.lenOf, hn, Builtin.firstCells, loadCells, loadCellsFrom, storeCells]

theorem run_append {w0 w : World} {h0 h : Hp} {ms0 ms : List Hp} {m : Hp} (H : Ends w0 h0 ms0 w h (m :: ms)) (t ty el : TypeId) {sz : Nat} {z : Value} {bytes : Nat} (ht : P.underlying t = some (.slice el)) (hs : Elem P el sz z bytes) (hzs : z.cells.size = sz) (hsz : 0 < sz)
    {v x : Value} {n k : Nat} {cs news : List Value} (O : Own el sz m v n cs) (R : Rd h (m :: ms) x sz k news) (h1 : ∀ u ∈ news, u.oneCell' = true) (hb : (n + k) * bytes ≤ 140737488355328) (hb63 : n + k ≤ 9223372036854775807) :
    ∃ v' w' m', (Builtin.append_ #[t, t] ty #[v, x]).run P w = .ok v' w' ∧ Own el sz m' v' (n + k) (cs ++ news) ∧ Ends w0 h0 ms0 w' h (m' :: ms) := by
  obtain ⟨a, c, rfl, hkc, hcm, hnl, hq⟩ := R.ex
  obtain ⟨hcl, hO⟩ := O
  obtain ⟨i, hi, hz, his, hib⟩ := hs.info
  rcases Nat.eq_zero_or_pos k with rfl | hk
  · have hnews : news = [] := List.eq_nil_of_length_eq_zero (by simpa using hnl)
    subst hnews
    rcases hO with ⟨rfl, rfl, rfl⟩ | ⟨g, cap, spare, rfl, rfl, e1, e2, e3⟩
    · exact ⟨_, w, _, run_append_zero w t ty el ht hs none a 0 0 c (Nat.le_refl _), ⟨by simpa using hcl, .inl ⟨rfl, rfl, rfl⟩⟩, H⟩
    · exact ⟨_, w, _, run_append_zero w t ty el ht hs _ a n cap c e2, ⟨by simpa using hcl, .inr ⟨g, cap, spare, rfl, by simp, by simpa using e1, e2, e3⟩⟩, H⟩
  · obtain ⟨q, rfl, hseg⟩ := hq hk
    have hnews : ∀ j u, news[j]? = some u → w.cell? (q.add j) = some u := fun j u e => H.st.cell (hseg j u e)
    have hcap : ∀ old, grownCap w (n + k) old el ≤ 9223372036854775807 ∧ n + k ≤ grownCap w (n + k) old el := fun old =>
      ⟨grownCap_le_maxLen w (n + k) old el (by simp only [maxLen]; omega), grownCap_ge w (n + k) old el⟩
    have hzl : ∀ N, (Builtin.zeroCells z.cells N).toList.length = N * sz := fun N => by rw [Array.length_toList, size_zeroCells, hzs]
    rcases hO with ⟨rfl, rfl, rfl⟩ | ⟨g, cap, spare, rfl, rfl, e1, e2, e3⟩
    · have hc0 : cs = [] := List.eq_nil_of_length_eq_zero (by simpa using hcl)
      subst hc0
      simp only [Nat.zero_add, List.nil_append] at *
      have hr := run_append_nil (P := P) w t ty el i z ht hi hz q k c news (by rw [his]; exact hnl) hnews hk (by omega) (by rw [hib]; omega)
      refine ⟨_, _, _, hr, ⟨hnl, .inr ⟨w.heap.size, grownCap w k 0 el, (Builtin.zeroCells z.cells (grownCap w k 0 el - k)).toList, rfl, rfl, ?_, (hcap 0).2, (hcap 0).1⟩⟩, ?_⟩
      · rw [List.length_append, hzl, hnl, ← Nat.add_mul]
        congr 1; have := (hcap 0).2; omega
      · have := Ends.alloc (Ends.drew (Ends.drop H)) (.cells (news.toArray ++ Builtin.zeroCells z.cells (grownCap w k 0 el - k)) el)
        have e : (news ++ (Builtin.zeroCells z.cells (grownCap w k 0 el - k)).toList).toArray = news.toArray ++ Builtin.zeroCells z.cells (grownCap w k 0 el - k) := by
          apply Array.ext'; simp
        unfold Blk; rw [e]; exact this
    · have hgw : w.heap[g]? = some (.cells (cs ++ spare).toArray el (0, 0)) := H.st.own _ (List.mem_cons_self) g _ (Hp.one_self _ _)
      by_cases hroom : n + k ≤ cap
      · have hfit : n * i.size + news.length ≤ (cs ++ spare).toArray.size := by
          rw [his, hnl, List.size_toArray, e1, ← Nat.add_mul]; exact Nat.mul_le_mul_right _ hroom
        have hr := run_append_room (P := P) w t ty el i ht hi g n cap (cs ++ spare).toArray hgw q k c news (by rw [his]; exact hnl) hnews h1 hroom hfit
        have e5 : (List.take (n * i.size) (cs ++ spare).toArray.toList ++ news ++ List.drop (n * i.size + news.length) (cs ++ spare).toArray.toList) = cs ++ news ++ spare.drop news.length := by
          rw [his, ← hcl]
          have hd : List.drop (cs.length + news.length) (cs ++ spare) = spare.drop news.length := by rw [← List.drop_drop, List.drop_left]
          simp only [List.take_left', hd, List.append_assoc]
        rw [e5] at hr
        refine ⟨_, _, _, hr, ⟨by rw [List.length_append, hcl, hnl, Nat.add_mul], .inr ⟨g, cap, spare.drop news.length, rfl, rfl, ?_, hroom, e3⟩⟩, ?_⟩
        · rw [← e1]
          simp only [List.length_append, List.length_drop]
          have : news.length ≤ spare.length := by
            rw [List.size_toArray, List.length_append, his, ← hcl] at hfit; omega
          omega
        · exact Ends.change H rfl rfl rfl (by simp) (setRow_heap w g _ _ _ _ hgw) (fun j hj hne => setRow_other w g j _ hne)
      · have holds : ∀ j u, cs[j]? = some u → w.cell? ((⟨g, 0, none⟩ : Addr).add j) = some u := fun j u hv => H.st.cell (Cell.blk (el := el) (l := cs ++ spare) 0 rfl (by rw [List.getElem?_append_left (List.getElem?_eq_some_iff.1 hv).1]; exact hv))
        have hr := run_append_grow (P := P) w t ty el i z ht hi hz ⟨g, 0, none⟩ n cap cs (by rw [his]; exact hcl) holds q k c news (by rw [his]; exact hnl) hnews (by omega) (by omega) (by rw [hib]; exact growslice_fits (by omega) hb)
        refine ⟨_, _, _, hr, ⟨by rw [List.length_append, hcl, hnl, Nat.add_mul], .inr ⟨w.heap.size, grownCap w (n + k) cap el, (Builtin.zeroCells z.cells (grownCap w (n + k) cap el - (n + k))).toList, rfl, rfl, ?_, (hcap cap).2, (hcap cap).1⟩⟩, ?_⟩
        · rw [List.length_append, List.length_append, hzl, hcl, hnl, ← Nat.add_mul, ← Nat.add_mul]
          congr 1; have := (hcap cap).2; omega
        · have := Ends.alloc (Ends.drew (Ends.drop H)) (.cells (cs.toArray ++ news.toArray ++ Builtin.zeroCells z.cells (grownCap w (n + k) cap el - (n + k))) el)
          have e : (cs ++ news ++ (Builtin.zeroCells z.cells (grownCap w (n + k) cap el - (n + k))).toList).toArray = cs.toArray ++ news.toArray ++ Builtin.zeroCells z.cells (grownCap w (n + k) cap el - (n + k)) := by
            apply Array.ext'; simp
          unfold Blk; rw [e]; exact this

/-- append, to the i-th of what is owned. -/
theorem wl_append {t el : TypeId} {sz d : Nat} {z : Value} {bytes : Nat} {x y : Operand} {v u : Value} {m : Hp} {n k : Nat} {cs news : List Value} (i : Nat) (ho : o.op = .call { callee := .builtin .append, args := #[x, y], argTypes := #[t, t] }) (ht : e.P.underlying t = some (.slice el)) (hs : Elem e.P el sz z bytes) (hzs : z.cells.size = sz) (hsz : 0 < sz)
    (hx : ev s x = some v) (hy : ev s y = some u) (hm : ms[i]? = some m) (O : Own el sz m v n cs) (R : Rd h ms u sz k news) (h1 : ∀ u ∈ news, u.oneCell' = true) (hb : (n + k) * bytes ≤ 140737488355328) (hb63 : n + k ≤ 9223372036854775807) (hd : o.dst = some d) (hn : Nat.blt d e.n = true) (hg : o.guard = none)
    (K : ∀ v' m', Own el sz m' v' (n + k) (cs ++ news) → WL e ops Q rest ((d, v') :: s) h (ms.set i m')) : WL e ops Q (o :: rest) s h ms :=
  wl_t (post := fun v' h' ms' => ∃ m', h' = h ∧ ms' = ms.set i m' ∧ Own el sz m' v' (n + k) (cs ++ news)) (fun ρ w hρ hw => by
    obtain ⟨r, p1, _⟩ := perm_set ms i m m hm
    obtain ⟨v', w', m', hr, hO, hE⟩ := run_append (P := e.P) (Ends.perm hw p1) t o.type el ht hs hzs hsz O (R.sub (fun m hm => p1.mem_iff.1 hm)) h1 hb hb63
    have : (execOp ρ o).run e.P w = .ok (.value v') w' := by
      simp [execOp, ho, hρ _ _ hx, hρ _ _ hy, resolve, invoke, builtin, hr]
    unfold OpRes; rw [this]
    obtain ⟨r', q1, q2⟩ := perm_set ms i m m' hm
    have pr : (m' :: r).Perm (ms.set i m') := ((List.Perm.cons_inv (p1.symm.trans q1)).cons m').trans q2.symm
    exact ⟨h, _, Ends.perm hE pr, m', rfl, rfl, hO⟩) hd hn hg fun v' h' ms' ⟨m', e1, e2, e3⟩ => by subst e1 e2; exact K v' m' e3

/-! make -/
theorem madeCells_one (v : Value) (n : Nat) : madeCells #[v] n = (List.replicate n v).toArray := by
  apply Array.ext
  · simp [madeCells]
  · intro i h1 h2; simp [madeCells, Nat.mod_one]
theorem wl_make {t el : TypeId} {d : Nat} {z : Value} {bytes n : Nat} {x y : Operand} {k1 k2 : IntKind} {l c : Int} (ho : o.op = .makeSlice t x y) (ht : e.P.underlying t = some (.slice el)) (hs : Elem e.P el 1 z bytes) (hz : z.cells = #[z])
    (hx : ev s x = some (.int k1 l)) (hy : ev s y = some (.int k2 c)) (hl : l = (n : Int)) (hc : c = (n : Int)) (hb : bytes * n ≤ 281474976710656) (h63 : n ≤ 9223372036854775807) (hd : o.dst = some d) (hn : Nat.blt d e.n = true) (hg : o.guard = none)
    (k : ∀ g, WL e ops Q rest ((d, .slice (some ⟨g, 0, none⟩) n n) :: s) h (Blk g el (List.replicate n z) :: ms)) : WL e ops Q (o :: rest) s h ms :=
  wl_t (post := fun v h' ms' => ∃ g, v = .slice (some ⟨g, 0, none⟩) n n ∧ h' = h ∧ ms' = Blk g el (List.replicate n z) :: ms) (fun ρ w hρ hw => by
    obtain ⟨i, hi, hz', his, hib⟩ := hs.info
    have hb' : (i.bytes : Int) * c ≤ 281474976710656 := by
      rw [hib, hc]
      have h : ((bytes * n : Nat) : Int) ≤ 281474976710656 := by omega
      rwa [Int.natCast_mul] at h
    have hr := run_make (P := e.P) w t el i z ht hi hz' k1 k2 l c (by omega) (by omega) hb' (by omega)
    have : (execOp ρ o).run e.P w = .ok (.value (.slice (some ⟨w.heap.size, 0, none⟩) n n)) (w.alloc (.cells (List.replicate n z).toArray el)) := by
      have e1 : l.toNat = n := by omega
      have e2 : c.toNat = n := by omega
      rw [e1, e2, his, hz, Nat.mul_one, madeCells_one] at hr
      simp only [execOp, ho, hρ _ _ hx, hρ _ _ hy, Sem.run_bind, hr, Result.andThen_ok, Sem.run_pure]
    unfold OpRes; rw [this]
    exact ⟨h, _, Ends.alloc hw _, _, rfl, rfl, rfl⟩) hd hn hg fun _ _ _ ⟨g, e1, e2, e3⟩ => by subst e1 e2 e3; exact k g
end
end Go.Eng
