/- Parts of the proof: Eng7 Eng8 Eng9 Eng10 Eng11 Eng12 Eng13 Eng14 Eng15 Eng16 Eng17 Eng18 Eng19 Eng20 Eng21 Eng22 Eng23 Eng24 Eng25 Eng26. -/
import Derived.Test.YtdnelknieikbaaaGreatTB
import Derived.Sort.AssemblyPlain
import Derived.Sort.LotD5
import Derived.Sort.Walk13a
import Derived.Lib.BitFns
import Derived.Laws.CopyRow
import Derived.Deep.Slices
import Derived.OpenShut
import Derived.Maps.RangeRun
import Derived.Maps.Keyed
import Derived.Carry
import Derived.Lib.SliceRun
import Derived.Scope
set_option linter.unusedSimpArgs false
set_option linter.unusedVariables false
namespace Go.Eng
open Go.RowKit
variable {j : Nat} {u : Value}
def Bl : Value → Addr
  | .slice (some p) _ _ => p
  | _ => ⟨0, 0, none⟩
def Ch (sz : Nat) (v : Value) (i j : Nat) : Value :=
  match v with
  | .slice a _ c => .slice (if c = i then a else a.map (·.add (i * sz))) (j - i) (c - i)
  | u => u
theorem Rd.val {h : Hp} {ms : List Hp} {v : Value} {sz n : Nat} {cs : List Value} (R : Rd h ms v sz n cs) (hn : 0 < n) : ∃ c, v = .slice (some (Bl v)) n c ∧ Seg h ms (Bl v) cs := by
  obtain ⟨a, c, rfl, e2, e3, e4, e5⟩ := R.ex
  obtain ⟨q, rfl, hs⟩ := e5 hn
  exact ⟨c, rfl, hs⟩
theorem Rd.len_le {h : Hp} {ms : List Hp} {v : Value} {sz n : Nat} {cs : List Value} (R : Rd h ms v sz n cs) : n ≤ 9223372036854775807 := by
  obtain ⟨a, c, rfl, e2, e3, e4, e5⟩ := R.ex; omega
theorem Rd.cells {h : Hp} {ms : List Hp} {v : Value} {sz n : Nat} {cs : List Value} (R : Rd h ms v sz n cs) : v.cells = [v].toArray := by
  obtain ⟨a, c, rfl, _⟩ := R.ex; rfl
theorem Rd.one {h : Hp} {ms : List Hp} {v : Value} {sz n : Nat} {cs : List Value} (R : Rd h ms v sz n cs) : v.oneCell' = true := by
  obtain ⟨a, c, rfl, _⟩ := R.ex; rfl
theorem Rd.blk {h : Hp} {ms : List Hp} {g : Nat} {el : TypeId} {sz n c : Nat} {cs : List Value} (hm : AX g el cs ∈ ms) (hl : cs.length = n * sz) (hn : n ≤ c) (hc : c ≤ 9223372036854775807) : Rd h ms (.slice (some ⟨g, 0, none⟩) n c) sz n cs := by
  refine ⟨_, c, rfl, hn, hc, hl, fun _ => ⟨_, rfl, ?_⟩⟩
  obtain ⟨i, hi⟩ := List.getElem?_of_mem hm
  exact Seg.blk i hi
theorem Rd.sub_ {h : Hp} {ms : List Hp} {v : Value} {sz n : Nat} {cs : List Value} (R : Rd h ms v sz n cs) {i : Nat} (hi : i ≤ j) (hj : j ≤ n) : Rd h ms (Ch sz v i j) sz (j - i) ((cs.drop (i * sz)).take ((j - i) * sz)) := by
  obtain ⟨a, c, rfl, e2, e3, e4, e5⟩ := R.ex
  refine ⟨_, c - i, rfl, by omega, by omega, ?_, fun hlt => ?_⟩
  · rw [List.length_take, List.length_drop, e4]
    have h1 : (j - i) * sz ≤ n * sz - i * sz := by rw [← Nat.sub_mul]; exact Nat.mul_le_mul_right _ (by omega)
    omega
  · obtain ⟨q, rfl, hs⟩ := e5 (by omega)
    have hci : ¬ c = i := by omega
    refine ⟨q.add (i * sz), by simp [hci], fun k u hu => ?_⟩
    rw [A6]
    refine hs _ u ?_
    rw [List.getElem?_take] at hu
    split at hu
    · rw [List.getElem?_drop] at hu; exact hu
    · cases hu
structure RdL {α : Type} (F : α → List Value) (sz : Nat) (h : Hp) (ms : List Hp) (v : Value) (l : List α) : Prop where
  rd : Rd h ms v sz l.length (l.flatMap F)
  len : ∀ x, (F x).length = sz
structure OwnL {α : Type} (F : α → List Value) (sz : Nat) (el : TypeId) (m : Hp) (v : Value) (l : List α) : Prop where
  own : Own el sz m v l.length (l.flatMap F)
  len : ∀ x, (F x).length = sz
section
variable {α : Type} {F : α → List Value} {sz : Nat} {h h' : Hp} {ms ms' : List Hp} {v : Value} {l : List α} {el : TypeId} {m : Hp}
theorem RdL.up (R : RdL F sz h ms v l) (hl : h.le h') : RdL F sz h' ms v l := ⟨R.rd.le hl, R.len⟩
theorem RdL.sub (R : RdL F sz h ms v l) (hm : ∀ m ∈ ms, m ∈ ms') : RdL F sz h ms' v l := ⟨R.rd.sub hm, R.len⟩
theorem RdL.any (R : RdL F sz h [] v l) : RdL F sz h ms v l := R.sub (by simp)
theorem RdL.len_le (R : RdL F sz h ms v l) : l.length ≤ 9223372036854775807 := R.rd.len_le
theorem OwnL.rd (O : OwnL F sz el m v l) (hm : m ∈ ms) : RdL F sz h ms v l := ⟨O.own.rd hm, O.len⟩
theorem OwnL.rdh (O : OwnL F sz el m v l) (hm : m.le h) : RdL F sz h ms v l := ⟨O.own.rdh hm, O.len⟩
theorem OwnL.frozen (O : OwnL F sz el m v l) {h0 : Hp} (hd : m.disj h0) : RdL F sz (h0.join m) ms v l := O.rdh (Hp.join_le_right hd)
theorem OwnL.nil (hF : ∀ x, (F x).length = sz) : OwnL F sz el Hp.emp (.slice none 0 0) [] := ⟨Own.nil el sz, hF⟩
theorem D7 (hF : ∀ x, (F x).length = sz) : ∀ (l : List α) (j : Nat), (l.flatMap F).drop (j * sz) = (l.drop j).flatMap F
  | [], j => by simp
  | x :: l, 0 => by simp
  | x :: l, j + 1 => by
    rw [List.flatMap_cons, Nat.add_mul, Nat.one_mul, Nat.add_comm, ← List.drop_drop, ← hF x, List.drop_left, hF x, D7 hF l j]; rfl
theorem Fl (hF : ∀ x, (F x).length = sz) : ∀ (l : List α) (j : Nat), (l.flatMap F).take (j * sz) = (l.take j).flatMap F
  | [], j => by simp
  | x :: l, 0 => by simp
  | x :: l, j + 1 => by
    rw [List.flatMap_cons, Nat.add_mul, Nat.one_mul, Nat.add_comm, List.take_append, hF x, List.take_of_length_le (by rw [hF x]; omega), Nat.add_sub_cancel_left, Fl hF l j]; rfl
theorem BL (hF : ∀ x, (F x).length = sz) (l : List α) : (l.flatMap F).length = l.length * sz := by
  induction l with
  | nil => simp
  | cons x l ih => rw [List.flatMap_cons, List.length_append, hF, ih, List.length_cons, Nat.add_mul]; omega
theorem Ey (hF : ∀ x, (F x).length = sz) (l : List α) (j : Nat) (hj : j < l.length) (f : Nat) (u : Value) (hf : (F l[j])[f]? = some u) : (l.flatMap F)[j * sz + f]? = some u := by
  have h1 : ((l.flatMap F).drop (j * sz))[f]? = some u := by
    rw [D7 hF, List.drop_eq_getElem_cons hj, List.flatMap_cons, List.getElem?_append_left (List.getElem?_eq_some_iff.1 hf).1]; exact hf
  rwa [List.getElem?_drop] at h1
theorem RdL.cell (R : RdL F sz h ms v l) (hj : j < l.length) {f : Nat} (hf : (F l[j])[f]? = some u) : Cell h ms (((Bl v).add (j * sz)).add f) u := by
  obtain ⟨c, _, hs⟩ := R.rd.val (by omega)
  rw [A6]
  exact hs _ u (Ey R.len l j hj f u hf)
theorem RdL.cell0 (R : RdL F sz h ms v l) (hj : j < l.length) (hf : (F l[j])[0]? = some u) : Cell h ms ((Bl v).add (j * sz)) u := by
  have := R.cell hj hf; rwa [DK] at this
theorem RdL.seg (R : RdL F sz h ms v l) (hj : j < l.length) : Seg h ms ((Bl v).add (j * sz)) (F l[j]) := fun f u hf => R.cell hj hf
theorem RdL.sub_ (R : RdL F sz h ms v l) {i : Nat} (hi : i ≤ j) (hj : j ≤ l.length) : RdL F sz h ms (Ch sz v i j) ((l.drop i).take (j - i)) := by
  refine ⟨?_, R.len⟩
  have := R.rd.sub_ hi hj
  rw [D7 R.len, Fl R.len] at this
  have e : ((l.drop i).take (j - i)).length = j - i := by rw [List.length_take, List.length_drop]; omega
  rw [e]; exact this
end
section
variable {P : Program} {o : Oper} {s : Ay} {h : Hp} {ms : List Hp} {t el : TypeId} {x y lo hi : Operand} {v : Value} {sz n : Nat} {cs : List Value} {z : Value} {bytes : Nat} {k k' : IntKind}
theorem Ah {i : Int} (j : Nat) (R : Rd h ms v sz n cs) (ho : o.op = .indexAddr t x y) (ht : P.underlying t = some (.slice el)) (hs : Elem P el sz z bytes) (hx : ev s x = some v) (hy : ev s y = some (.int k i)) (hi : i = (j : Int)) (hlt : j < n) : OX P o s h ms (.pointer (some ((Bl v).add (j * sz)))) := by
  obtain ⟨c, e, _⟩ := R.val (by omega)
  rw [e] at hx
  exact Dz j ho ht hs hx hy hi hlt
theorem AJ (R : Rd h ms v sz n cs) (ho : o.op = .call { callee := .builtin .len, args := #[x], argTypes := #[t] }) (ht : P.underlying t = some (.slice el)) (hx : ev s x = some v) : OX P o s h ms (.int .i64 n) := by
  obtain ⟨a, c, rfl, _⟩ := R.ex
  exact Ml (ty := t) ho ht hx
theorem C5 {l r : Int} (i j : Nat) (R : Rd h ms v sz n cs) (ho : o.op = .slice t x (some lo) (some hi) none) (ht : P.underlying t = some (.slice el)) (hs : Elem P el sz z bytes) (hx : ev s x = some v) (hlo : ev s lo = some (.int k l)) (hhi : ev s hi = some (.int k' r)) (el' : l = (i : Int)) (er : r = (j : Int)) (h1 : i ≤ j) (h2 : j ≤ n) :
    OX P o s h ms (Ch sz v i j) := by
  obtain ⟨a, c, rfl, e2, e3, e4, e5⟩ := R.ex
  exact BI fun ρ w hρ _ => by
    have g1 : (0 : Int) ≤ l ∧ l ≤ (j : Int) := by omega
    have g2 : (0 : Int) ≤ r ∧ r ≤ (c : Int) := by omega
    have g3 : l.toNat = i := by omega
    have g4 : r.toNat = j := by omega
    simp [execOp, ho, hρ _ _ hx, hρ _ _ hlo, hρ _ _ hhi, Instr.sliceAt, Instr.slice, run_underlying ht, Instr.sliceBounds, Instr.sliceBound, asIntOf, g1, g2, g3, g4, hs.sizeOf, Ch]
theorem C3 {l : Int} (i : Nat) (R : Rd h ms v sz n cs) (ho : o.op = .slice t x (some lo) none none) (ht : P.underlying t = some (.slice el)) (hs : Elem P el sz z bytes) (hx : ev s x = some v) (hlo : ev s lo = some (.int k l)) (el' : l = (i : Int)) (h1 : i ≤ n) :
    OX P o s h ms (Ch sz v i n) := by
  obtain ⟨a, c, rfl, e2, e3, e4, e5⟩ := R.ex
  exact BI fun ρ w hρ _ => by
    have g1 : (0 : Int) ≤ l ∧ l ≤ (n : Int) := by omega
    have g3 : l.toNat = i := by omega
    simp [execOp, ho, hρ _ _ hx, hρ _ _ hlo, Instr.sliceAt, Instr.slice, run_underlying ht, Instr.sliceBounds, Instr.sliceBound, asIntOf, g1, g3, hs.sizeOf, Ch]
theorem EA {r : Int} (j : Nat) (R : Rd h ms v sz n cs) (ho : o.op = .slice t x none (some hi) none) (ht : P.underlying t = some (.slice el)) (hs : Elem P el sz z bytes) (hx : ev s x = some v) (hhi : ev s hi = some (.int k r)) (er : r = (j : Int)) (h2 : j ≤ n) :
    OX P o s h ms (Ch sz v 0 j) := by
  obtain ⟨a, c, rfl, e2, e3, e4, e5⟩ := R.ex
  exact BI fun ρ w hρ _ => by
    have g2 : (0 : Int) ≤ r ∧ r ≤ (c : Int) := by omega
    have g4 : r.toNat = j := by omega
    simp [execOp, ho, hρ _ _ hx, hρ _ _ hhi, Instr.sliceAt, Instr.slice, run_underlying ht, Instr.sliceBounds, Instr.sliceBound, asIntOf, g2, g4, hs.sizeOf, Ch]
end
section
variable {e : Entry} {Q : Exit → Act → World → Prop} {ops : Array Oper} {rest : List Oper} {o : Oper} {s : Ay} {h : Hp} {ms : List Hp} {α : Type} {F : α → List Value}
theorem Bm {t el : TypeId} {sz d : Nat} {z : Value} {bytes : Nat} {x y : Operand} {v : Value} {m : Hp} {l r : List α} (i : Nat) (O : OwnL F sz el m v l) (R : RdL F sz h ms u r) (ho : o.op = .call { callee := .builtin .append, args := #[x, y], argTypes := #[t, t] }) (ht : e.P.underlying t = some (.slice el)) (hs : Elem e.P el sz z bytes) (hzs : z.cells.size = sz) (hsz : 0 < sz)
    (hx : ev s x = some v) (hy : ev s y = some u) (hm : ms[i]? = some m) (h1 : ∀ a, ∀ c ∈ F a, c.oneCell' = true) (hb : (l.length + r.length) * bytes ≤ 140737488355328) (hb63 : l.length + r.length ≤ 9223372036854775807) (hd : o.dst = some d) (hn : Nat.blt d e.n = true) (hg : o.guard = none)
    (K : ∀ v' m', OwnL F sz el m' v' (l ++ r) → WL e ops Q rest ((d, v') :: s) h (ms.set i m')) : WL e ops Q (o :: rest) s h ms :=
  Jy i ho ht hs hzs hsz hx hy hm O.own R.rd (fun c hc => by obtain ⟨a, _, ha⟩ := List.mem_flatMap.1 hc; exact h1 a c ha) hb hb63 hd hn hg fun v' m' O' => K v' m' ⟨by rw [List.length_append, List.flatMap_append]; exact O', O.len⟩
theorem RdL.one {sz : Nat} {g : Nat} {el : TypeId} {x : α} {cs : List Value} (hF : ∀ x, (F x).length = sz) (hm : AX g el cs ∈ ms) (hc : cs = F x) : RdL F sz h ms (.slice (some ⟨g, 0, none⟩) 1 1) [x] :=
  ⟨by subst hc; simpa using Rd.blk (h := h) (n := 1) (c := 1) (sz := sz) hm (by rw [hF]; omega) (Nat.le_refl _) (by omega), hF⟩
end
def cI (n : Int) : List Value := [.int .i64 n]
def cB (b : Bool) : List Value := [.bool b]
theorem Br : ∀ n, (cI n).length = 1 := fun _ => rfl
theorem R1 : ∀ n, (cB n).length = 1 := fun _ => rfl
theorem Cv : ∀ a, ∀ c ∈ cI a, c.oneCell' = true := fun a c hc => by simp [cI] at hc; subst hc; rfl
theorem GG {α : Type} (f : α → Value) (l : List α) (k : Nat) (x : α) : (l.flatMap fun y => [f y]).set k (f x) = (l.set k x).flatMap fun y => [f y] := by
  induction l generalizing k with
  | nil => simp
  | cons a l ih =>
    cases k with
    | zero => simp
    | succ k => simp only [List.flatMap_cons, List.set_cons_succ, List.singleton_append]; rw [ih]
theorem Vc (l : List Int) (k : Nat) (x : Int) : (l.flatMap cI).set k (.int .i64 x) = (l.set k x).flatMap cI := GG (Value.int .i64) l k x
theorem Q8 (n : Nat) (x : Int) : List.replicate n (Value.int .i64 x) = (List.replicate n x).flatMap cI := by
  induction n with
  | zero => rfl
  | succ n ih => rw [List.replicate_succ, List.replicate_succ, List.flatMap_cons, ih]; rfl
end Go.Eng
namespace Go.Eng
open Go.RowKit
structure Fld (P : Program) (t : TypeId) (i off : Nat) : Prop where
  ex : ∃ fs f n, P.underlying t = some (.struct fs) ∧ fs[i]? = some f ∧ f.offset = off ∧ ∀ w, (sizeOf f.type).run P w = .ok (n + 1) w
structure Fr (P : Program) (t : TypeId) (places : Array (Nat × Nat)) : Prop where
  ex : ∃ fs, P.underlying t = some (.struct fs) ∧ ∀ w, (fs.mapM fun f => do pure (f.offset, ← sizeOf f.type) : Sem (Array (Nat × Nat))).run P w = .ok places w
section
variable {P : Program} {o : Oper} {s : Ay} {h : Hp} {ms : List Hp} {t : TypeId} {x : Operand}
theorem Pt {i off : Nat} {p : Addr} (F : Fld P t i off) (ho : o.op = .fieldAddr t x i) (hx : ev s x = some (.pointer (some p))) : OX P o s h ms (.pointer (some (p.add off))) := by
  obtain ⟨fs, f, n, h1, h2, h3, h4⟩ := F.ex
  have := PN (h := h) (ms := ms) ho h1 h2 h4 hx
  rwa [h3] at this
theorem AT {sz : Nat} {z : Value} {bytes : Nat} {lp : List (Nat × Operand)} {vs : List (Nat × Value)} {places : Array (Nat × Nat)} (S : Fr P t places) (zl : List Value) (ps : List (Nat × List Value)) (vl : List Value) (ho : o.op = .build t lp.toArray) (hs : Elem P t sz z bytes) (hz : z.cells = zl.toArray)
    (hv : S7 s lp = some vs) (hps : Gr (places[·]?) zl.length vs ps) (hvl : LD zl ps = vl) : OX P o s h ms (.agg vl.toArray) := by
  obtain ⟨fs, h1, h2⟩ := S.ex
  exact Sz zl ps vl ho h1 hs hz h2 hv hps hvl
end
end Go.Eng
namespace Go.Eng
variable {c : Code}
section
variable {e : Entry} {Q : Exit → Act → World → Prop} {s : Ay} {h : Hp} {ms : List Hp} {m : Hp} {α : Type} {F : α → List Value} {sz : Nat} {el : TypeId} {v : Value} {l : List α} {ops : Array Oper}
theorem Bg (O : OwnL F sz el m v l) (k : ∀ h', h.le h' → RdL F sz h' [] v l → WS e c Q s h' ms) : WS e c Q s h (m :: ms) :=
  fun a w ha hw => k _ (Hp.le_join _ _) (O.frozen (hw.st.off m List.mem_cons_self)) a w ha (Ends.freeze hw)
theorem AH {r : List Oper} (O : OwnL F sz el m v l) (k : ∀ h', h.le h' → RdL F sz h' [] v l → WL e ops Q r s h' ms) : WL e ops Q r s h (m :: ms) :=
  fun a w ha hw => k _ (Hp.le_join _ _) (O.frozen (hw.st.off m List.mem_cons_self)) a w ha (Ends.freeze hw)
theorem CW {x : Exit} (O : OwnL F sz el m v l) (k : ∀ h', h.le h' → RdL F sz h' [] v l → NX e Q x s h' ms) : NX e Q x s h (m :: ms) :=
  fun a w ha hw => k _ (Hp.le_join _ _) (O.frozen (hw.st.off m List.mem_cons_self)) a w ha (Ends.freeze hw)
theorem AL {g : Nat} {cs : List Value} (k : ∀ h', h.le h' → Seg h' [] ⟨g, 0, none⟩ cs → WS e c Q s h' ms) : WS e c Q s h (AX g el cs :: ms) :=
  fun a w ha hw => k _ (Hp.le_join _ _) (fun j u hu => ⟨by unfold Addr.add; split <;> rfl, cs.toArray, el, (0, 0), .inl (by
    rw [C2]
    exact (Hp.join_le_right (hw.st.off _ List.mem_cons_self)) _ _ (Hp.one_self _ _)), by rw [Dw]; simpa using hu⟩) a w ha (Ends.freeze hw)
theorem BD {r : List Oper} {g : Nat} {cs : List Value} (k : ∀ h', h.le h' → Seg h' [] ⟨g, 0, none⟩ cs → WL e ops Q r s h' ms) : WL e ops Q r s h (AX g el cs :: ms) :=
  fun a w ha hw => k _ (Hp.le_join _ _) (fun j u hu => ⟨by unfold Addr.add; split <;> rfl, cs.toArray, el, (0, 0), .inl (by
    rw [C2]
    exact (Hp.join_le_right (hw.st.off _ List.mem_cons_self)) _ _ (Hp.one_self _ _)), by rw [Dw]; simpa using hu⟩) a w ha (Ends.freeze hw)
theorem BX (k : WS e c Q s h (Hp.emp :: ms)) : WS e c Q s h ms := fun a w ha hw => k a w ha
  ⟨⟨hw.st.imm, fun m hm => by
      rcases List.mem_cons.1 hm with rfl | hm
      · intro g o e; cases e
      · exact hw.st.own m hm, fun m hm => by
      rcases List.mem_cons.1 hm with rfl | hm
      · exact fun _ => .inl rfl
      · exact hw.st.off m hm, List.pairwise_cons.2 ⟨fun _ _ _ => .inl rfl, hw.st.apart⟩⟩, hw.os, hw.tape, hw.output, hw.size, hw.block, hw.le, hw.hnew, fun m hm k hk hne => by
      rcases List.mem_cons.1 hm with rfl | hm
      · exact absurd rfl hne
      · exact hw.mnew m hm k hk hne⟩
end
theorem ES {α : Type} (l : List α) (p : α → Bool) (k : Nat) (hk : k < l.length) : (l.take (k + 1)).filter p = (l.take k).filter p ++ if p l[k] then [l[k]] else [] := by
  rw [List.take_succ_eq_append_getElem hk, List.filter_append]
  by_cases h : p l[k] <;> simp [h]
end Go.Eng
namespace Go.Eng
open Go.RowKit
variable {a : Act} {pu : List Nat}
def Q0 (Q : Exit → Act → World → Prop) : Exit → Act → World → Prop := fun x a w => x = .normal ∧ Q .normal a w
theorem HD {Q : Exit → Act → World → Prop} : ¬ LetsOut (Q0 Q) := fun h => by simp [LetsOut, Q0] at h
theorem NQ {e : Entry} {Q : Exit → Act → World → Prop} {s : Ay} {h : Hp} {ms : List Hp} (k : NX e Q .normal s h ms) : NX e (Q0 Q) .normal s h ms := fun a w ha hw => ⟨rfl, k a w ha hw⟩
def PX (P : Program) (o : Oper) (s : Ay) (v : Value) : Prop := ∀ ρ, Evs s ρ → ∀ w, (execOp ρ o).run P w = .ok (.value v) w
def zA (z : Ay) (a : Act) : Act := { a with tmps := a.tmps.mapIdx fun k x => (lk z k).getD x }
theorem Ij {b : Act} (h1 : a.tmps = b.tmps) (h2 : a.defers = b.defers) : a = b := by cases a; cases b; cases h1; cases h2; rfl
theorem DY (z : Ay) (a : Act) (t : Nat) : (zA z a).tmps[t]? = (a.tmps[t]?).map fun x => (lk z t).getD x := by simp [zA]
theorem E2 {z : Ay} {d : Option Nat} {v : Value} (h : ∀ t, d = some t → lk z t = none) : zA z (a.put d v) = (zA z a).put d v := by
  cases d with
  | none => rfl
  | some d =>
    refine Ij ?_ rfl
    apply Array.ext_getElem?
    intro i
    rw [DY]
    simp only [Act.put, Array.getElem?_setIfInBounds]
    have hs : (zA z a).tmps.size = a.tmps.size := by simp [zA]
    by_cases hd : d = i
    · subst hd
      simp only [if_true, hs]
      by_cases hlt : d < a.tmps.size
      · simp [hlt, h d rfl]
      · simp [hlt]
    · simp only [hd, if_false]
      rw [DY]
theorem HP {z : Ay} {d : Nat} {v : Value} (h : lk z d = some v) : zA z (a.put (some d) v) = zA z a := by
  refine Ij ?_ rfl
  apply Array.ext_getElem?
  intro i
  rw [DY, DY]
  simp only [Act.put, Array.getElem?_setIfInBounds]
  by_cases hd : d = i
  · subst hd
    by_cases hlt : d < a.tmps.size
    · simp [hlt, h]
    · simp [hlt]
  · simp [hd]
def HG (pu : List Nat) (ops : Array Oper) : Bool :=
  Region.noSelect ops &&
  (List.range ops.size).all fun i => match ops[i]? with
    | none => false
    | some o =>
      ((o.looksAt ops).all fun t => (List.range ops.size).all fun j => Bf ops j != some t || (if pu.contains j then Kg o j else (!pu.contains i || (match ops[j]? with | some oj => Kg oj i | none => false)))) &&
      (if pu.contains i then o.guard.isNone && o.dst.isSome && ((List.range ops.size).all fun j => j == i || Bf ops j != o.dst)
       else match o.guard with | none => true | some (j, _) => !pu.contains j)
structure Wp (pu : List Nat) (ops : Array Oper) : Prop where
  nosel : Region.noSelect ops = true
  look : ∀ i o t j, ops[i]? = some o → t ∈ o.looksAt ops → Bf ops j = some t → (pu.contains j = true ∧ Kg o j = true) ∨ (pu.contains j = false ∧ (pu.contains i = false ∨ ∃ oj, ops[j]? = some oj ∧ Kg oj i = true))
  plain : ∀ i o, ops[i]? = some o → pu.contains i = true → o.guard = none ∧ (∃ d, o.dst = some d) ∧ ∀ j, j ≠ i → ∀ d, o.dst = some d → Bf ops j ≠ some d
  guard : ∀ i o j b, ops[i]? = some o → pu.contains i = false → o.guard = some (j, b) → pu.contains j = false
theorem CJ {ops : Array Oper} {j t : Nat} (h : Bf ops j = some t) : j < ops.size := by
  unfold Bf at h
  rcases Nat.lt_or_ge j ops.size with h' | h'
  · exact h'
  · rw [Array.getElem?_eq_none h'] at h; cases h
theorem H3 {ops : Array Oper} (h : HG pu ops = true) : Wp pu ops := by
  simp only [HG, Bool.and_eq_true, List.all_eq_true, List.mem_range] at h
  obtain ⟨h1, h2⟩ := h
  have at_ : ∀ i o, ops[i]? = some o → i < ops.size := fun i o e => (Array.getElem?_eq_some_iff.1 e).1
  refine ⟨h1, ?_, ?_, ?_⟩
  · intro i o t j e ht hd
    have := h2 i (at_ i o e)
    simp only [e, Bool.and_eq_true, List.all_eq_true, List.mem_range] at this
    have h3 := this.1 t ht j (CJ hd)
    cases hc : pu.contains j with
    | true => rw [hc] at h3; simp [hd] at h3; exact .inl ⟨rfl, h3⟩
    | false =>
      rw [hc] at h3; simp [hd] at h3
      refine .inr ⟨rfl, ?_⟩
      rcases h3 with h3 | h3
      · exact .inl (by simpa using h3)
      · right
        cases hoj : ops[j]? with
        | none => rw [hoj] at h3; cases h3
        | some oj => rw [hoj] at h3; exact ⟨oj, rfl, h3⟩
  · intro i o e hi
    have := h2 i (at_ i o e)
    simp only [e, Bool.and_eq_true, hi, if_true, List.all_eq_true, List.mem_range] at this
    obtain ⟨_, ⟨g1, g2⟩, g3⟩ := this
    refine ⟨by simpa using g1, by simpa [Option.isSome_iff_exists] using g2, fun j hj d hd hdj => ?_⟩
    have := g3 j (CJ hdj)
    simp [hj, hdj, hd] at this
  · intro i o j b e hi hg
    have := h2 i (at_ i o e)
    simp only [e, Bool.and_eq_true, hi, hg] at this
    simpa using this.2
section
variable {P : Program} {ops : Array Oper} {Q : Exit → Act → World → Prop}
theorem Oper.wp_sim {o : Oper} {z : Ay} {w : World} {K K' : Act → World → Prop} (hx : execOp (zA z a).eval o = execOp a.eval o) (hd : ∀ t, o.dst = some t → lk z t = none) (hK : ∀ b w v, b.tmps = (a.put o.dst v).tmps → K' (zA z b) w → K b w)
    (h : o.wp P (zA z a) w K' (Q0 Q)) : o.wp P a w K (Q0 Q) := by
  unfold Oper.wp at *
  rw [hx] at h
  generalize (execOp a.eval o).run P w = r at *
  have hv : ∀ v w, K' ((zA z a).put o.dst v) w → K (a.put o.dst v) w := fun v w hh => hK _ _ v rfl (by rw [E2 hd]; exact hh)
  cases r with
  | ok n w' =>
    cases n <;> simp only [Oper.upon] at h ⊢ <;>
      first
        | exact hv _ _ h
        | exact Calls.mono h (fun e w'' he => by
            cases e
            · exact hv _ _ he
            · exact absurd he.1 (by simp)
            · exact absurd he HD)
        | exact Rows.mono h (fun _ _ he => hv _ _ he)
        | exact hK _ _ undef (by cases o.dst <;> rfl) (by rw [E2 hd]; exact h)
  | halt x w' => cases x <;> simp only [Oper.upon] at h ⊢ <;> first | exact h | exact absurd h.1 (by simp)
structure Wi (pu : List Nat) (ops : Array Oper) (z : Ay) (a0 a : Act) (listed : Array Bool) : Prop where
  pure : ∀ i, pu.contains i = true → listed.getD i false = true → ∀ d v, Bf ops i = some d → lk z d = some v → d < a.tmps.size → a.tmps[d]? = some v
  old : ∀ t, (∀ j, Bf ops j = some t → listed.getD j false = false) → a.tmps[t]? = a0.tmps[t]?
  size : a.tmps.size = a0.tmps.size
  closed : Closed ops listed
def un (pu : List Nat) (listed : Array Bool) : Array Bool := listed.mapIdx fun i b => b || pu.contains i
theorem Gn (pu : List Nat) (listed : Array Bool) (i : Nat) (b : Bool) (hi : i < listed.size) : (un pu listed).getD i b = (listed.getD i b || pu.contains i) := by
  simp [un, Array.getD_eq_getD_getElem?, hi]
theorem P0 (pu : List Nat) (listed : Array Bool) (i : Nat) : un pu (listed.setIfInBounds i true) = (un pu listed).setIfInBounds i true := by
  apply Array.ext_getElem?
  intro j
  simp only [un, Array.getElem?_mapIdx, Array.getElem?_setIfInBounds, Array.size_mapIdx]
  by_cases hij : i = j
  · subst hij
    by_cases hlt : i < listed.size <;> simp [hlt]
  · simp [hij]
theorem H5 (listed : Array Bool) {i : Nat} (h : pu.contains i = true) : un pu (listed.setIfInBounds i true) = un pu listed := by
  apply Array.ext_getElem?
  intro j
  simp only [un, Array.getElem?_mapIdx, Array.getElem?_setIfInBounds]
  by_cases hij : i = j
  · subst hij
    by_cases hlt : i < listed.size
    · have hm : i ∈ pu := by simpa using h
      simp [hlt, hm]
    · simp [hlt]
  · simp [hij]
structure WM (P : Program) (pu : List Nat) (ops : Array Oper) (s z : Ay) (n : Nat) : Prop where
  val : ∀ i o d, pu.contains i = true → ops[i]? = some o → o.dst = some d → ∃ v, lk z d = some v ∧ PX P o (z ++ s) v
  only : ∀ t v, lk z t = some v → t < n ∧ ∃ i, pu.contains i = true ∧ Bf ops i = some t
theorem Pb {o : Oper} {s : Ay} {v : Value} (hs : ∀ cs b, o.op ≠ .select cs b) (hl : ∀ t ∈ o.looksAt ops, ∀ u, lk s t = some u → a.tmps[t]? = some u)
    (k : PX P o s v) (w : World) : (execOp a.eval o).run P w = .ok (.value v) w := by
  classical
  rw [execOp_congr (ρ := a.eval) (ρ' := fun x => if x ∈ o.op.operands then a.eval x else (ev s x).getD undef) o hs (fun x hx => (if_pos hx).symm)]
  refine k _ (fun x u hu => ?_) w
  show (if x ∈ o.op.operands then a.eval x else (ev s x).getD undef) = u
  split
  · rename_i hx
    cases x with
    | tmp t =>
      refine Act.eval_of_slot (hl t ?_ u hu)
      exact List.mem_append_left _ (List.mem_filterMap.2 ⟨.tmp t, by simpa using hx, rfl⟩)
    | const v => cases hu; rfl
    | global g => cases hu; rfl
    | func f => cases hu; rfl
  · rw [hu]; rfl
theorem TH {s z : Ay} {n : Nat} {ds : List Nat} {a0 : Act} (ha0 : Has n ds a0 s) (hp : Wp pu ops) (hb : ∀ i o, ops[i]? = some o → ∀ e ∈ o.after, Region.binds .any e = true → e.on < i) (hz : WM P pu ops s z n) :
    ∀ fuel fuel' listed a w, Wi pu ops z a0 a listed → listed.size = ops.size → left listed ≤ fuel → wpAny P .any ops (Q0 Q) fuel' (un pu listed) (zA z a) w → wpAny P .any ops (Q0 Q) fuel listed a w := by
  -- all is listed
  have alldone : ∀ fuel' listed a w, Wi pu ops z a0 a listed → listed.size = ops.size → (∀ j, j < ops.size → listed.getD j false = true) → wpAny P .any ops (Q0 Q) fuel' (un pu listed) (zA z a) w → Region.ready .any ops listed = [] ∧ (Q0 Q) .normal a w := by
    intro fuel' listed a w S hsz hall H
    have noready : ∀ l' : Array Bool, (∀ j, j < ops.size → l'.getD j false = true) → Region.ready .any ops l' = [] := fun l' hl' => by
      cases hr : Region.ready .any ops l' with
      | nil => rfl
      | cons x xs =>
        have hx : x ∈ Region.ready .any ops l' := by rw [hr]; exact List.mem_cons_self
        obtain ⟨h0, o, ho, _⟩ := mem_ready.1 hx
        have := hl' x (Array.getElem?_eq_some_iff.1 ho).1
        have h2 := Be h0
        rw [Array.getD_eq_getD_getElem?, h2] at this; cases this
    have hr' := noready (un pu listed) (fun j hj => by rw [Gn _ _ _ _ (by omega), hall j hj]; rfl)
    have hQ : (Q0 Q) .normal (zA z a) w := by
      cases fuel' with
      | zero => exact H.2
      | succ f => exact H.1 hr'
    have hza : zA z a = a := by
      refine Ij ?_ rfl
      apply Array.ext_getElem?
      intro t
      rw [DY]
      cases hl : lk z t with
      | none => simp
      | some v =>
        obtain ⟨hn, i, hi, hd⟩ := hz.only t v hl
        have hlt : t < a.tmps.size := by rw [S.size, ha0.size]; exact hn
        rw [S.pure i hi (hall i (CJ hd)) t v hd hl hlt]; rfl
    rw [hza] at hQ
    exact ⟨noready _ hall, hQ⟩
  have hall_of : ∀ listed : Array Bool, listed.size = ops.size → left listed = 0 → ∀ j, j < ops.size → listed.getD j false = true := fun listed hsz h0 j hj => by
    have h1 := Hy h0 j
    have hjlt : j < listed.size := by omega
    rw [Array.getD_eq_getD_getElem?] at h1 ⊢
    simp [hjlt] at h1 ⊢; exact h1
  intro fuel
  induction fuel with
  | zero =>
    intro fuel' listed a w S hsz hle H
    exact alldone fuel' listed a w S hsz (hall_of listed hsz (by omega)) H
  | succ fuel ih =>
    intro fuel' listed a w S hsz hle H
    refine ⟨fun hr0 => ?_, fun i hir => ?_⟩
    · -- nothing is ready: all is listed
      refine (alldone fuel' listed a w S hsz ?_ H).2
      intro j
      induction j using Nat.strongRecOn with
      | _ j ihj =>
        intro hj
        cases hl : listed.getD j false with
        | true => rfl
        | false =>
          have ho : ops[j]? = some ops[j] := by simp [hj]
          have : j ∈ Region.ready .any ops listed := mem_ready.2 ⟨by
            have hjlt : j < listed.size := by omega
            rw [Array.getD_eq_getD_getElem?] at hl ⊢
            simp [hjlt] at hl ⊢; exact hl, _, ho, fun ed hed hbd => by
              have := hb j _ ho ed hed hbd
              exact ihj _ this (by omega)⟩
          rw [hr0] at this; cases this
    · obtain ⟨hun, o, ho, hall⟩ := mem_ready.1 hir
      have hilt : i < ops.size := (Array.getElem?_eq_some_iff.1 ho).1
      have hdi : Bf ops i = o.dst := by simp [Bf, ho]
      have hsel : ∀ cs b, o.op ≠ .select cs b := fun cs b => Region.noSelect_spec hp.nosel i o cs b ho
      have hls := GF (Be hun)
      have hset : ∀ j d, (listed.setIfInBounds i true).getD j d = if j = i then true else listed.getD j d := fun j d => by
        by_cases hj : j = i
        · subst hj; simp [show j < listed.size by omega]
        · rw [getD_set_ne d (Ne.symm hj)]; simp [hj]
      -- the slots of pure ones that are looked at stand
      have hpl : ∀ t ∈ o.looksAt ops, ∀ v, lk z t = some v → a.tmps[t]? = some v ∧ ∃ j, pu.contains j = true ∧ Bf ops j = some t := fun t ht v hv => by
        obtain ⟨hn, j, hj, hd⟩ := hz.only t v hv
        refine ⟨?_, j, hj, hd⟩
        rcases hp.look i o t j ho ht hd with ⟨_, h2⟩ | ⟨h2, _⟩
        · obtain ⟨e, he, hbd, rfl⟩ := Ed h2
          exact S.pure _ hj (hall e he hbd) t v hd hv (by rw [S.size, ha0.size]; exact hn)
        · rw [hj] at h2; cases h2
      have hsame : ∀ t ∈ o.looksAt ops, (zA z a).tmps[t]? = a.tmps[t]? := fun t ht => by
        rw [DY]
        cases hl : lk z t with
        | none => simp
        | some v => rw [(hpl t ht v hl).1]; rfl
      have hx : execOp (zA z a).eval o = execOp a.eval o := execOp_congr o hsel fun x hx => by
        cases x with
        | tmp t =>
          have := hsame t (List.mem_append_left _ (List.mem_filterMap.2 ⟨.tmp t, by simpa using hx, rfl⟩))
          simp only [Act.eval]
          rw [Array.getD_eq_getD_getElem?, this, ← Array.getD_eq_getD_getElem?]
        | const v => rfl
        | global g => rfl
        | func f => rfl
      unfold wpOp
      simp only [ho]
      cases hc : pu.contains i with
      | true =>
        obtain ⟨hg, ⟨d, hd⟩, huq⟩ := hp.plain i o ho hc
        obtain ⟨v, hv, hpx⟩ := hz.val i o d hc ho hd
        have hw : Region.wanted o (yielded ops a.tmps) = true := by unfold Region.wanted; rw [hg]
        rw [if_pos hw]
        refine .inl ?_
        unfold Oper.wp
        rw [← hx, Pb (ops := ops) hsel (fun t ht u hu => ?_) hpx w]
        · show wpAny P .any ops (Q0 Q) fuel (listed.setIfInBounds i true) (a.put o.dst v) w
          rw [hd]
          refine ih fuel' _ _ w ⟨?_, ?_, by simp [Act.put, S.size], S.closed.set hir⟩ (by simpa using hsz) (by omega) (by rw [H5 _ hc, HP hv]; exact H)
          · intro j hj hlj d' v' hd' hv' hlt
            by_cases hji : j = i
            · subst hji; rw [hdi, hd] at hd'; cases hd'; rw [hv] at hv'; cases hv'
              simp only [Act.put]
              have : d < a.tmps.size := by simpa [Act.put] using hlt
              simp [this]
            · rw [hset] at hlj; simp only [hji, if_false] at hlj
              have hne : d ≠ d' := fun e' => huq j hji d hd (by rw [hd', e'])
              simp only [Act.put, Array.getElem?_setIfInBounds_ne hne]
              exact S.pure j hj hlj d' v' hd' hv' (by simpa [Act.put] using hlt)
          · intro t ht
            have hne : d ≠ t := fun e' => by
              have := ht i (by rw [hdi, hd, e'])
              rw [hset] at this; simp at this
            simp only [Act.put, Array.getElem?_setIfInBounds_ne hne]
            exact S.old t fun j hj => by
              have := ht j hj
              rw [hset] at this
              by_cases hji : j = i
              · simp [hji] at this
              · simpa [hji] using this
        · rw [B9] at hu
          cases hl : lk z t with
          | some v' => rw [hl] at hu; cases hu; rw [hsame t ht]; exact (hpl t ht _ hl).1
          | none =>
            rw [hl] at hu
            rw [hsame t ht, S.old t fun j hj => ?_]
            · exact ha0.slots t u hu
            · rcases hp.look i o t j ho ht hj with ⟨h1, _⟩ | ⟨_, h2⟩
              · obtain ⟨oj, hoj⟩ : ∃ oj, ops[j]? = some oj := ⟨ops[j]'(CJ hj), by simp [CJ hj]⟩
                have hdj : oj.dst = some t := by simpa [Bf, hoj] using hj
                obtain ⟨v', hv', _⟩ := hz.val j oj t h1 hoj hdj
                rw [hl] at hv'; cases hv'
              · rcases h2 with h2 | ⟨oj, hoj, hed⟩
                · rw [hc] at h2; cases h2
                · cases hlj : listed.getD j false with
                  | false => rfl
                  | true =>
                    obtain ⟨e, he, hbd, hon⟩ := Ed hed
                    have h4 := S.closed j oj hlj hoj e he hbd
                    rw [hon, Array.getD_eq_getD_getElem?, Be hun] at h4; cases h4
      | false =>
        have hdz : ∀ t, o.dst = some t → lk z t = none := fun t ht => by
          cases hl : lk z t with
          | none => rfl
          | some v =>
            obtain ⟨_, j, hj, hd⟩ := hz.only t v hl
            have hji : j ≠ i := fun e' => by rw [e', hc] at hj; cases hj
            obtain ⟨oj, hoj⟩ : ∃ oj, ops[j]? = some oj := ⟨ops[j]'(CJ hd), by simp [CJ hd]⟩
            obtain ⟨_, _, huq⟩ := hp.plain j oj hoj hj
            exact absurd (by rw [hdi, ht]) (huq i (Ne.symm hji) t (by simpa [Bf, hoj] using hd))
        have hir' : i ∈ Region.ready .any ops (un pu listed) := mem_ready.2 ⟨by rw [Gn _ _ _ _ (by omega), hun, hc]; rfl, o, ho, fun e he hbd => by
          have h1 := hb i o ho e he hbd
          rw [Gn _ _ _ _ (by omega), hall e he hbd]; rfl⟩
        cases fuel' with
        | zero => rw [H.1] at hir'; cases hir'
        | succ fuel' =>
          have H' := H.2 i hir'
          rw [← P0] at H'
          unfold wpOp at H'
          simp only [ho] at H'
          have hwant : Region.wanted o (yielded ops (zA z a).tmps) = Region.wanted o (yielded ops a.tmps) := by
            unfold Region.wanted
            cases hg : o.guard with
            | none => rfl
            | some p =>
              obtain ⟨j, b⟩ := p
              have : yielded ops (zA z a).tmps j = yielded ops a.tmps j := by
                unfold yielded
                cases hd : (ops[j]?).bind (·.dst) with
                | none => rfl
                | some t =>
                  have ht : t ∈ o.looksAt ops := by
                    unfold Oper.looksAt
                    refine List.mem_append_right _ ?_
                    simp only [hg]
                    rw [hd]; simp
                  simp [hd, hsame t ht]
              simp only [this]
          rw [hwant] at H'
          have hnext : ∀ b w v, b.tmps = (a.put o.dst v).tmps → wpAny P .any ops (Q0 Q) fuel' (un pu (listed.setIfInBounds i true)) (zA z b) w → wpAny P .any ops (Q0 Q) fuel (listed.setIfInBounds i true) b w := fun b w v hbt hh => by
            have hbget : ∀ t, o.dst ≠ some t → b.tmps[t]? = a.tmps[t]? := fun t ht => by
              rw [hbt]
              cases hd : o.dst with
              | none => rfl
              | some d =>
                have : d ≠ t := fun e' => ht (by rw [hd, e'])
                simp only [Act.put, Array.getElem?_setIfInBounds_ne this]
            have hbs : b.tmps.size = a.tmps.size := by rw [hbt]; cases o.dst <;> simp [Act.put]
            refine ih fuel' _ b w ⟨?_, ?_, by rw [hbs, S.size], S.closed.set hir⟩ (by simpa using hsz) (by omega) hh
            · intro j hj hlj d' v' hd' hv' hlt
              have hji : j ≠ i := fun e' => by rw [e', hc] at hj; cases hj
              rw [hset] at hlj; simp only [hji, if_false] at hlj
              have hne : o.dst ≠ some d' := fun e' => by rw [hdz d' e'] at hv'; cases hv'
              rw [hbget d' hne]
              exact S.pure j hj hlj d' v' hd' hv' (by rw [← hbs]; exact hlt)
            · intro t ht
              rw [hbget t (fun e' => by
                have := ht i (by rw [hdi, e'])
                rw [hset] at this; simp at this)]
              exact S.old t fun j hj => by
                have := ht j hj
                rw [hset] at this
                by_cases hji : j = i
                · simp [hji] at this
                · simpa [hji] using this
          split
          · rename_i hw
            rw [if_pos hw] at H'
            rcases H' with H' | ⟨_, H'⟩
            · exact .inl (Oper.wp_sim hx hdz hnext H')
            · exact absurd H' HD
          · rename_i hw
            rw [if_neg hw] at H'
            exact hnext _ _ undef rfl (by rw [E2 hdz]; exact H')
end
def zap (o : Oper) : Oper := { o with dst := none, op := .move (.const undef), after := #[], guard := none }
def EH : List Bool → List Oper → List Oper
  | true :: m, o :: l => zap o :: EH m l
  | false :: m, o :: l => o :: EH m l
  | _, l => l
def Gy : List Bool → Nat → List Nat
  | [], _ => []
  | true :: m, k => k :: Gy m (k + 1)
  | false :: m, k => Gy m (k + 1)
theorem NL : ∀ (m : List Bool) (k i : Nat), i ∈ Gy m k ↔ k ≤ i ∧ m[i - k]? = some true
  | [], k, i => by simp [Gy]
  | b :: m, k, i => by
    have ih := NL m (k + 1) i
    cases b with
    | true =>
      simp only [Gy, List.mem_cons, ih]
      by_cases hik : i = k
      · subst hik; simp
      · constructor
        · rintro (h | ⟨h1, h2⟩)
          · exact absurd h hik
          · refine ⟨by omega, ?_⟩
            rw [show i - k = (i - (k + 1)) + 1 by omega]; simpa using h2
        · rintro ⟨h1, h2⟩
          right
          refine ⟨by omega, ?_⟩
          rw [show i - k = (i - (k + 1)) + 1 by omega] at h2; simpa using h2
    | false =>
      simp only [Gy, ih]
      by_cases hik : i = k
      · subst hik; simp; omega
      · constructor
        · rintro ⟨h1, h2⟩
          refine ⟨by omega, ?_⟩
          rw [show i - k = (i - (k + 1)) + 1 by omega]; simpa using h2
        · rintro ⟨h1, h2⟩
          refine ⟨by omega, ?_⟩
          rw [show i - k = (i - (k + 1)) + 1 by omega] at h2; simpa using h2
theorem E7 (m : List Bool) (i : Nat) : (Gy m 0).contains i = true ↔ m[i]? = some true := by
  rw [List.contains_iff_mem, NL]; simp
theorem G3 : ∀ (m : List Bool) (l : List Oper) (i : Nat), (EH m l)[i]? = if m[i]? = some true then (l[i]?).map zap else l[i]?
  | [], l, i => by simp [EH]
  | b :: m, [], i => by cases b <;> simp [EH]
  | b :: m, o :: l, i => by
    cases b <;> cases i <;> simp [EH, G3 m l]
theorem HQ : ∀ (m : List Bool) (l : List Oper), (EH m l).length = l.length
  | [], l => by simp [EH]
  | b :: m, [] => by cases b <;> simp [EH]
  | b :: m, o :: l => by cases b <;> simp [EH, HQ m l]
theorem PV {P : Program} {ops ops' : Array Oper} {Q : Exit → Act → World → Prop} (pu : List Nat) (hsz : ops'.size = ops.size) (hs : ∀ i, pu.contains i = false → ops'[i]? = ops[i]?)
    (hg : ∀ i o j b, ops[i]? = some o → pu.contains i = false → o.guard = some (j, b) → pu.contains j = false) :
    ∀ fuel listed a w, (∀ i, i < ops.size → pu.contains i = true → listed.getD i false = true) → wpAny P .any ops' Q fuel listed a w → wpAny P .any ops Q fuel listed a w := by
  have hready : ∀ listed : Array Bool, (∀ i, i < ops.size → pu.contains i = true → listed.getD i false = true) → ∀ i, i ∈ Region.ready .any ops listed ↔ i ∈ Region.ready .any ops' listed := by
    intro listed hl i
    have hnp : listed.getD i true = false → i < ops.size → pu.contains i = false := fun h1 h2 => by
      cases hc : pu.contains i with
      | false => rfl
      | true =>
        have := hl i h2 hc
        rw [Array.getD_eq_getD_getElem?, Be h1] at this; cases this
    constructor
    · intro h
      obtain ⟨h1, o, h2, h3⟩ := mem_ready.1 h
      exact mem_ready.2 ⟨h1, o, by rw [hs i (hnp h1 (Array.getElem?_eq_some_iff.1 h2).1)]; exact h2, h3⟩
    · intro h
      obtain ⟨h1, o, h2, h3⟩ := mem_ready.1 h
      have hlt := (Array.getElem?_eq_some_iff.1 h2).1
      exact mem_ready.2 ⟨h1, o, by rw [← hs i (hnp h1 (by omega))]; exact h2, h3⟩
  have hempty : ∀ listed : Array Bool, (∀ i, i < ops.size → pu.contains i = true → listed.getD i false = true) → Region.ready .any ops listed = [] → Region.ready .any ops' listed = [] := fun listed hl h => by
    cases hr : Region.ready .any ops' listed with
    | nil => rfl
    | cons x xs =>
      have := (hready listed hl x).2 (by rw [hr]; exact List.mem_cons_self)
      rw [h] at this; cases this
  have hempty' : ∀ listed : Array Bool, (∀ i, i < ops.size → pu.contains i = true → listed.getD i false = true) → Region.ready .any ops' listed = [] → Region.ready .any ops listed = [] := fun listed hl h => by
    cases hr : Region.ready .any ops listed with
    | nil => rfl
    | cons x xs =>
      have := (hready listed hl x).1 (by rw [hr]; exact List.mem_cons_self)
      rw [h] at this; cases this
  intro fuel
  induction fuel with
  | zero => intro listed a w hl H; exact ⟨hempty' listed hl H.1, H.2⟩
  | succ fuel ih =>
    intro listed a w hl H
    refine ⟨fun h => H.1 (hempty listed hl h), fun i hi => ?_⟩
    have H' := H.2 i ((hready listed hl i).1 hi)
    obtain ⟨h1, o, ho, _⟩ := mem_ready.1 hi
    have hnp : pu.contains i = false := by
      cases hc : pu.contains i with
      | false => rfl
      | true =>
        have := hl i (Array.getElem?_eq_some_iff.1 ho).1 hc
        rw [Array.getD_eq_getD_getElem?, Be h1] at this; cases this
    have hl' : ∀ j, j < ops.size → pu.contains j = true → (listed.setIfInBounds i true).getD j false = true := fun j hj hc => getD_set_true (hl j hj hc)
    unfold wpOp at H' ⊢
    rw [hs i hnp] at H'
    simp only [ho] at H' ⊢
    have hy : Region.wanted o (yielded ops' a.tmps) = Region.wanted o (yielded ops a.tmps) := by
      unfold Region.wanted
      cases hgu : o.guard with
      | none => rfl
      | some p =>
        obtain ⟨j, b⟩ := p
        have : yielded ops' a.tmps j = yielded ops a.tmps j := by
          unfold yielded; rw [hs j (hg i o j b ho hnp hgu)]
        simp only [this]
    rw [hy] at H'
    split
    · rename_i hw
      rw [if_pos hw] at H'
      exact H'.imp (Oper.wp_mono fun a w h => ih _ a w hl' h) id
    · rename_i hw
      rw [if_neg hw] at H'
      exact ih _ _ _ hl' H'
def PZ (P : Program) (l : List Oper) (n : Nat) (s : Ay) (K : Ay → Prop) : List Nat → Ay → Prop
  | [], z => K z
  | i :: r, z => ∃ o d v, l[i]? = some o ∧ o.dst = some d ∧ d < n ∧ lk (z ++ s) d = none ∧ PX P o (z ++ s) v ∧ PZ P l n s K r ((d, v) :: z)
theorem PX.mono {P : Program} {o : Oper} {s : Ay} {v : Value} {d : Nat} {u : Value} (h : PX P o s v) (hd : lk s d = none) : PX P o ((d, u) :: s) v := fun ρ hρ w =>
  h ρ (fun x u' hx => hρ x u' (by
    cases x with
    | tmp t =>
      have : d ≠ t := fun e => by subst e; simp only [ev] at hx; rw [hd] at hx; cases hx
      simp only [ev] at hx ⊢; rw [Bq _ _ this]; exact hx
    | const v => exact hx
    | global g => exact hx
    | func f => exact hx)) w
theorem Nj {P : Program} {l : List Oper} {n : Nat} {s : Ay} {K : Ay → Prop} : ∀ (r done : List Nat) (z : Ay),
    (∀ i ∈ done, ∀ o d, l[i]? = some o → o.dst = some d → ∃ v, lk z d = some v ∧ PX P o (z ++ s) v) → (∀ t v, lk z t = some v → t < n ∧ ∃ i ∈ done, Bf l.toArray i = some t) → PZ P l n s K r z →
    ∃ zf, K zf ∧ (∀ i, i ∈ done ∨ i ∈ r → ∀ o d, l[i]? = some o → o.dst = some d → ∃ v, lk zf d = some v ∧ PX P o (zf ++ s) v) ∧ (∀ t v, lk zf t = some v → t < n ∧ ∃ i, (i ∈ done ∨ i ∈ r) ∧ Bf l.toArray i = some t)
  | [], done, z, h1, h2, h3 => ⟨z, h3, fun i hi => h1 i (hi.resolve_right (by simp)), fun t v hv => by
      obtain ⟨g1, i, g2, g3⟩ := h2 t v hv
      exact ⟨g1, i, .inl g2, g3⟩⟩
  | j :: r, done, z, h1, h2, ⟨o, d, v, e1, e2, e3, e4, e5, e6⟩ => by
    have hzd : lk z d = none := by
      rw [B9] at e4
      cases hl : lk z d with
      | none => rfl
      | some u => rw [hl] at e4; cases e4
    obtain ⟨zf, g1, g2, g3⟩ := Nj r (j :: done) ((d, v) :: z) (fun i hi o' d' ho' hd' => by
      rcases List.mem_cons.1 hi with rfl | hi
      · rw [e1] at ho'; cases ho'; rw [e2] at hd'; cases hd'
        exact ⟨v, Bt _ _ _, e5.mono e4⟩
      · obtain ⟨v', f1, f2⟩ := h1 i hi o' d' ho' hd'
        refine ⟨v', ?_, f2.mono e4⟩
        have : d ≠ d' := fun e => by subst e; rw [hzd] at f1; cases f1
        rw [Bq _ _ this]; exact f1) (fun t u hu => by
      by_cases hdt : d = t
      · subst hdt; exact ⟨e3, j, by simp, by simp [Bf, e1, e2]⟩
      · rw [Bq _ _ hdt] at hu
        obtain ⟨f1, i, f2, f3⟩ := h2 t u hu
        exact ⟨f1, i, List.mem_cons_of_mem _ f2, f3⟩) e6
    refine ⟨zf, g1, fun i hi => g2 i ?_, fun t u hu => ?_⟩
    · rcases hi with hi | hi
      · exact .inl (List.mem_cons_of_mem _ hi)
      · rcases List.mem_cons.1 hi with rfl | hi
        · exact .inl List.mem_cons_self
        · exact .inr hi
    · obtain ⟨f1, i, f2, f3⟩ := g3 t u hu
      refine ⟨f1, i, ?_, f3⟩
      rcases f2 with f2 | f2
      · rcases List.mem_cons.1 f2 with rfl | f2
        · exact .inr List.mem_cons_self
        · exact .inl f2
      · exact .inr (List.mem_cons_of_mem _ f2)
def FZ (ops : Array Oper) : Bool := (List.range ops.size).all fun i => match ops[i]? with | none => false | some o => backs o i
theorem G4 {ops : Array Oper} (h : FZ ops = true) : ∀ i o, ops[i]? = some o → ∀ e ∈ o.after, Region.binds .any e = true → e.on < i := by
  intro i o e ed hed hb
  simp only [FZ, List.all_eq_true, List.mem_range] at h
  have := h i (Array.getElem?_eq_some_iff.1 e).1
  simp only [e] at this
  have h4 := Array.all_eq_true_iff_forall_mem.1 this ed hed
  simp [hb] at h4
  exact h4
theorem Hd {e : Entry} {id : Nat} {l : List Oper} {Q : Exit → Act → World → Prop} {s : Ay} {h : Hp} {ms : List Hp} (np : Nat) (m : List Bool) (hm : e.P.follows .mixedOrders = true) (hp : Mb (Gy m 0) (EH m l).toArray np = true) (hpu : HG (Gy m 0) l.toArray = true) (hbk : FZ l.toArray = true)
    (k : PZ e.P l e.n s (fun z => HI e.n ((EH m l).take np) (z ++ s) = true ∧ WR e (EH m l).toArray (Q0 Q) ((EH m l).drop np) h ms ((EH m l).take np) (z ++ s) [] []) (Gy m 0) []) : WS e (.region id l.toArray true) Q s h ms := by
  intro a w ha hw
  obtain ⟨z, ⟨hf, kw⟩, hz1, hz2⟩ := Nj _ [] [] (by simp) (fun t v hv => by cases hv) k
  have P := Iz hp
  have PO := H3 hpu
  have HB := G4 hbk
  have hlen : (EH m l).length = l.length := HQ m l
  have hmem : ∀ i, (Gy m 0).contains i = true ↔ i ∈ Gy m 0 := fun i => List.contains_iff_mem
  have hZ : WM e.P (Gy m 0) l.toArray s z e.n := ⟨fun i o d hi ho hd => hz1 i (.inr ((hmem i).1 hi)) o d (by simpa using ho) hd, fun t v hv => by
    obtain ⟨g1, i, g2, g3⟩ := hz2 t v hv
    exact ⟨g1, i, (hmem i).2 (g2.resolve_left (by simp)), g3⟩⟩
  refine wp_region_any hm (Q := Q) ?_
  have hq : wpAny e.P .any l.toArray (Q0 Q) l.toArray.size (Array.replicate l.toArray.size false) a { w with drawn := w.drawn + 1 } := by
    refine TH ha PO HB hZ _ l.toArray.size _ a _ ⟨fun i _ hi => (by rw [BM] at hi; cases hi), fun _ _ => rfl, rfl, fun i o hi => (by rw [BM] at hi; cases hi)⟩ (by simp) (by
      unfold left; rw [Array.toList_replicate]; exact Nat.le_trans (List.countP_le_length) (by simp)) ?_
    have hug : ∀ i, (un (Gy m 0) (Array.replicate l.toArray.size false)).getD i false = (Gy m 0).contains i := fun i => by
      rcases Nat.lt_or_ge i l.length with hi | hi
      · rw [Gn _ _ _ _ (by simpa using hi), BM]; rfl
      · rw [Array.getD_eq_getD_getElem?, Array.getElem?_eq_none (by simpa [un] using hi)]
        cases hc : (Gy m 0).contains i with
        | false => rfl
        | true =>
          have h1 := P.low i hc
          simp [hlen] at h1; omega
    refine PV (ops' := (EH m l).toArray) (Gy m 0) (by simp [hlen]) (fun i hi => ?_) PO.guard _ _ _ _ (fun i hi hc => by rw [hug]; exact hc) ?_
    · have : ¬ m[i]? = some true := fun h' => by rw [(E7 m i).2 h'] at hi; cases hi
      simp only [List.getElem?_toArray]
      rw [G3, if_neg this]
    · refine KV np hp hf kw (by simp [un, hlen]) hug (fun i o hi ho ed hed hb => ?_) (fun i hi => ?_) ?_ ⟨ha.defers, by simp [zA, ha.size], fun t u hu => ?_⟩ hw
      · rw [hug] at hi
        have := (E7 m i).1 hi
        simp only [List.getElem?_toArray] at ho
        rw [G3, if_pos this] at ho
        cases hl : l[i]? with
        | none => rw [hl] at ho; cases ho
        | some o' => rw [hl] at ho; cases ho; simp [zap] at hed
      · have := (E7 m i).1 hi
        unfold Bf
        simp only [List.getElem?_toArray]
        rw [G3, if_pos this]
        cases l[i]? <;> rfl
      · unfold left
        refine Nat.le_trans (List.countP_le_length) ?_
        simp [un]
      · rw [DY]
        rw [B9] at hu
        cases hl : lk z t with
        | some v =>
          rw [hl] at hu; cases hu
          have hlt : t < a.tmps.size := by rw [ha.size]; exact (hz2 t _ hl).1
          simp [hlt]
        | none => rw [hl] at hu; rw [ha.slots t u hu]; rfl
  -- the end alone
  have hmono : ∀ fuel listed a w, wpAny e.P .any l.toArray (Q0 Q) fuel listed a w → wpAny e.P .any l.toArray Q fuel listed a w := by
    intro fuel
    induction fuel with
    | zero => intro listed a w H; exact ⟨H.1, H.2.2⟩
    | succ fuel ih =>
      intro listed a w H
      refine ⟨fun h => (H.1 h).2, fun i hi => ?_⟩
      have H' := H.2 i hi
      unfold wpOp at H' ⊢
      split
      · rename_i ho; simp only [ho] at H'; exact ih _ _ _ H'
      · rename_i o ho
        simp only [ho] at H'
        split
        · rename_i hw
          rw [if_pos hw] at H'
          rcases H' with H' | ⟨_, H'⟩
          · refine .inl ?_
            unfold Oper.wp at *
            generalize (execOp a.eval o).run e.P w = r at *
            cases r with
            | ok n w' =>
              cases n <;> simp only [Oper.upon] at H' ⊢ <;>
                first
                  | exact ih _ _ _ H'
                  | exact Calls.mono H' (fun x w'' he => by
                      cases x
                      · exact ih _ _ _ he
                      · exact absurd he.1 (by simp)
                      · exact absurd he HD)
                  | exact Rows.mono H' (fun _ _ he => ih _ _ _ he)
            | halt x w' => cases x <;> simp only [Oper.upon] at H' ⊢ <;> first | exact H' | exact absurd H'.1 (by simp)
          · exact absurd H' HD
        · rename_i hw
          rw [if_neg hw] at H'
          exact ih _ _ _ H'
  exact hmono _ _ _ _ hq
section
variable {P : Program} {l : List Oper} {n : Nat} {s z : Ay} {K : Ay → Prop} {r : List Nat} {i d : Nat} {o : Oper} {v : Value}
theorem HK (ho : l[i]? = some o) (hd : o.dst = some d) (hn : Nat.blt d n = true) (hf : lk (z ++ s) d = none) (hx : PX P o (z ++ s) v) (k : PZ P l n s K r ((d, v) :: z)) : PZ P l n s K (i :: r) z :=
  ⟨o, d, v, ho, hd, Nat.le_of_ble_eq_true hn, hf, hx, k⟩
theorem D4 {x : Operand} (ho : o.op = .move x) (hx : ev s x = some v) : PX P o s v := fun ρ hρ w => by simp [execOp, ho, hρ _ _ hx]
end
section
variable {e : Entry} {ops : Array Oper} {Q : Exit → Act → World → Prop} {tl : List Oper} {h : Hp} {ms : List Hp} {l : List Oper} {o : Oper} {s : Ay} {q : List (Nat × VP)} {al : List (Nat × Nb)}
theorem HL (hd : o.dst = none) (hg : o.guard = none) (ho : o.op = .move (.const undef)) (k : WR e ops Q tl h ms l s q al) : WR e ops Q tl h ms (o :: l) s q al :=
  .inl ⟨undef, .inl ⟨.plain hg, As ho rfl⟩, by rw [hd]; exact k⟩
end
end Go.Eng
namespace Go.Eng
open Go.RowKit
section
variable {P : Program} {o : Oper} {s : Ay} {t u : TypeId} {x y : Operand} {a b : Int}
theorem QY (ho : o.op = .binOp .add t x y u) (hx : ev s x = some (.int .i64 a)) (hy : ev s y = some (.int .i64 b)) (hr : -9223372036854775808 ≤ a + b ∧ a + b ≤ 9223372036854775807) : PX P o s (.int .i64 (a + b)) := fun ρ hρ w => by
  have : (execOp ρ o).run P w = .ok (.value (.int .i64 (IntKind.i64.wrap (a + b)))) w := by simp [execOp, ho, hρ _ _ hx, hρ _ _ hy, go_sem]
  rwa [C0 hr] at this
theorem RI (ho : o.op = .binOp .sub t x y u) (hx : ev s x = some (.int .i64 a)) (hy : ev s y = some (.int .i64 b)) (hr : -9223372036854775808 ≤ a - b ∧ a - b ≤ 9223372036854775807) : PX P o s (.int .i64 (a - b)) := fun ρ hρ w => by
  have : (execOp ρ o).run P w = .ok (.value (.int .i64 (IntKind.i64.wrap (a - b)))) w := by simp [execOp, ho, hρ _ _ hx, hρ _ _ hy, go_sem]
  rwa [C0 hr] at this
end
section
variable {e : Entry} {Q : Exit → Act → World → Prop} {ops : Array Oper} {rest : List Oper} {o : Oper} {s : Ay} {h : Hp} {ms : List Hp} {α : Type} {F : α → List Value} {l : List α} {v : Value} {m : Hp} {el : TypeId} {sz : Nat}
theorem O0 {t : TypeId} {x y : Operand} {u : Value} {z : Value} {bytes k : Nat} {l' : List α} (i : Nat) (O : OwnL F sz el m v l) (ho : o.op = .store t x y) (hs : Elem e.P t 1 z bytes) (hx : ev s x = some (.pointer (some ((Bl v).add k)))) (hy : ev s y = some u) (h1 : u.oneCell' = true)
    (hm : ms[i]? = some m) (hk : k < l.length * sz) (hset : (l.flatMap F).set k u = l'.flatMap F) (hl : l'.length = l.length) (hd : o.dst = none) (hg : o.guard = none)
    (K : ∀ m', OwnL F sz el m' v l' → WL e ops Q rest s h (ms.set i m')) : WL e ops Q (o :: rest) s h ms := by
  obtain ⟨⟨h2, h3⟩, hF⟩ := O
  rcases h3 with ⟨rfl, h4, rfl⟩ | ⟨g, cap, spare, rfl, rfl, e1, e2, e3⟩
  · rw [h4] at hk; simp at hk
  · refine AK i k ho hs hx hy h1 hm rfl (by rw [List.length_append]; omega) hd hg (K _ ⟨⟨?_, .inr ⟨g, cap, spare, by rw [hl], ?_, ?_, by omega, e3⟩⟩, hF⟩)
    · rw [← hset, List.length_set, h2, hl]
    · rw [List.set_append_left _ _ (by omega), hset]
    · rw [← hset, List.length_append, List.length_set, ← List.length_append]; exact e1
theorem Ms {f : α → Value} {t : TypeId} {x y : Operand} {z : Value} {bytes : Nat} {a : α} (i j : Nat) (hF : ∀ x, F x = [f x]) (O : OwnL F 1 el m v l) (ho : o.op = .store t x y) (hs : Elem e.P t 1 z bytes) (hx : ev s x = some (.pointer (some ((Bl v).add (j * 1))))) (hy : ev s y = some (f a)) (h1 : (f a).oneCell' = true)
    (hm : ms[i]? = some m) (hj : j < l.length) (hd : o.dst = none) (hg : o.guard = none)
    (K : ∀ m', OwnL F 1 el m' v (l.set j a) → WL e ops Q rest s h (ms.set i m')) : WL e ops Q (o :: rest) s h ms := by
  have hF' : F = fun y => [f y] := funext hF
  refine O0 i O ho hs hx hy h1 hm (by omega) ?_ (by simp) hd hg K
  rw [hF', Nat.mul_one]
  exact GG f l j a
end
end Go.Eng
namespace Go.Eng
open Go.RowKit
section
variable {P : Program} {o : Oper} {s : Ay} {h : Hp} {ms : List Hp} {t u : TypeId} {x y : Operand} {a b n : Nat} {k : IntKind}
theorem Ie (ho : o.op = .binOp .shr t x y u) (hx : ev s x = some (.int .u64 a)) (hy : ev s y = some (.int k n)) (hn : n ≤ 64) : OX P o s h ms (.int .u64 ((a / 2 ^ n : Nat) : Int)) :=
  BI fun ρ w hρ _ => by
    have h1 : ¬ ((n : Int) < 0) := by omega
    have h2 : min n 64 = n := Nat.min_eq_left hn
    have h3 : (a : Int).fdiv (2 ^ n) = ((a / 2 ^ n : Nat) : Int) := by
      rw [Int.fdiv_eq_ediv_of_nonneg _ (Int.le_of_lt (Int.pow_pos (by decide)))]; simp
    simp [execOp, ho, hρ _ _ hx, hρ _ _ hy, Op.shift, h1, IntKind.bits, h2, h3, go_sem]
end
end Go.Eng
namespace Go.Eng
open Go.RowKit
section
variable {e : Entry} {Q : Exit → Act → World → Prop} {ops : Array Oper} {rest : List Oper} {o : Oper} {s : Ay} {h : Hp} {ms : List Hp}
theorem Q6 {t t2 el : TypeId} {x y : Operand} {a : Addr} {g of dLen dCap sLen d n : Nat} {u z : Value} {bytes : Nat} {cs cur : List Value} (i : Nat) (ho : o.op = .call { callee := .builtin .copy, args := #[x, y], argTypes := #[t, t2] }) (ht : e.P.underlying t = some (.slice el)) (hs : Elem e.P el 1 z bytes)
    (hx : ev s x = some (.slice (some a) dLen dCap)) (hy : ev s y = some u) (ha : a = ⟨g, of, none⟩) (R : Rd h ms u 1 sLen cs) (h0 : 0 < sLen) (hn : n = min sLen dLen) (hm : ms[i]? = some (AX g el cur)) (hfit : of + n ≤ cur.length) (h1 : ∀ c ∈ cs, c.oneCell' = true)
    (hd : o.dst = some d) (hnd : Nat.blt d e.n = true) (hg : o.guard = none) (K : WL e ops Q rest ((d, .int .i64 n) :: s) h (ms.set i (AX g el (cur.take of ++ cs.take n ++ cur.drop (of + n))))) : WL e ops Q (o :: rest) s h ms := by
  subst ha
  obtain ⟨a, c, rfl, e2, e3, e4, e5⟩ := R.ex
  obtain ⟨q, rfl, hq⟩ := e5 h0
  have hl : (cs.take n).length = n := by rw [List.length_take, e4, Nat.mul_one]; omega
  refine G6 (post := fun v h' ms' => v = .int .i64 n ∧ h' = h ∧ ms' = ms.set i (AX g el (cur.take of ++ cs.take n ++ cur.drop (of + n)))) (fun ρ w hρ hw => ?_) hd hnd hg fun v h' ms' ⟨e1, e2, e3⟩ => by subst e1 e2 e3; exact K
  have hgw : w.heap[g]? = some (.cells cur.toArray el (0, 0)) := hw.st.own _ (List.mem_of_getElem? hm) g _ (Hp.one_self _ _)
  have hrun := run_copy_row (P := e.P) w t t2 o.type el g of dLen dCap q sLen c cur.toArray el (cs.take n) ht (by
    have := hs.sizeOf w
    cases hq' : e.P.info? el with
    | none => simp [Go.sizeOf, Go.typeInfo, hq', go_sem] at this
    | some inf => simp [Go.sizeOf, Go.typeInfo, hq', go_sem] at this; simp [this]) hgw (by rw [hl]; exact hn) (fun j v hv => hw.st.cell (hq j v (by
      rw [List.getElem?_take] at hv; split at hv; · exact hv
      · cases hv))) (by rw [hl]; simpa using hfit) (fun v hv => h1 v (List.mem_of_mem_take hv))
  rw [hl] at hrun
  have : (execOp ρ o).run e.P w = .ok (.value (.int .i64 n)) (w.setRow g (cur.take of ++ cs.take n ++ cur.drop (of + n)).toArray) := by
    simp [execOp, ho, hρ _ _ hx, hρ _ _ hy, resolve, invoke, builtin, hrun, goInt]
  unfold OpRes; rw [this]
  exact ⟨h, _, Ends.put hw hm rfl ⟨rfl, Nat.le_refl _⟩ rfl (by simp) (setRow_heap w g _ _ _ _ hgw) (fun j hj hne => setRow_other w g j _ hne), rfl, rfl, rfl⟩
end
section
variable {e : Entry} {Q : Exit → Act → World → Prop} {ops : Array Oper} {rest : List Oper} {s : Ay} {h : Hp} {ms : List Hp}
end
end Go.Eng
namespace Go.Eng
open Go.RowKit
section
variable {e : Entry} {ops : Array Oper} {Q : Exit → Act → World → Prop} {tl : List Oper} {h : Hp} {ms : List Hp} {l : List Oper} {o : Oper} {s : Ay} {q : List (Nat × VP)} {al : List (Nat × Nb)}
end
end Go.Eng
namespace Go.Eng
open Go.RowKit
section
variable {e : Entry} {Q : Exit → Act → World → Prop} {ops : Array Oper} {rest : List Oper} {o : Oper} {s : Ay} {h : Hp} {ms : List Hp}
theorem Ce {j dj : Nat} {b : Bool} {oj : Oper} (hg : o.guard = some (j, b)) (hj : ops[j]? = some oj) (hdj : oj.dst = some dj) (hv : lk s dj = some (.bool b))
    (k : WL e ops Q ({ o with guard := none } :: rest) s h ms) : WL e ops Q (o :: rest) s h ms := fun a w ha hw => by
  have h1 := k a w ha hw
  unfold wpList at h1 ⊢
  rw [if_pos (by simp [Region.wanted])] at h1
  rw [if_pos (by simp [Region.wanted, hg, ha.yields hj hdj hv])]
  exact h1
end
end Go.Eng
namespace Go.Eng
open Go.RowKit Go.ChangeShapes Go.WideShapes Go.Deep
def whole (w : World) : Hp := fun g => w.heap[g]?
theorem St.whole (w : World) : St w (whole w) [] := ⟨fun _ _ h => h, by simp, by simp, List.Pairwise.nil⟩
theorem Cell.ofW {w : World} {ms : List Hp} {a : Addr} {v : Value} (h : w.cell? a = some v) : Cell (whole w) ms a v := by
  unfold World.cell? at h
  split at h
  · rename_i c el fr hb
    split at h
    · cases h
    · rename_i hs
      exact ⟨by simpa using hs, c, el, fr, .inl hb, h⟩
  · cases h
theorem HR {α : Type} {Q : Nat → α → Prop} : ∀ n, (∀ i, i < n → ∃ a, Q i a) → ∃ l : List α, l.length = n ∧ ∀ i (hi : i < l.length), Q i l[i]
  | 0, _ => ⟨[], rfl, fun i hi => by simp at hi⟩
  | n + 1, h => by
    obtain ⟨l, hl, hq⟩ := HR n fun i hi => h i (by omega)
    obtain ⟨a, ha⟩ := h n (by omega)
    refine ⟨l ++ [a], by simp [hl], fun i hi => ?_⟩
    rw [List.getElem_append]
    split
    · exact hq i (by assumption)
    · have : i = n := by simp at hi; omega
      subst this; simpa using ha
section
variable {H : Type} {enc : TypeId × Value → H} {P : Program} {w : World} {base : Nat} {spare : Nat → Bool} {held : Bool}
theorem Lk {α : Type} {F : α → List Value} {Ok : α → Prop} {sz : Nat} {t e : TypeId} {fuel : Nat} {v : Value} {x : DataW H × List MemPlace} (ht : P.underlying t = some (.slice e)) (hC : P.cellsOf e = sz) (hF : ∀ x, (F x).length = sz) (hsz : 0 < sz)
    (hel : ∀ n cs y, DataW.trod enc P w base spare held n e cs = some y → ∃ a, cs = F a ∧ Ok a) (h : DataW.trod enc P w base spare held fuel t [v] = some x) : ∃ l, RdL F sz (whole w) [] v l ∧ ∀ a ∈ l, Ok a := by
  rcases open_slice ht h with ⟨h0, _⟩ | ⟨a, len, cap, m, n, D, Pl, hcs, hb, hl, hm, hmm, hx, hi⟩
  · simp only [List.cons.injEq, and_true] at h0
    subst h0
    exact ⟨[], ⟨⟨none, 0, rfl, by simp, by omega, by simp, fun h => by simp at h⟩, hF⟩, by simp⟩
  · simp only [List.cons.injEq, and_true] at hcs
    subst hcs
    rw [hC] at hi
    have hlm : len ≤ m := by rw [hmm]; split <;> omega
    obtain ⟨l, hll, hq⟩ := HR (α := α) (Q := fun i b => w.cells? base (a.add (i * sz)) sz = some (F b) ∧ Ok b) len fun i hi' => by
      obtain ⟨cs, h1, h2⟩ := hi i (by omega)
      obtain ⟨b, rfl, h3⟩ := hel n cs _ h2
      exact ⟨b, h1, h3⟩
    refine ⟨l, ⟨⟨some a, cap, by rw [hll], by omega, by unfold maxLen at hm; omega, BL hF l, fun _ => ⟨a, rfl, fun j u hj => ?_⟩⟩, hF⟩, fun b hb => ?_⟩
    · have hjl := (List.getElem?_eq_some_iff.1 hj).1
      rw [BL hF l] at hjl
      have h1 : j / sz < l.length := Nat.div_lt_of_lt_mul (by rw [Nat.mul_comm]; exact hjl)
      have h2 : j % sz < sz := Nat.mod_lt _ hsz
      have h3 : j / sz * sz + j % sz = j := by rw [Nat.mul_comm]; exact Nat.div_add_mod j sz
      have h4 := Ey hF l (j / sz) h1 (j % sz) ((F l[j / sz])[j % sz]'(by rw [hF]; exact h2)) (List.getElem?_eq_getElem _)
      rw [h3, hj] at h4
      have h5 := Option.some.inj h4
      obtain ⟨_, _, hat⟩ := World.cells?_some (hq (j / sz) h1).1
      have h6 := hat (j % sz) h2
      rw [A6, h3] at h6
      refine Cell.ofW (h6.trans ?_)
      rw [List.getElem?_eq_getElem (by rw [hF]; exact h2), ← h5]
    · obtain ⟨i, hi', rfl⟩ := List.getElem_of_mem hb
      exact (hq i hi').2
end
end Go.Eng
namespace Go.Eng
open Go.RowKit
section
variable {P : Program} {o : Oper} {s : Ay} {h : Hp} {ms : List Hp} {x y z u : Operand} {a b c d : Int} {k k1 k2 k3 : IntKind} {ts : Array TypeId}
end
end Go.Eng
namespace Go.Eng
open Go.RowKit
section
variable {P : Program} {o : Oper} {s : Ay} {h : Hp} {ms : List Hp} {t el : TypeId} {x lo hi : Operand} {z v : Value} {bytes sz n : Nat} {cs : List Value} {k k' : IntKind}
end
end Go.Eng
namespace Go.Eng
open Go.RowKit
section
variable {e : Entry} {ops : Array Oper} {Q : Exit → Act → World → Prop} {fuel : Nat} {listed : Array Bool} {s : Ay} {h : Hp} {ms : List Hp}
theorem UH {P : Program} : ∀ fuel listed a w, wpAny P .any ops (Q0 Q) fuel listed a w → wpAny P .any ops Q fuel listed a w := by
  intro fuel
  induction fuel with
  | zero => intro listed a w H; exact ⟨H.1, H.2.2⟩
  | succ fuel ih =>
    intro listed a w H
    refine ⟨fun h => (H.1 h).2, fun i hi => ?_⟩
    have H' := H.2 i hi
    unfold wpOp at H' ⊢
    split
    · rename_i ho; simp only [ho] at H'; exact ih _ _ _ H'
    · rename_i o ho
      simp only [ho] at H'
      split
      · rename_i hw
        rw [if_pos hw] at H'
        rcases H' with H' | ⟨_, H'⟩
        · refine .inl ?_
          unfold Oper.wp at *
          generalize (execOp a.eval o).run P w = r at *
          cases r with
          | ok n w' =>
            cases n <;> simp only [Oper.upon] at H' ⊢ <;>
              first
                | exact ih _ _ _ H'
                | exact Calls.mono H' (fun x w'' he => by
                    cases x
                    · exact ih _ _ _ he
                    · exact absurd he.1 (by simp)
                    · exact absurd he HD)
                | exact Rows.mono H' (fun _ _ he => ih _ _ _ he)
          | halt x w' => cases x <;> simp only [Oper.upon] at H' ⊢ <;> first | exact H' | exact absurd H'.1 (by simp)
        · exact absurd H' HD
      · rename_i hw
        rw [if_neg hw] at H'
        exact ih _ _ _ H'
end
end Go.Eng
set_option linter.unusedSectionVars false
namespace Go.Eng
open Go.RowKit
structure LS {κ : Type} (P : Program) (kt : TypeId) (K : κ → Value) (Ok : κ → Prop) : Prop where
  law : Maps.Keyed P kt
  inj : ∀ a b, K a = K b → a = b
  key : ∀ a, Ok a → ∃ l, keyOf P kt (K a) = some l
section
variable {κ ν : Type} (K : κ → Value) (V : ν → Value)
def ent (p : (κ × ν) × Nat) : MapEntry := ⟨K p.1.1, V p.1.2, p.2⟩
structure DI (g : Nat) (Ok : κ → Prop) (m : Hp) (T : List (κ × ν)) (bs : List Nat) : Prop where
  ex : ∃ es clock, m = Hp.one g (.map es clock) ∧ es.toList = (T.zip bs).map (ent K V) ∧ ∀ b ∈ bs, b < clock
  len : bs.length = T.length
  up : bs.Pairwise (· < ·)
  keys : (T.map Prod.fst).Nodup
  ok : ∀ p ∈ T, Ok p.1
end
theorem Ju {α : Type} {l : List α} (hn : l.Nodup) {i j : Nat} {a : α} (h1 : l[i]? = some a) (h2 : l[j]? = some a) : i = j := by
  obtain ⟨i1, i2⟩ := List.getElem?_eq_some_iff.1 h1
  obtain ⟨j1, j2⟩ := List.getElem?_eq_some_iff.1 h2
  have hp := List.pairwise_iff_getElem.1 hn
  rcases Nat.lt_trichotomy i j with h | h | h
  · exact absurd (i2.trans j2.symm) (hp i j i1 j1 h)
  · exact h
  · exact absurd (j2.trans i2.symm) (hp j i j1 i1 h)
section
variable {κ ν : Type} [DecidableEq κ]
def Dg (T : List (κ × ν)) (a : κ) : Option ν := (T.find? fun p => decide (p.1 = a)).map Prod.snd
theorem G7 {T : List (κ × ν)} (hn : (T.map Prod.fst).Nodup) {j : Nat} {a : κ} {x : ν} (h : T[j]? = some (a, x)) : Dg T a = some x := by
  induction T generalizing j with
  | nil => simp at h
  | cons p T ih =>
    unfold Dg
    rw [List.find?_cons]
    cases j with
    | zero => simp at h; subst h; simp
    | succ j =>
      have h' : T[j]? = some (a, x) := by simpa using h
      have hne : p.1 ≠ a := fun e => by
        rw [List.map_cons, List.nodup_cons] at hn
        exact hn.1 (List.mem_map.2 ⟨(a, x), List.mem_of_getElem? h', e.symm⟩)
      simp only [hne, decide_false]
      rw [List.map_cons, List.nodup_cons] at hn
      exact ih hn.2 h'
theorem Ec {T : List (κ × ν)} {a : κ} (h : a ∉ T.map Prod.fst) : Dg T a = none := by
  unfold Dg
  rw [List.find?_eq_none.2 fun p hp => by
    simp only [decide_eq_true_eq]
    exact fun e => h (List.mem_map.2 ⟨p, hp, e⟩)]
  rfl
end
section
variable {κ ν : Type} [DecidableEq κ] {K : κ → Value} {V : ν → Value} {Ok : κ → Prop} {P : Program} {kt et t : TypeId} {g : Nat} {m : Hp} {T : List (κ × ν)} {bs : List Nat}
theorem He (L : LS P kt K Ok) (hn : (T.map Prod.fst).Nodup) (hok : ∀ p ∈ T, Ok p.1) (hl : bs.length = T.length) {es : Array MapEntry} (he : es.toList = (T.zip bs).map (ent K V)) (w : World) (a : κ) (ha : Ok a) :
    ((Instr.findKey kt (K a) es.toList).run P w = .ok none w ∧ a ∉ T.map Prod.fst) ∨ ∃ (j : Nat) (x : ν) (b : Nat), (Instr.findKey kt (K a) es.toList).run P w = .ok (some (j, V x)) w ∧ T[j]? = some (a, x) ∧ bs[j]? = some b ∧ es[j]? = some ⟨K a, V x, b⟩ := by
  obtain ⟨l, hk⟩ := L.key a ha
  rcases L.law.find w hk es.toList (fun e hmem => by
    rw [he] at hmem
    obtain ⟨p, hp, rfl⟩ := List.mem_map.1 hmem
    exact L.key p.1.1 (hok p.1 (List.of_mem_zip hp).1)) with ⟨h1, h2⟩ | ⟨j, e, h1, h2, h3⟩
  · refine .inl ⟨h1, fun hmem => ?_⟩
    obtain ⟨p, hp, rfl⟩ := List.mem_map.1 hmem
    obtain ⟨j, hj, e⟩ := List.getElem_of_mem hp
    have hjb : j < bs.length := by omega
    refine h2 (ent K V (p, bs[j])) ?_ rfl
    rw [he]
    exact List.mem_map.2 ⟨(p, bs[j]), List.mem_of_getElem? (i := j) (by rw [List.getElem?_zip_eq_some]; exact ⟨by rw [List.getElem?_eq_getElem hj, e], List.getElem?_eq_getElem hjb⟩), rfl⟩
  · rw [he, List.getElem?_map] at h2
    cases hz : (T.zip bs)[j]? with
    | none => rw [hz] at h2; cases h2
    | some p =>
      rw [hz] at h2
      have h2 := Option.some.inj h2
      obtain ⟨z1, z2⟩ := List.getElem?_zip_eq_some.1 hz
      have e1 : p.1.1 = a := L.inj _ _ (by rw [← h2] at h3; exact h3)
      refine .inr ⟨j, p.1.2, p.2, ?_, ?_, z2, ?_⟩
      · rw [h1, ← h2]; rfl
      · rw [z1, ← e1]
      · rw [← Array.getElem?_toList, he, List.getElem?_map, hz, ← e1]; rfl
variable {o : Oper} {s : Ay} {h : Hp} {ms : List Hp}
theorem Jr {x y : Operand} {z : ν} (a : κ) (L : LS P kt K Ok) (O : DI K V g Ok m T bs) (hm : m ∈ ms) (ho : o.op = .lookup t x y false) (ht : P.underlying t = some (.map kt et)) (hz : ∀ w, (zeroValue et).run P w = .ok (V z) w) (hx : ev s x = some (.map (some g))) (hy : ev s y = some (K a)) (ha : Ok a) :
    OX P o s h ms (V ((Dg T a).getD z)) :=
  BI fun ρ w hρ hw => by
    obtain ⟨es, clock, rfl, he, hb⟩ := O.ex
    have hgw : w.heap[g]? = some (.map es clock) := hw.own _ hm g _ (Hp.one_self _ _)
    obtain ⟨l, hk⟩ := L.key a ha
    have hc := L.law.check w es.isEmpty hk
    rcases He L O.keys O.ok O.len he w a ha with ⟨h1, h2⟩ | ⟨j, u, b, h1, h2, _, _⟩
    · rw [Ec h2]
      simp only [execOp, ho, hρ _ _ hx, hρ _ _ hy, Instr.lookup, Sem.run_bind, run_underlying ht, Result.andThen_ok, getObj, Sem.run_pure, h1, hz]
      simp [Sem.run, hgw, hc, h1, hz, Result.andThen]
    · rw [G7 O.keys h2]
      simp only [execOp, ho, hρ _ _ hx, hρ _ _ hy, Instr.lookup, Sem.run_bind, run_underlying ht, Result.andThen_ok, getObj, Sem.run_pure, h1, hz]
      simp [Sem.run, hgw, hc, h1, hz, Result.andThen]
theorem Ends.turn {w0 w : World} {h0 h : Hp} {ms0 ms : List Hp} {i g : Nat} {o o' : Obj} (H : Ends w0 h0 ms0 w h ms) (hm : ms[i]? = some (Hp.one g o)) : Ends w0 h0 ms0 { w with heap := w.heap.setIfInBounds g o' } h (ms.set i (Hp.one g o')) := by
  obtain ⟨r, p1, p2⟩ := EU ms i (Hp.one g o) (Hp.one g o') hm
  have hgw : w.heap[g]? = some o := H.st.own _ (List.mem_of_getElem? hm) g o (Hp.one_self g o)
  have hlt := (Array.getElem?_eq_some_iff.1 hgw).1
  refine Ends.perm (Ends.change (H.perm p1) rfl ⟨rfl, Nat.le_refl _⟩ rfl (by simp) ?_ fun k hk hne => ?_) p2.symm
  · simp [hlt]
  · show (w.heap.setIfInBounds g o')[k]? = w.heap[k]?
    rw [Array.getElem?_setIfInBounds_ne (Ne.symm hne)]
def Dt (T : List (κ × ν)) (a : κ) (x : ν) : List (κ × ν) := if a ∈ T.map Prod.fst then T.map fun p => if p.1 = a then (a, x) else p else T ++ [(a, x)]
theorem F0 {T : List (κ × ν)} (hn : (T.map Prod.fst).Nodup) (a : κ) (x : ν) : ((Dt T a x).map Prod.fst).Nodup := by
  unfold Dt
  split
  · have : (T.map fun p => if p.1 = a then (a, x) else p).map Prod.fst = T.map Prod.fst := by
      rw [List.map_map]
      refine List.map_congr_left fun p _ => ?_
      show (if p.1 = a then (a, x) else p).1 = p.1
      split
      · rename_i e; exact e.symm
      · rfl
    rw [this]; exact hn
  · rename_i h
    rw [List.map_append]
    exact List.nodup_append.2 ⟨hn, by simp, fun b hb c hc e => by
      simp at hc; subst hc; subst e; exact h hb⟩
theorem Fc {T : List (κ × ν)} (hn : (T.map Prod.fst).Nodup) {j : Nat} {a : κ} {y x : ν} (h : T[j]? = some (a, y)) : Dt T a x = T.set j (a, x) := by
  have hmem : a ∈ T.map Prod.fst := List.mem_map.2 ⟨(a, y), List.mem_of_getElem? h, rfl⟩
  unfold Dt
  rw [if_pos hmem]
  refine List.ext_getElem? fun i => ?_
  rw [List.getElem?_map, List.getElem?_set]
  obtain ⟨hj, hje⟩ := List.getElem?_eq_some_iff.1 h
  by_cases hij : j = i
  · subst hij; simp [h, hj, hje]
  · rw [if_neg hij]
    cases hi : T[i]? with
    | none => rfl
    | some p =>
      have : p.1 ≠ a := fun e => by
        have h1 : (T.map Prod.fst)[i]? = some a := by rw [List.getElem?_map, hi]; exact congrArg some e
        have h2 : (T.map Prod.fst)[j]? = some a := by rw [List.getElem?_map, h]; rfl
        exact hij (Ju hn h2 h1)
      simp [this]
theorem F3 {T : List (κ × ν)} (a b : κ) (x : ν) : Dg (Dt T a x) b = if b = a then some x else Dg T b := by
  unfold Dg Dt
  split
  · rename_i hmem
    induction T with
    | nil => simp at hmem
    | cons p T ih =>
      rw [List.map_cons, List.find?_cons, List.find?_cons]
      by_cases hp : p.1 = a
      · rw [if_pos hp]
        by_cases hba : b = a
        · subst hba; simp
        · have h1 : a ≠ b := fun e => hba e.symm
          have h2 : p.1 ≠ b := fun e => h1 (hp.symm.trans e)
          simp only [h1, h2, decide_false, if_neg hba]
          by_cases hmem' : a ∈ T.map Prod.fst
          · have := ih hmem'
            rw [if_neg hba] at this; exact this
          · have : (T.map fun p => if p.1 = a then (a, x) else p) = T := by
              rw [List.map_congr_left (g := id) fun q hq => ?_]
              · simp
              · rw [if_neg fun e => hmem' (List.mem_map.2 ⟨q, hq, e⟩)]; rfl
            rw [this]
      · rw [if_neg hp]
        by_cases hpb : p.1 = b
        · have hba : b ≠ a := fun e => hp (hpb.trans e)
          simp [hpb, hba]
        · simp only [hpb, decide_false]
          exact ih (by
            rw [List.map_cons, List.mem_cons] at hmem
            exact hmem.resolve_left fun e => hp e.symm)
  · rename_i hmem
    rw [List.find?_append]
    by_cases hba : b = a
    · subst hba
      rw [List.find?_eq_none.2 fun p hp => by
        simp only [decide_eq_true_eq]
        exact fun e => hmem (List.mem_map.2 ⟨p, hp, e⟩)]
      simp
    · have h1 : a ≠ b := fun e => hba e.symm
      rw [if_neg hba]
      simp [List.find?_cons, h1]
theorem NA (T : List (κ × ν)) (bs : List Nat) (j : Nat) (p : κ × ν) (b : Nat) (hb : bs[j]? = some b) : (T.set j p).zip bs = (T.zip bs).set j (p, b) := by
  induction T generalizing j bs with
  | nil => simp
  | cons q T ih =>
    cases bs with
    | nil => simp
    | cons c bs =>
      cases j with
      | zero => simp at hb; subst hb; simp
      | succ j => simp [ih bs j (by simpa using hb)]
variable {e : Entry} {Q : Exit → Act → World → Prop} {ops : Array Oper} {rest : List Oper}
theorem Gl {d : Nat} (ho : o.op = .makeMap t none) (hd : o.dst = some d) (hn : Nat.blt d e.n = true) (hg : o.guard = none)
    (k : ∀ g m, DI K V g Ok m ([] : List (κ × ν)) [] → WL e ops Q rest ((d, .map (some g)) :: s) h (m :: ms)) : WL e ops Q (o :: rest) s h ms :=
  G6 (post := fun v h' ms' => ∃ g, v = .map (some g) ∧ h' = h ∧ ms' = Hp.one g (.map #[] 0) :: ms) (fun ρ w hρ hw => by
    have : (execOp ρ o).run e.P w = .ok (.value (.map (some w.heap.size))) (w.alloc (.map #[] 0)) := by
      simp [execOp, ho, run_makeMap]
    unfold OpRes; rw [this]
    exact ⟨h, _, Ends.alloc hw _, _, rfl, rfl, rfl⟩) hd hn hg fun _ _ _ ⟨g, e1, e2, e3⟩ => by
      subst e1 e2 e3
      exact k g _ ⟨⟨#[], 0, rfl, rfl, by simp⟩, rfl, List.Pairwise.nil, by simp, by simp⟩
theorem LA (T : List (κ × ν)) (bs : List Nat) (hl : bs.length = T.length) (p : κ × ν) (b : Nat) : (T ++ [p]).zip (bs ++ [b]) = T.zip bs ++ [(p, b)] := by
  rw [List.zip_append hl.symm]; rfl
theorem N5 {bs : List Nat} (h : bs.Pairwise (· < ·)) {c : Nat} (hc : ∀ b ∈ bs, b < c) : (bs ++ [c]).Pairwise (· < ·) :=
  List.pairwise_append.2 ⟨h, by simp, fun a ha b hb => by simp at hb; subst hb; exact hc a ha⟩
theorem H2 {x y : Operand} {z : ν} {d : Nat} (i : Nat) (a : κ) (L : LS e.P kt K Ok) (O : DI K V g Ok m T bs) (hm : ms[i]? = some m) (ho : o.op = .mapEntry t x y) (ht : e.P.underlying t = some (.map kt et)) (hz : ∀ w, (zeroValue et).run e.P w = .ok (V z) w) (hx : ev s x = some (.map (some g))) (hy : ev s y = some (K a)) (ha : Ok a)
    (hd : o.dst = some d) (hn : Nat.blt d e.n = true) (hg : o.guard = none)
    (k : ∀ (m' : Hp) (bs' : List Nat) (j b : Nat), DI K V g Ok m' (Dt T a ((Dg T a).getD z)) bs' → (Dt T a ((Dg T a).getD z))[j]? = some (a, (Dg T a).getD z) → bs'[j]? = some b → WL e ops Q rest ((d, .tuple #[V ((Dg T a).getD z), .int .i64 b]) :: s) h (ms.set i m')) : WL e ops Q (o :: rest) s h ms :=
  G6 (post := fun v h' ms' => ∃ (m' : Hp) (bs' : List Nat) (j b : Nat), DI K V g Ok m' (Dt T a ((Dg T a).getD z)) bs' ∧ (Dt T a ((Dg T a).getD z))[j]? = some (a, (Dg T a).getD z) ∧ bs'[j]? = some b ∧ v = .tuple #[V ((Dg T a).getD z), .int .i64 b] ∧ h' = h ∧ ms' = ms.set i m') (fun ρ w hρ hw => by
    obtain ⟨es, clock, rfl, he, hb⟩ := O.ex
    have hgw : w.heap[g]? = some (.map es clock) := hw.st.own _ (List.mem_of_getElem? hm) g _ (Hp.one_self _ _)
    obtain ⟨l, hk⟩ := L.key a ha
    have hc := L.law.check w false hk
    have hs := L.law.stays w hk
    rcases He L O.keys O.ok O.len he w a ha with ⟨h1, h2⟩ | ⟨j, u, b, h1, h2, h3, h4⟩
    · have hT : Dt T a ((Dg T a).getD z) = T ++ [(a, z)] := by unfold Dt; rw [if_neg h2, Ec h2]; rfl
      have hrun : (execOp ρ o).run e.P w = .ok (.value (.tuple #[V z, .int .i64 clock])) { w with heap := w.heap.setIfInBounds g (.map (es.push ⟨K a, V z, clock⟩) (clock + 1)) } := by
        simp only [execOp, ho, hρ _ _ hx, hρ _ _ hy, Instr.mapEntry, Sem.run_bind, run_underlying ht, Result.andThen_ok, getObj, Sem.run_pure]
        simp [Sem.run, hgw, hc, h1, hz, Result.andThen, setObj, goInt]
      unfold OpRes; rw [hrun]
      refine ⟨h, _, Ends.turn hw hm, _, bs ++ [clock], T.length, clock, ?_, ?_, ?_, by rw [Ec h2]; rfl, rfl, rfl⟩
      · rw [hT]
        refine ⟨⟨_, _, rfl, ?_, fun b hb' => ?_⟩, by simp [O.len], N5 O.up hb, ?_, fun p hp => ?_⟩
        · rw [Array.toList_push, he, LA T bs O.len, List.map_append]; rfl
        · rcases List.mem_append.1 hb' with hb' | hb'
          · have := hb b hb'; omega
          · simp at hb'; omega
        · have := F0 O.keys a ((Dg T a).getD z); rw [hT] at this; exact this
        · rcases List.mem_append.1 hp with hp | hp
          · exact O.ok p hp
          · simp at hp; subst hp; exact ha
      · rw [hT, Ec h2]; simp
      · rw [← O.len]; simp
    · have hgk := G7 O.keys h2
      have hT : Dt T a ((Dg T a).getD z) = T := by
        rw [hgk]
        show Dt T a u = T
        rw [Fc O.keys h2]
        obtain ⟨hj, hje⟩ := List.getElem?_eq_some_iff.1 h2
        rw [← hje]; exact List.set_getElem_self hj
      have hj4 := (Array.getElem?_eq_some_iff.1 h4)
      have hmod : es.modify j (fun e => { e with key := K a }) = es := by
        refine Array.ext_getElem? fun i => ?_
        rw [Array.getElem?_modify]
        split
        · rename_i hij; subst hij; rw [h4]; rfl
        · rfl
      have hrun : (execOp ρ o).run e.P w = .ok (.value (.tuple #[V u, .int .i64 b])) { w with heap := w.heap.setIfInBounds g (.map es clock) } := by
        simp only [execOp, ho, hρ _ _ hx, hρ _ _ hy, Instr.mapEntry, Sem.run_bind, run_underlying ht, Result.andThen_ok, getObj, Sem.run_pure]
        simp [Sem.run, hgw, hc, h1, hz, Result.andThen, setObj, goInt, h4, hs, hmod]
      unfold OpRes; rw [hrun]
      exact ⟨h, _, Ends.turn hw hm, _, bs, j, b, by rw [hT]; exact ⟨⟨_, _, rfl, he, hb⟩, O.len, O.up, O.keys, O.ok⟩, by rw [hT, hgk]; exact h2, h3, by rw [hgk]; rfl, rfl, rfl⟩) hd hn hg fun v h' ms' ⟨m', bs', j, b, e1, e2, e3, e4, e5, e6⟩ => by subst e4 e5 e6; exact k m' bs' j b e1 e2 e3
theorem Gi {x y u : Operand} (i : Nat) {j b : Nat} {a : κ} {x0 : ν} (y' : ν) (O : DI K V g Ok m T bs) (hj : T[j]? = some (a, x0)) (hjb : bs[j]? = some b) (hm : ms[i]? = some m) (ho : o.op = .entryStore t x y u) (hx : ev s x = some (.map (some g))) (hy : ev s y = some (.int .i64 b)) (hu : ev s u = some (V y'))
    (hd : o.dst = none) (hg : o.guard = none) (k : ∀ m', DI K V g Ok m' (Dt T a y') bs → WL e ops Q rest s h (ms.set i m')) : WL e ops Q (o :: rest) s h ms :=
  Jp (post := fun _ h' ms' => ∃ m', DI K V g Ok m' (Dt T a y') bs ∧ h' = h ∧ ms' = ms.set i m') (fun ρ w hρ hw => by
    obtain ⟨es, clock, rfl, he, hb⟩ := O.ex
    have hgw : w.heap[g]? = some (.map es clock) := hw.st.own _ (List.mem_of_getElem? hm) g _ (Hp.one_self _ _)
    have hjl := (List.getElem?_eq_some_iff.1 hj).1
    have hz : (T.zip bs)[j]? = some ((a, x0), b) := by rw [List.getElem?_zip_eq_some]; exact ⟨hj, hjb⟩
    have hej : es[j]? = some ⟨K a, V x0, b⟩ := by rw [← Array.getElem?_toList, he, List.getElem?_map, hz]; rfl
    have hfind : es.findIdx? (fun e => ((e.born : Int) == (b : Int))) = some j := by
      rw [show es = es.toList.toArray by simp, List.findIdx?_toArray, List.findIdx?_eq_some_iff_getElem]
      have hjs : j < es.toList.length := by simpa using (Array.getElem?_eq_some_iff.1 hej).1
      refine ⟨hjs, ?_, fun k hk => ?_⟩
      · have : es.toList[j] = ⟨K a, V x0, b⟩ := by
          have := Array.getElem?_toList (xs := es) (i := j)
          rw [hej, List.getElem?_eq_getElem hjs] at this
          exact Option.some.inj this
        rw [this]; simp
      · have hkl : k < T.length := by omega
        have hkb : k < bs.length := by rw [O.len]; exact hkl
        have : es.toList[k]? = some (ent K V (T[k], bs[k])) := by
          rw [he, List.getElem?_map, List.getElem?_zip_eq_some (z := (T[k], bs[k])) |>.2 ⟨List.getElem?_eq_getElem hkl, List.getElem?_eq_getElem hkb⟩]; rfl
        rw [List.getElem?_eq_getElem (by omega)] at this
        rw [Option.some.inj this]
        have hjb' : j < bs.length := by have := O.len; omega
        have hlt := List.pairwise_iff_getElem.1 O.up k j hkb hjb' hk
        have hbj : bs[j]'hjb' = b := by
          rw [List.getElem?_eq_getElem hjb'] at hjb; exact Option.some.inj hjb
        simp [ent]; omega
    have hrun : (execOp ρ o).run e.P w = .ok .skip { w with heap := w.heap.setIfInBounds g (.map (es.modify j fun e => { e with val := V y' }) clock) } := by
      simp only [execOp, ho, hρ _ _ hx, hρ _ _ hy, hρ _ _ hu, Instr.entryStore, Sem.run_bind, Result.andThen_ok, getObj, Sem.run_pure, asInt]
      simp [Sem.run, hgw, hfind, Result.andThen, setObj, asInt, asIntOf]
    unfold OpRes; rw [hrun]
    refine ⟨h, _, Ends.turn hw hm, _, ?_, rfl, rfl⟩
    refine ⟨⟨_, _, rfl, ?_, hb⟩, ?_, O.up, F0 O.keys a y', fun p hp => ?_⟩
    · rw [Fc O.keys hj, NA T bs j _ b hjb, List.map_set, ← he]
      refine List.ext_getElem? fun k => ?_
      rw [Array.getElem?_toList, Array.getElem?_modify, List.getElem?_set]
      by_cases hjk : j = k
      · subst hjk
        rw [if_pos rfl, if_pos rfl, hej]
        have : j < es.toList.length := by simpa using (Array.getElem?_eq_some_iff.1 hej).1
        rw [if_pos this]; rfl
      · rw [if_neg hjk, if_neg hjk, Array.getElem?_toList]
    · rw [Fc O.keys hj, List.length_set]; exact O.len
    · rw [Fc O.keys hj] at hp
      rcases List.mem_or_eq_of_mem_set hp with hp | hp
      · exact O.ok p hp
      · subst hp; exact O.ok (a, x0) (List.mem_of_getElem? hj)) hd hg fun v h' ms' ⟨m', e1, e2, e3⟩ => by subst e2 e3; exact k m' e1
end
end Go.Eng
namespace Go.Eng
open Go.RowKit
structure IW (gi g : Nat) (m mi : Hp) (bs vis : List Nat) : Prop where
  ex : ∃ es clock since seen last, m = Hp.one g (.map es clock) ∧ mi = Hp.one gi (.mapIter (some g) since seen last) ∧ (∀ b ∈ bs, b < since) ∧ since ≤ last ∧ since ≤ clock ∧ seen.toList = vis.map (fun j => bs[j]?.getD 0) ∧ (vis ≠ [] → last = clock)
  lt : ∀ j ∈ vis, j < bs.length
  nodup : vis.Nodup
theorem Nq {g : Nat} {o o' : Obj} (h : Hp.one g o = Hp.one g o') : o = o' := by
  have := congrFun h g
  rw [Hp.one_self, Hp.one_self] at this
  exact Option.some.inj this
section
variable {κ ν : Type} [DecidableEq κ] {K : κ → Value} {V : ν → Value} {Ok : κ → Prop} {P : Program} {t : TypeId} {gi g : Nat} {m mi : Hp} {T : List (κ × ν)} {bs vis : List Nat}
variable {o : Oper} {s : Ay} {h : Hp} {ms : List Hp} {e : Entry} {Q : Exit → Act → World → Prop} {ops : Array Oper} {rest : List Oper}
theorem UV {bs : List Nat} (h : bs.Pairwise (· < ·)) {i j : Nat} {b : Nat} (hi : bs[i]? = some b) (hj : bs[j]? = some b) : i = j :=
  Ju (h.imp fun h => Nat.ne_of_lt h) hi hj
end
end Go.Eng
namespace Go.Eng
open Go.RowKit
variable {m : Hp} {c : Code} {w : World}
theorem Cw {α : Type} : ∀ {l : List α} {i : Nat} {a : α}, l[i]? = some a → l.Perm (a :: l.eraseIdx i)
  | [], i, a, h => by simp at h
  | b :: l, 0, a, h => by simp at h; subst h; simp
  | b :: l, i + 1, a, h => by
    simp at h
    exact ((Cw h).cons b).trans (List.Perm.swap _ _ _)
theorem Ends.erase {w0 : World} {h0 h : Hp} {ms0 ms : List Hp} {i : Nat} (H : Ends w0 h0 ms0 w h ms) (hm : ms[i]? = some m) : Ends w0 h0 ms0 w h (ms.eraseIdx i) :=
  Ends.drop (Ends.perm H (Cw hm))
section
variable {P : Program} {w0 : World} {h0 : Hp} {ms0 : List Hp} {n : Nat} {fn : Func} {post : Value → Hp → List Hp → Prop} {s : Ay} {h : Hp} {ms : List Hp} {t u : Nat} {ty el : TypeId} {g : Nat} {d : TypeDesc} {sz : Nat} {z : Value} {bytes : Nat} {vs : List Value} {v : Value}
theorem Cl (i : Nat) (hr : fn.results = #[.cell t ty]) (hv : lk s t = some (.pointer (some ⟨g, 0, none⟩))) (ht : P.underlying ty = some d) (hd : Jj d = true) (hs : Elem P ty sz z bytes) (hl : vs.length = sz) (hc : ms[i]? = some (AX g el vs)) (hp : post (.agg vs.toArray) h (ms.eraseIdx i)) :
    NX ⟨P, w0, h0, ms0, n, []⟩ (bodyPost P fn (RP w0 h0 ms0 post)) .ret s h ms := fun a w ha hw => by
  have h1 : a.tmps[t]?.getD undef = .pointer (some ⟨g, 0, none⟩) := by rw [ha.slots t _ hv]; rfl
  have hag : (isAgg ty).run P w = .ok true w := by rw [F2 ht, hd]
  have hc' : ∀ j v, vs[j]? = some v → w.cell? ((⟨g, 0, none⟩ : Addr).add j) = some v := fun j v e => hw.st.cell (Seg.blk i hc j v e)
  refine bodyPost_ret (v := .agg vs.toArray) ?_ ha.defers ⟨_, h, _, rfl, Ends.erase hw hc, hp⟩
  subst hl
  simp [results, hr, h1, asAddr, loadVar, hag, hs.sizeOf, run_loadCells_list (P := P) w _ vs hc']
theorem CX (i : Nat) (hr : fn.results = #[.cell t ty, .tmp u]) (hv : lk s t = some (.pointer (some ⟨g, 0, none⟩))) (hu : lk s u = some v) (ht : P.underlying ty = some d) (hd : Jj d = true) (hs : Elem P ty sz z bytes) (hl : vs.length = sz) (hc : ms[i]? = some (AX g el vs)) (hp : post (.tuple #[.agg vs.toArray, v]) h (ms.eraseIdx i)) :
    NX ⟨P, w0, h0, ms0, n, []⟩ (bodyPost P fn (RP w0 h0 ms0 post)) .ret s h ms := fun a w ha hw => by
  have h1 : a.tmps[t]?.getD undef = .pointer (some ⟨g, 0, none⟩) := by rw [ha.slots t _ hv]; rfl
  have h2 : a.tmps[u]?.getD undef = v := by rw [ha.slots u _ hu]; rfl
  have hag : (isAgg ty).run P w = .ok true w := by rw [F2 ht, hd]
  have hc' : ∀ j v, vs[j]? = some v → w.cell? ((⟨g, 0, none⟩ : Addr).add j) = some v := fun j v e => hw.st.cell (Seg.blk i hc j v e)
  refine bodyPost_ret (v := .tuple #[.agg vs.toArray, v]) ?_ ha.defers ⟨_, h, _, rfl, Ends.erase hw hc, hp⟩
  subst hl
  simp [results, hr, h1, h2, asAddr, loadVar, hag, hs.sizeOf, run_loadCells_list (P := P) w _ vs hc']
end
def Nu : Value → Bool
  | .slice none _ _ => true
  | _ => false
section
variable {P : Program} {o : Oper} {s : Ay} {h : Hp} {ms : List Hp} {t u el : TypeId} {x y : Operand} {v : Value} {sz n : Nat} {cs : List Value}
theorem Ru (R : Rd h ms v sz n cs) (ho : o.op = .binOp .eql t x y u) (ht : P.underlying t = some (.slice el)) (hx : ev s x = some v) (hy : ev s y = some (.slice none 0 0)) : OX P o s h ms (.bool (Nu v)) := by
  obtain ⟨a, c, rfl, _⟩ := R.ex
  refine BI fun ρ w hρ _ => ?_
  have := Go.Lib.run_eql_slice_nil w t el a n c 0 0 ht
  have hg : (eqGuard .eql t x y (.slice a n c) (.slice none 0 0)).run P w = .ok () w := by simp [eqGuard]
  cases a <;> simp [execOp, ho, hρ _ _ hx, hρ _ _ hy, this, hg, Nu]
end
theorem O9 {h : Hp} {ms : List Hp} {v : Value} {sz n : Nat} {cs : List Value} (R : Rd h ms v sz n cs) (hv : Nu v = true) : n = 0 := by
  obtain ⟨a, c, rfl, h1, h2, h3, h4⟩ := R.ex
  refine Nat.eq_zero_of_not_pos fun hn => ?_
  obtain ⟨q, rfl, _⟩ := h4 hn
  simp [Nu] at hv
theorem Hp.disj_join {a b c : Hp} (h1 : a.disj c) (h2 : b.disj c) : (a.join b).disj c := fun g => by
  rcases h1 g with e1 | e1
  · rcases h2 g with e2 | e2
    · left; simp [Hp.join, e1, e2]
    · exact .inr e2
  · exact .inr e1
theorem Hp.disj_left {a b c : Hp} (h : (a.join b).disj c) : a.disj c := fun g => by
  rcases h g with e | e
  · left
    cases ha : a g with
    | none => rfl
    | some o => simp [Hp.join, ha] at e
  · exact .inr e
theorem Hp.disj_right {a b c : Hp} (h : (a.join b).disj c) : b.disj c := fun g => by
  rcases h g with e | e
  · left
    cases ha : a g with
    | none => simpa [Hp.join, ha] using e
    | some o => simp [Hp.join, ha] at e
  · exact .inr e
theorem IN {e : Entry} {Q : Exit → Act → World → Prop} {s : Ay} {h : Hp} {ms : List Hp} {x : Exit} (k : NX e Q x s h (Hp.emp :: ms)) : NX e Q x s h ms := fun a w ha hw => k a w ha
  ⟨⟨hw.st.imm, fun m hm => by
      rcases List.mem_cons.1 hm with rfl | hm
      · intro g o e; cases e
      · exact hw.st.own m hm, fun m hm => by
      rcases List.mem_cons.1 hm with rfl | hm
      · exact fun _ => .inl rfl
      · exact hw.st.off m hm, List.pairwise_cons.2 ⟨fun _ _ _ => .inl rfl, hw.st.apart⟩⟩, hw.os, hw.tape, hw.output, hw.size, hw.block, hw.le, hw.hnew, fun m hm k hk hne => by
      rcases List.mem_cons.1 hm with rfl | hm
      · exact absurd rfl hne
      · exact hw.mnew m hm k hk hne⟩
theorem AP {e : Entry} {Q : Exit → Act → World → Prop} {s : Ay} {h : Hp} {ms : List Hp} {x : Exit} (i : Nat) (hm : ms[i]? = some m) (k : NX e Q x s h (ms.eraseIdx i)) : NX e Q x s h ms := fun a w ha hw => k a w ha (Ends.erase hw hm)
theorem HF {e : Entry} {Q : Exit → Act → World → Prop} {s : Ay} {h : Hp} {ms : List Hp} (i : Nat) (hm : ms[i]? = some m) (k : WS e c Q s h (ms.eraseIdx i)) : WS e c Q s h ms := fun a w ha hw => k a w ha (Ends.erase hw hm)
theorem Oe {e : Entry} {Q : Exit → Act → World → Prop} {s : Ay} {h : Hp} {ms : List Hp} {ops : Array Oper} {r : List Oper} (i : Nat) (hm : ms[i]? = some m) (k : WL e ops Q r s h (ms.eraseIdx i)) : WL e ops Q r s h ms := fun a w ha hw => k a w ha (Ends.erase hw hm)
@[simp] theorem Wz (k : IntKind) (n : Int) : (Value.int k n).oneCell' = true := rfl
@[simp] theorem Wj (b : Bool) : (Value.bool b).oneCell' = true := rfl
@[simp] theorem Wo (p : Option Addr) : (Value.pointer p).oneCell' = true := rfl
@[simp] theorem VN (p : Option Addr) (n c : Nat) : (Value.slice p n c).oneCell' = true := rfl
@[simp] theorem Wy (p : Option Nat) : (Value.map p).oneCell' = true := rfl
theorem Bu {e : Entry} {Q : Exit → Act → World → Prop} {ops : Array Oper} {rest : List Oper} {o : Oper} {s : Ay} {h : Hp} {ms : List Hp} {el : TypeId} {v : Value} {l : List Int} {t : TypeId} {x y : Operand} {z : Value} {bytes : Nat} {a : Int} (i j : Nat) (O : OwnL cI 1 el m v l) (ho : o.op = .store t x y) (hs : Elem e.P t 1 z bytes) (hx : ev s x = some (.pointer (some ((Bl v).add (j * 1))))) (hy : ev s y = some (.int .i64 a))
    (hm : ms[i]? = some m) (hj : j < l.length) (hd : o.dst = none) (hg : o.guard = none)
    (K : ∀ m', OwnL cI 1 el m' v (l.set j a) → WL e ops Q rest s h (ms.set i m')) : WL e ops Q (o :: rest) s h ms :=
  Ms i j (fun _ => rfl) O ho hs hx hy rfl hm hj hd hg K
theorem OwnL.blk {α : Type} {F : α → List Value} {sz : Nat} {el : TypeId} {g : Nat} {l : List α} (n : Nat) (hF : ∀ x, (F x).length = sz) (hl : l.length = n) (hn : n ≤ 9223372036854775807) : OwnL F sz el (AX g el (l.flatMap F)) (.slice (some ⟨g, 0, none⟩) n n) l :=
  ⟨⟨BL hF l, .inr ⟨g, n, [], by rw [hl], by rw [List.append_nil], by rw [List.append_nil, BL hF, hl], by omega, hn⟩⟩, hF⟩
theorem OwnL.rep {g : Nat} {el : TypeId} (n : Nat) (x : Int) (hn : n ≤ 9223372036854775807) : OwnL cI 1 el (AX g el (List.replicate n (.int .i64 x))) (.slice (some ⟨g, 0, none⟩) n n) (List.replicate n x) := by
  rw [Q8]
  exact OwnL.blk n Br (by simp) hn
theorem Ends.join {w0 : World} {h0 h : Hp} {ms0 ms : List Hp} {a b : Hp} (H : Ends w0 h0 ms0 w h (a :: b :: ms)) : Ends w0 h0 ms0 w h (a.join b :: ms) := by
  have hap := List.pairwise_cons.1 H.st.apart
  have hap2 := List.pairwise_cons.1 hap.2
  refine ⟨⟨H.st.imm, ?_, ?_, List.pairwise_cons.2 ⟨fun m hm => Hp.disj_join (hap.1 m (List.mem_cons_of_mem _ hm)) (hap2.1 m hm), hap2.2⟩⟩, H.os, H.tape, H.output, H.size, H.block, H.le, H.hnew, ?_⟩
  · intro m hm
    rcases List.mem_cons.1 hm with rfl | hm
    · intro k o e
      unfold Hp.join at e
      split at e
      · rename_i o' e'; cases e; exact H.st.own a (by simp) k _ e'
      · exact H.st.own b (by simp) k o e
    · exact H.st.own m (by simp [hm])
  · intro m hm
    rcases List.mem_cons.1 hm with rfl | hm
    · exact Hp.disj_join (H.st.off a (by simp)) (H.st.off b (by simp))
    · exact H.st.off m (by simp [hm])
  · intro m hm k hk e
    rcases List.mem_cons.1 hm with rfl | hm
    · cases ha : a k with
      | some o => exact H.mnew a (by simp) k hk (by rw [ha]; simp)
      | none => exact H.mnew b (by simp) k hk (by simpa [Hp.join, ha] using e)
    · exact H.mnew m (by simp [hm]) k hk e
theorem Ends.part {w0 : World} {h0 h : Hp} {ms0 ms : List Hp} {a b : Hp} (H : Ends w0 h0 ms0 w h (a.join b :: ms)) (hd : a.disj b) : Ends w0 h0 ms0 w h (a :: b :: ms) := by
  have hap := List.pairwise_cons.1 H.st.apart
  have hb : ∀ k o, b k = some o → (a.join b) k = some o := fun k o e => by
    rcases hd k with e1 | e1
    · simp [Hp.join, e1, e]
    · rw [e1] at e; cases e
  have ha : ∀ k o, a k = some o → (a.join b) k = some o := fun k o e => by simp [Hp.join, e]
  refine ⟨⟨H.st.imm, ?_, ?_, List.pairwise_cons.2 ⟨?_, List.pairwise_cons.2 ⟨fun m hm => Hp.disj_right (hap.1 m hm), hap.2⟩⟩⟩, H.os, H.tape, H.output, H.size, H.block, H.le, H.hnew, ?_⟩
  · intro m hm
    rcases List.mem_cons.1 hm with rfl | hm
    · exact fun k o e => H.st.own _ (by simp) k o (ha k o e)
    rcases List.mem_cons.1 hm with rfl | hm
    · exact fun k o e => H.st.own _ (by simp) k o (hb k o e)
    · exact H.st.own m (by simp [hm])
  · intro m hm
    have h1 := H.st.off (a.join b) (by simp)
    rcases List.mem_cons.1 hm with rfl | hm
    · exact Hp.disj_left h1
    rcases List.mem_cons.1 hm with rfl | hm
    · exact Hp.disj_right h1
    · exact H.st.off m (by simp [hm])
  · intro m hm
    rcases List.mem_cons.1 hm with rfl | hm
    · exact hd
    · exact Hp.disj_left (hap.1 m hm)
  · intro m hm k hk e
    rcases List.mem_cons.1 hm with rfl | hm
    · obtain ⟨o, ho⟩ := Hp.ne_none e
      exact H.mnew (m.join b) (by simp) k hk (by rw [ha k o ho]; simp)
    rcases List.mem_cons.1 hm with rfl | hm
    · obtain ⟨o, ho⟩ := Hp.ne_none e
      exact H.mnew (a.join m) (by simp) k hk (by rw [hb k o ho]; simp)
    · exact H.mnew m (by simp [hm]) k hk e
section
variable {e : Entry} {Q : Exit → Act → World → Prop} {s : Ay} {h : Hp} {ms : List Hp} {a b : Hp} {ops : Array Oper}
theorem Tq (k : WS e c Q s h (a.join b :: ms)) : WS e c Q s h (a :: b :: ms) := fun x w ha hw => k x w ha (Ends.join hw)
theorem Cq {y : Exit} (k : NX e Q y s h (a.join b :: ms)) : NX e Q y s h (a :: b :: ms) := fun x w ha hw => k x w ha (Ends.join hw)
theorem Il (hd : a.disj b) (k : WS e c Q s h (a :: b :: ms)) : WS e c Q s h (a.join b :: ms) := fun x w ha hw => k x w ha (Ends.part hw hd)
theorem PQ (k : ms.Pairwise Hp.disj → WS e c Q s h ms) : WS e c Q s h ms := fun x w ha hw => k hw.st.apart x w ha hw
theorem Ck {y : Exit} (k : ms.Pairwise Hp.disj → NX e Q y s h ms) : NX e Q y s h ms := fun x w ha hw => k hw.st.apart x w ha hw
end
end Go.Eng
namespace Go.Eng
open Go.RowKit Go.Lin
variable {h : Hp} {ms : List Hp} {v : Value}
theorem RdL.row {r c : Nat} {f : Nat → Nat → Int} (R : RdL cI 1 h ms v (mat r c f)) {i : Nat} (hi : i < r) : RdL cI 1 h ms (Ch 1 v (i * c) ((i + 1) * c)) (vec c (f i)) := by
  have h0 : (i + 1) * c ≤ r * c := Nat.mul_le_mul_right c hi
  have h1 : (i + 1) * c = i * c + c := by rw [Nat.add_mul, Nat.one_mul]
  have := R.sub_ (i := i * c) (j := (i + 1) * c) (by omega) (by rw [AY]; exact h0)
  rw [show (i + 1) * c - i * c = c by omega, Ti hi] at this
  exact this
theorem RdL.ent {r c : Nat} {f : Nat → Nat → Int} (R : RdL cI 1 h ms v (mat r c f)) {i j : Nat} (hi : i < r) (hj : j < c) : Cell h ms ((Bl v).add ((i * c + j) * 1)) (.int .i64 (f i j)) := by
  have hl : i * c + j < (mat r c f).length := by rw [AY]; exact Cp hi hj
  have := R.cell0 hl (u := .int .i64 (f i j)) (by rw [Tz hi hj]; rfl)
  exact this
theorem RdL.ev {n : Nat} {f : Nat → Int} (R : RdL cI 1 h ms v (vec n f)) {j : Nat} (hj : j < n) : Cell h ms ((Bl v).add (j * 1)) (.int .i64 (f j)) := by
  have hl : j < (vec n f).length := by rw [AQ]; exact hj
  exact R.cell0 hl (u := .int .i64 (f j)) (by rw [EE hj]; rfl)
end Go.Eng
namespace Go.Eng
open Go.RowKit
variable {n : Nat} {o : Oper} {l : List Oper} {a : Act} {w : World} {v : Value} {z : Ay}
def WB (e : Entry) (ops : Array Oper) (Q : Exit → Act → World → Prop) (h0 : Hp) : Nat → Array Bool → Ay → Hp → List Hp → Prop
  | 0, listed, s, h, ms => Region.ready .any ops listed = [] ∧ NX e Q .normal s h ms
  | n + 1, listed, s, h, ms => (Region.ready .any ops listed = [] → NX e Q .normal s h ms) ∧ ∀ i ∈ Region.ready .any ops listed, ∃ o, ops[i]? = some o ∧
      WL e ops (fun x a w => x = .normal ∧ ∃ s' h' ms', Has e.n e.ds a s' ∧ e.Ends w h' ms' ∧ h0.le h' ∧ WB e ops Q h0 n (listed.setIfInBounds i true) s' h' ms') [o] s h ms
def HB (e : Entry) (ops : Array Oper) (Q : Exit → Act → World → Prop) (h0 : Hp) (n : Nat) (listed : Array Bool) (a : Act) (w : World) : Prop :=
  ∃ s' h' ms', Has e.n e.ds a s' ∧ e.Ends w h' ms' ∧ h0.le h' ∧ WB e ops Q h0 n listed s' h' ms'
def QB (e : Entry) (ops : Array Oper) (Q : Exit → Act → World → Prop) (h0 : Hp) (n : Nat) (listed : Array Bool) : Exit → Act → World → Prop :=
  fun x a w => x = .normal ∧ HB e ops Q h0 n listed a w
theorem KB {e : Entry} {ops : Array Oper} {Q : Exit → Act → World → Prop} {h0 : Hp} {listed : Array Bool} : ¬ LetsOut (QB e ops Q h0 n listed) := fun h => by simp [LetsOut, QB] at h
theorem HB.ext {e : Entry} {ops : Array Oper} {Q : Exit → Act → World → Prop} {h0 : Hp} {listed : Array Bool} {w' : World} (H : HB e ops Q h0 n listed a w) (he : Ext w w') : HB e ops Q h0 n listed a w' := by
  obtain ⟨s', h', ms', g1, g2, g3, g4⟩ := H
  exact ⟨s', h', ms', g1, Ends.ext g2 he, g3, g4⟩
structure VR (P : Program) (pu : List Nat) (ops : Array Oper) (s z : Ay) (n : Nat) (h0 : Hp) : Prop where
  val : ∀ i o d, pu.contains i = true → ops[i]? = some o → o.dst = some d → ∃ v, lk z d = some v ∧ OX P o (z ++ s) h0 [] v
  only : ∀ t v, lk z t = some v → t < n ∧ ∃ i, pu.contains i = true ∧ Bf ops i = some t
section
variable {P : Program} {ops : Array Oper} {Q : Exit → Act → World → Prop}
theorem Pi {s : Ay} {h0 : Hp} (hs : ∀ cs b, o.op ≠ .select cs b) (hl : ∀ t ∈ o.looksAt ops, ∀ u, lk s t = some u → a.tmps[t]? = some u)
    (k : OX P o s h0 [] v) (hw : St w h0 []) : OpRes P o a.eval w (fun v' w' => v' = v ∧ Ext w w') := by
  classical
  unfold OpRes
  rw [execOp_congr (ρ := a.eval) (ρ' := fun x => if x ∈ o.op.operands then a.eval x else (ev s x).getD undef) o hs (fun x hx => (if_pos hx).symm)]
  refine k _ w (fun x u hu => ?_) hw
  show (if x ∈ o.op.operands then a.eval x else (ev s x).getD undef) = u
  split
  · rename_i hx
    cases x with
    | tmp t =>
      refine Act.eval_of_slot (hl t ?_ u hu)
      exact List.mem_append_left _ (List.mem_filterMap.2 ⟨.tmp t, by simpa using hx, rfl⟩)
    | const v => cases hu; rfl
    | global g => cases hu; rfl
    | func f => cases hu; rfl
  · rw [hu]; rfl
theorem Oper.wp_sim' {K K' : Act → World → Prop} {Qb : Exit → Act → World → Prop} (hq : ∀ x a w, Qb x a w → x = .normal) (hlo : ¬ LetsOut Qb) (hx : execOp (zA z a).eval o = execOp a.eval o) (hd : ∀ t, o.dst = some t → lk z t = none) (hK : ∀ b w v, b.tmps = (a.put o.dst v).tmps → K' (zA z b) w → K b w)
    (h : o.wp P (zA z a) w K' Qb) : o.wp P a w K (Q0 Q) := by
  unfold Oper.wp at *
  rw [hx] at h
  generalize (execOp a.eval o).run P w = r at *
  have hv : ∀ v w, K' ((zA z a).put o.dst v) w → K (a.put o.dst v) w := fun v w hh => hK _ _ v rfl (by rw [E2 hd]; exact hh)
  cases r with
  | ok n w' =>
    cases n <;> simp only [Oper.upon] at h ⊢ <;>
      first
        | exact hv _ _ h
        | exact Calls.mono h (fun e w'' he => by
            cases e
            · exact hv _ _ he
            · exact absurd (hq _ _ _ he) (by simp)
            · exact absurd he hlo)
        | exact Rows.mono h (fun _ _ he => hv _ _ he)
        | exact hK _ _ undef (by cases o.dst <;> rfl) (by rw [E2 hd]; exact h)
  | halt x w' => cases x <;> simp only [Oper.upon] at h ⊢ <;> first | exact h | exact absurd (hq _ _ _ h) (by simp)
end
theorem Vn {e : Entry} {ops : Array Oper} {Q : Exit → Act → World → Prop} {h0 : Hp} {pu : List Nat} {s : Ay} {a0 : Act} (ha0 : Has e.n e.ds a0 s) (hp : Wp pu ops) (hb : ∀ i o, ops[i]? = some o → ∀ e ∈ o.after, Region.binds .any e = true → e.on < i) (hz : VR e.P pu ops s z e.n h0) :
    ∀ fuel fuel' listed a w, Wi pu ops z a0 a listed → listed.size = ops.size → left listed ≤ fuel → HB e ops Q h0 fuel' (un pu listed) (zA z a) w → wpAny e.P .any ops (Q0 Q) fuel listed a w := by
  -- all is listed
  have alldone : ∀ fuel' listed a w, Wi pu ops z a0 a listed → listed.size = ops.size → (∀ j, j < ops.size → listed.getD j false = true) → HB e ops Q h0 fuel' (un pu listed) (zA z a) w → Region.ready .any ops listed = [] ∧ (Q0 Q) .normal a w := by
    intro fuel' listed a w S hsz hall H
    have noready : ∀ l' : Array Bool, (∀ j, j < ops.size → l'.getD j false = true) → Region.ready .any ops l' = [] := fun l' hl' => by
      cases hr : Region.ready .any ops l' with
      | nil => rfl
      | cons x xs =>
        have hx : x ∈ Region.ready .any ops l' := by rw [hr]; exact List.mem_cons_self
        obtain ⟨h0, o, ho, _⟩ := mem_ready.1 hx
        have := hl' x (Array.getElem?_eq_some_iff.1 ho).1
        have h2 := Be h0
        rw [Array.getD_eq_getD_getElem?, h2] at this; cases this
    have hr' := noready (un pu listed) (fun j hj => by rw [Gn _ _ _ _ (by omega), hall j hj]; rfl)
    have hQ : (Q0 Q) .normal (zA z a) w := by
      obtain ⟨s', h', ms', g1, g2, g3, g4⟩ := H
      cases fuel' with
      | zero => exact ⟨rfl, g4.2 _ _ g1 g2⟩
      | succ f => exact ⟨rfl, g4.1 hr' _ _ g1 g2⟩
    have hza : zA z a = a := by
      refine Ij ?_ rfl
      apply Array.ext_getElem?
      intro t
      rw [DY]
      cases hl : lk z t with
      | none => simp
      | some v =>
        obtain ⟨hn, i, hi, hd⟩ := hz.only t v hl
        have hlt : t < a.tmps.size := by rw [S.size, ha0.size]; exact hn
        rw [S.pure i hi (hall i (CJ hd)) t v hd hl hlt]; rfl
    rw [hza] at hQ
    exact ⟨noready _ hall, hQ⟩
  have hall_of : ∀ listed : Array Bool, listed.size = ops.size → left listed = 0 → ∀ j, j < ops.size → listed.getD j false = true := fun listed hsz h0 j hj => by
    have h1 := Hy h0 j
    have hjlt : j < listed.size := by omega
    rw [Array.getD_eq_getD_getElem?] at h1 ⊢
    simp [hjlt] at h1 ⊢; exact h1
  intro fuel
  induction fuel with
  | zero =>
    intro fuel' listed a w S hsz hle H
    exact alldone fuel' listed a w S hsz (hall_of listed hsz (by omega)) H
  | succ fuel ih =>
    intro fuel' listed a w S hsz hle H
    refine ⟨fun hr0 => ?_, fun i hir => ?_⟩
    · -- nothing is ready: all is listed
      refine (alldone fuel' listed a w S hsz ?_ H).2
      intro j
      induction j using Nat.strongRecOn with
      | _ j ihj =>
        intro hj
        cases hl : listed.getD j false with
        | true => rfl
        | false =>
          have ho : ops[j]? = some ops[j] := by simp [hj]
          have : j ∈ Region.ready .any ops listed := mem_ready.2 ⟨by
            have hjlt : j < listed.size := by omega
            rw [Array.getD_eq_getD_getElem?] at hl ⊢
            simp [hjlt] at hl ⊢; exact hl, _, ho, fun ed hed hbd => by
              have := hb j _ ho ed hed hbd
              exact ihj _ this (by omega)⟩
          rw [hr0] at this; cases this
    · obtain ⟨hun, o, ho, hall⟩ := mem_ready.1 hir
      have hilt : i < ops.size := (Array.getElem?_eq_some_iff.1 ho).1
      have hdi : Bf ops i = o.dst := by simp [Bf, ho]
      have hsel : ∀ cs b, o.op ≠ .select cs b := fun cs b => Region.noSelect_spec hp.nosel i o cs b ho
      have hls := GF (Be hun)
      have hset : ∀ j d, (listed.setIfInBounds i true).getD j d = if j = i then true else listed.getD j d := fun j d => by
        by_cases hj : j = i
        · subst hj; simp [show j < listed.size by omega]
        · rw [getD_set_ne d (Ne.symm hj)]; simp [hj]
      -- the slots of pure ones that are looked at stand
      have hpl : ∀ t ∈ o.looksAt ops, ∀ v, lk z t = some v → a.tmps[t]? = some v ∧ ∃ j, pu.contains j = true ∧ Bf ops j = some t := fun t ht v hv => by
        obtain ⟨hn, j, hj, hd⟩ := hz.only t v hv
        refine ⟨?_, j, hj, hd⟩
        rcases hp.look i o t j ho ht hd with ⟨_, h2⟩ | ⟨h2, _⟩
        · obtain ⟨e, he, hbd, rfl⟩ := Ed h2
          exact S.pure _ hj (hall e he hbd) t v hd hv (by rw [S.size, ha0.size]; exact hn)
        · rw [hj] at h2; cases h2
      have hsame : ∀ t ∈ o.looksAt ops, (zA z a).tmps[t]? = a.tmps[t]? := fun t ht => by
        rw [DY]
        cases hl : lk z t with
        | none => simp
        | some v => rw [(hpl t ht v hl).1]; rfl
      have hx : execOp (zA z a).eval o = execOp a.eval o := execOp_congr o hsel fun x hx => by
        cases x with
        | tmp t =>
          have := hsame t (List.mem_append_left _ (List.mem_filterMap.2 ⟨.tmp t, by simpa using hx, rfl⟩))
          simp only [Act.eval]
          rw [Array.getD_eq_getD_getElem?, this, ← Array.getD_eq_getD_getElem?]
        | const v => rfl
        | global g => rfl
        | func f => rfl
      unfold wpOp
      simp only [ho]
      cases hc : pu.contains i with
      | true =>
        obtain ⟨hg, ⟨d, hd⟩, huq⟩ := hp.plain i o ho hc
        obtain ⟨v, hv, hpx⟩ := hz.val i o d hc ho hd
        have hw : Region.wanted o (yielded ops a.tmps) = true := by unfold Region.wanted; rw [hg]
        rw [if_pos hw]
        have hst : St w h0 [] := by
          obtain ⟨s', h', ms', g1, g2, g3, g4⟩ := H
          exact ⟨fun g o e => g2.st.imm g o (g3 g o e), fun m hm => by simp at hm, fun m hm => by simp at hm, List.Pairwise.nil⟩
        refine .inl (OpRes.wp (Φ := fun v' w' => v' = v ∧ Ext w w') ?_ ?_)
        · unfold OpRes
          rw [← hx]
          refine Pi (ops := ops) hsel (fun t ht u hu => ?_) hpx hst
          rw [B9] at hu
          cases hl : lk z t with
          | some v' => rw [hl] at hu; cases hu; rw [hsame t ht]; exact (hpl t ht _ hl).1
          | none =>
            rw [hl] at hu
            rw [hsame t ht, S.old t fun j hj => ?_]
            · exact ha0.slots t u hu
            · rcases hp.look i o t j ho ht hj with ⟨h1, _⟩ | ⟨_, h2⟩
              · obtain ⟨oj, hoj⟩ : ∃ oj, ops[j]? = some oj := ⟨ops[j]'(CJ hj), by simp [CJ hj]⟩
                have hdj : oj.dst = some t := by simpa [Bf, hoj] using hj
                obtain ⟨v', hv', _⟩ := hz.val j oj t h1 hoj hdj
                rw [hl] at hv'; cases hv'
              · rcases h2 with h2 | ⟨oj, hoj, hed⟩
                · rw [hc] at h2; cases h2
                · cases hlj : listed.getD j false with
                  | false => rfl
                  | true =>
                    obtain ⟨e, he, hbd, hon⟩ := Ed hed
                    have h4 := S.closed j oj hlj hoj e he hbd
                    rw [hon, Array.getD_eq_getD_getElem?, Be hun] at h4; cases h4
        · rintro v' w' ⟨rfl, hext⟩
          show wpAny e.P .any ops (Q0 Q) fuel (listed.setIfInBounds i true) (a.put o.dst v') w'
          rw [hd]
          refine ih fuel' _ _ w' ⟨?_, ?_, by simp [Act.put, S.size], S.closed.set hir⟩ (by simpa using hsz) (by omega) (by rw [H5 _ hc, HP hv]; exact H.ext hext)
          · intro j hj hlj d' v' hd' hv' hlt
            by_cases hji : j = i
            · subst hji; rw [hdi, hd] at hd'; cases hd'; rw [hv] at hv'; cases hv'
              simp only [Act.put]
              have : d < a.tmps.size := by simpa [Act.put] using hlt
              simp [this]
            · rw [hset] at hlj; simp only [hji, if_false] at hlj
              have hne : d ≠ d' := fun e' => huq j hji d hd (by rw [hd', e'])
              simp only [Act.put, Array.getElem?_setIfInBounds_ne hne]
              exact S.pure j hj hlj d' v' hd' hv' (by simpa [Act.put] using hlt)
          · intro t ht
            have hne : d ≠ t := fun e' => by
              have := ht i (by rw [hdi, hd, e'])
              rw [hset] at this; simp at this
            simp only [Act.put, Array.getElem?_setIfInBounds_ne hne]
            exact S.old t fun j hj => by
              have := ht j hj
              rw [hset] at this
              by_cases hji : j = i
              · simp [hji] at this
              · simpa [hji] using this
      | false =>
        have hdz : ∀ t, o.dst = some t → lk z t = none := fun t ht => by
          cases hl : lk z t with
          | none => rfl
          | some v =>
            obtain ⟨_, j, hj, hd⟩ := hz.only t v hl
            have hji : j ≠ i := fun e' => by rw [e', hc] at hj; cases hj
            obtain ⟨oj, hoj⟩ : ∃ oj, ops[j]? = some oj := ⟨ops[j]'(CJ hd), by simp [CJ hd]⟩
            obtain ⟨_, _, huq⟩ := hp.plain j oj hoj hj
            exact absurd (by rw [hdi, ht]) (huq i (Ne.symm hji) t (by simpa [Bf, hoj] using hd))
        have hir' : i ∈ Region.ready .any ops (un pu listed) := mem_ready.2 ⟨by rw [Gn _ _ _ _ (by omega), hun, hc]; rfl, o, ho, fun e he hbd => by
          have h1 := hb i o ho e he hbd
          rw [Gn _ _ _ _ (by omega), hall e he hbd]; rfl⟩
        obtain ⟨s', h', ms', g1, g2, g3, g4⟩ := H
        cases fuel' with
        | zero => rw [g4.1] at hir'; cases hir'
        | succ fuel' =>
          obtain ⟨o', ho', HW⟩ := g4.2 i hir'
          rw [ho] at ho'
          cases ho'
          have H' := HW (zA z a) w g1 g2
          unfold wpList at H'
          rw [← P0] at H'
          have hwant : Region.wanted o (yielded ops (zA z a).tmps) = Region.wanted o (yielded ops a.tmps) := by
            unfold Region.wanted
            cases hg : o.guard with
            | none => rfl
            | some p =>
              obtain ⟨j, b⟩ := p
              have : yielded ops (zA z a).tmps j = yielded ops a.tmps j := by
                unfold yielded
                cases hd : (ops[j]?).bind (·.dst) with
                | none => rfl
                | some t =>
                  have ht : t ∈ o.looksAt ops := by
                    unfold Oper.looksAt
                    refine List.mem_append_right _ ?_
                    simp only [hg]
                    rw [hd]; simp
                  simp [hd, hsame t ht]
              simp only [this]
          rw [hwant] at H'
          have hnext : ∀ b w v, b.tmps = (a.put o.dst v).tmps → QB e ops Q h0 fuel' (un pu (listed.setIfInBounds i true)) .normal (zA z b) w → wpAny e.P .any ops (Q0 Q) fuel (listed.setIfInBounds i true) b w := fun b w v hbt hh => by
            have hbget : ∀ t, o.dst ≠ some t → b.tmps[t]? = a.tmps[t]? := fun t ht => by
              rw [hbt]
              cases hd : o.dst with
              | none => rfl
              | some d =>
                have : d ≠ t := fun e' => ht (by rw [hd, e'])
                simp only [Act.put, Array.getElem?_setIfInBounds_ne this]
            have hbs : b.tmps.size = a.tmps.size := by rw [hbt]; cases o.dst <;> simp [Act.put]
            refine ih fuel' _ b w ⟨?_, ?_, by rw [hbs, S.size], S.closed.set hir⟩ (by simpa using hsz) (by omega) hh.2
            · intro j hj hlj d' v' hd' hv' hlt
              have hji : j ≠ i := fun e' => by rw [e', hc] at hj; cases hj
              rw [hset] at hlj; simp only [hji, if_false] at hlj
              have hne : o.dst ≠ some d' := fun e' => by rw [hdz d' e'] at hv'; cases hv'
              rw [hbget d' hne]
              exact S.pure j hj hlj d' v' hd' hv' (by rw [← hbs]; exact hlt)
            · intro t ht
              rw [hbget t (fun e' => by
                have := ht i (by rw [hdi, e'])
                rw [hset] at this; simp at this)]
              exact S.old t fun j hj => by
                have := ht j hj
                rw [hset] at this
                by_cases hji : j = i
                · simp [hji] at this
                · simpa [hji] using this
          split
          · rename_i hw
            rw [if_pos hw] at H'
            rcases H' with H' | ⟨_, H'⟩
            · exact .inl (Oper.wp_sim' (fun x a w h => h.1) KB hx hdz hnext H')
            · exact absurd H' KB
          · rename_i hw
            rw [if_neg hw] at H'
            exact hnext _ _ undef rfl (by rw [E2 hdz]; exact H')
def CD (P : Program) (l : List Oper) (n : Nat) (s : Ay) (h0 : Hp) (K : Ay → Prop) : List Nat → Ay → Prop
  | [], z => K z
  | i :: r, z => ∃ o d v, l[i]? = some o ∧ o.dst = some d ∧ d < n ∧ lk (z ++ s) d = none ∧ OX P o (z ++ s) h0 [] v ∧ CD P l n s h0 K r ((d, v) :: z)
theorem OX.mono_s {P : Program} {s : Ay} {h : Hp} {ms : List Hp} {d : Nat} {u : Value} (k : OX P o s h ms v) (hd : lk s d = none) : OX P o ((d, u) :: s) h ms v := fun ρ w hρ hw =>
  k ρ w (fun x u' hx => hρ x u' (by
    cases x with
    | tmp t =>
      have : d ≠ t := fun e => by subst e; simp only [ev] at hx; rw [hd] at hx; cases hx
      simp only [ev] at hx ⊢; rw [Bq _ _ this]; exact hx
    | const v => exact hx
    | global g => exact hx
    | func f => exact hx)) hw
theorem Lz {P : Program} {s : Ay} {h0 : Hp} {K : Ay → Prop} : ∀ (r done : List Nat) (z : Ay),
    (∀ i ∈ done, ∀ o d, l[i]? = some o → o.dst = some d → ∃ v, lk z d = some v ∧ OX P o (z ++ s) h0 [] v) → (∀ t v, lk z t = some v → t < n ∧ ∃ i ∈ done, Bf l.toArray i = some t) → CD P l n s h0 K r z →
    ∃ zf, K zf ∧ (∀ i, i ∈ done ∨ i ∈ r → ∀ o d, l[i]? = some o → o.dst = some d → ∃ v, lk zf d = some v ∧ OX P o (zf ++ s) h0 [] v) ∧ (∀ t v, lk zf t = some v → t < n ∧ ∃ i, (i ∈ done ∨ i ∈ r) ∧ Bf l.toArray i = some t)
  | [], done, z, h1, h2, h3 => ⟨z, h3, fun i hi => h1 i (hi.resolve_right (by simp)), fun t v hv => by
      obtain ⟨g1, i, g2, g3⟩ := h2 t v hv
      exact ⟨g1, i, .inl g2, g3⟩⟩
  | j :: r, done, z, h1, h2, ⟨o, d, v, e1, e2, e3, e4, e5, e6⟩ => by
    have hzd : lk z d = none := by
      rw [B9] at e4
      cases hl : lk z d with
      | none => rfl
      | some u => rw [hl] at e4; cases e4
    obtain ⟨zf, g1, g2, g3⟩ := Lz r (j :: done) ((d, v) :: z) (fun i hi o' d' ho' hd' => by
      rcases List.mem_cons.1 hi with rfl | hi
      · rw [e1] at ho'; cases ho'; rw [e2] at hd'; cases hd'
        exact ⟨v, Bt _ _ _, e5.mono_s e4⟩
      · obtain ⟨v', f1, f2⟩ := h1 i hi o' d' ho' hd'
        refine ⟨v', ?_, f2.mono_s e4⟩
        have : d ≠ d' := fun e => by subst e; rw [hzd] at f1; cases f1
        rw [Bq _ _ this]; exact f1) (fun t u hu => by
      by_cases hdt : d = t
      · subst hdt; exact ⟨e3, j, by simp, by simp [Bf, e1, e2]⟩
      · rw [Bq _ _ hdt] at hu
        obtain ⟨f1, i, f2, f3⟩ := h2 t u hu
        exact ⟨f1, i, List.mem_cons_of_mem _ f2, f3⟩) e6
    refine ⟨zf, g1, fun i hi => g2 i ?_, fun t u hu => ?_⟩
    · rcases hi with hi | hi
      · exact .inl (List.mem_cons_of_mem _ hi)
      · rcases List.mem_cons.1 hi with rfl | hi
        · exact .inl List.mem_cons_self
        · exact .inr hi
    · obtain ⟨f1, i, f2, f3⟩ := g3 t u hu
      refine ⟨f1, i, ?_, f3⟩
      rcases f2 with f2 | f2
      · rcases List.mem_cons.1 f2 with rfl | f2
        · exact .inr List.mem_cons_self
        · exact .inl f2
      · exact .inr (List.mem_cons_of_mem _ f2)
theorem Wa {P : Program} {s : Ay} {h0 : Hp} {K : Ay → Prop} {r : List Nat} {i d : Nat} (ho : l[i]? = some o) (hd : o.dst = some d) (hn : Nat.blt d n = true) (hf : lk (z ++ s) d = none) (hx : OX P o (z ++ s) h0 [] v) (k : CD P l n s h0 K r ((d, v) :: z)) : CD P l n s h0 K (i :: r) z :=
  ⟨o, d, v, ho, hd, Nat.le_of_ble_eq_true hn, hf, hx, k⟩
section
variable {e : Entry} {ops : Array Oper} {Q : Exit → Act → World → Prop} {h0 : Hp} {fuel : Nat} {listed : Array Bool} {s : Ay} {h : Hp} {ms : List Hp}
theorem Uh (hl : h0.le h) (k : WB e ops Q h0 fuel listed s h ms) : NX e (QB e ops Q h0 fuel listed) .normal s h ms := fun a w ha hw => ⟨rfl, s, h, ms, ha, hw, hl, k⟩
theorem Vm (hr : Region.ready .any ops listed = []) (k : NX e Q .normal s h ms) : WB e ops Q h0 fuel listed s h ms := by
  cases fuel with
  | zero => exact ⟨hr, k⟩
  | succ n => exact ⟨fun _ => k, fun i hi => by rw [hr] at hi; cases hi⟩
def WBl (e : Entry) (ops : Array Oper) (Q : Exit → Act → World → Prop) (h0 : Hp) (fuel : Nat) (listed : Array Bool) (s : Ay) (h : Hp) (ms : List Hp) : List Nat → Prop
  | [] => True
  | i :: l => (∃ o, ops[i]? = some o ∧ WL e ops (QB e ops Q h0 fuel (listed.setIfInBounds i true)) [o] s h ms) ∧ WBl e ops Q h0 fuel listed s h ms l
theorem WBl.get : ∀ (l : List Nat), WBl e ops Q h0 fuel listed s h ms l → ∀ i ∈ l, ∃ o, ops[i]? = some o ∧ WL e ops (QB e ops Q h0 fuel (listed.setIfInBounds i true)) [o] s h ms
  | [], _, i, hi => by cases hi
  | j :: l, H, i, hi => by
    rcases List.mem_cons.1 hi with rfl | hi
    · exact H.1
    · exact WBl.get l H.2 i hi
theorem A3 : WBl e ops Q h0 fuel listed s h ms [] := trivial
theorem Az {i : Nat} {l : List Nat} (ho : ops[i]? = some o) (k : WL e ops (QB e ops Q h0 fuel (listed.setIfInBounds i true)) [o] s h ms) (k' : WBl e ops Q h0 fuel listed s h ms l) : WBl e ops Q h0 fuel listed s h ms (i :: l) := ⟨⟨o, ho, k⟩, k'⟩
theorem A2 (l : List Nat) (hr : Region.ready .any ops listed = l) (hne : l.isEmpty = false) (k : WBl e ops Q h0 fuel listed s h ms l) : WB e ops Q h0 (fuel + 1) listed s h ms :=
  ⟨fun h0 => (by rw [hr] at h0; subst h0; cases hne), fun i hi => k.get l i (by rw [hr] at hi; exact hi)⟩
end
theorem Lf {e : Entry} {Q : Exit → Act → World → Prop} {s : Ay} {h : Hp} {ms : List Hp} {bs : List Bool} (m : List Bool) (hpu : HG (Gy m 0) l.toArray = true) (hbk : FZ l.toArray = true) (hn : l.length = n)
    (hbs : (List.range n).map (fun i => (Gy m 0).contains i) = bs) (k : CD e.P l e.n s h (fun z => WB e l.toArray Q h n bs.toArray (z ++ s) h ms) (Gy m 0) []) : ∀ a w, Has e.n e.ds a s → e.Ends w h ms → wpAny e.P .any l.toArray Q l.toArray.size (Array.replicate l.toArray.size false) a { w with drawn := w.drawn + 1 } := by
  intro a w ha hw
  obtain ⟨z, kw, hz1, hz2⟩ := Lz _ [] [] (by simp) (fun t v hv => by cases hv) k
  have PO := H3 hpu
  have HBk := G4 hbk
  have hmem : ∀ i, (Gy m 0).contains i = true ↔ i ∈ Gy m 0 := fun i => List.contains_iff_mem
  have hZ : VR e.P (Gy m 0) l.toArray s z e.n h := ⟨fun i o d hi ho hd => hz1 i (.inr ((hmem i).1 hi)) o d (by simpa using ho) hd, fun t v hv => by
    obtain ⟨g1, i, g2, g3⟩ := hz2 t v hv
    exact ⟨g1, i, (hmem i).2 (g2.resolve_left (by simp)), g3⟩⟩
  have hsz : l.toArray.size = n := by simpa using hn
  refine UH _ _ _ _ ?_
  refine Vn (h0 := h) ha PO HBk hZ _ n _ a _ ⟨fun i _ hi => (by rw [BM] at hi; cases hi), fun _ _ => rfl, rfl, fun i o hi => (by rw [BM] at hi; cases hi)⟩ (by simp) (by
    unfold left; rw [Array.toList_replicate]; exact Nat.le_trans (List.countP_le_length) (by simp)) ?_
  have e1 : un (Gy m 0) (Array.replicate l.toArray.size false) = bs.toArray := by
    apply Array.ext_getElem?
    intro i
    rw [← hbs]
    rcases Nat.lt_or_ge i n with hi | hi
    · simp [un, hsz, hi]
    · simp [un]; simp at hsz; rw [List.getElem?_eq_none (by simpa using hi), Array.getElem?_eq_none (by simp; omega)]; rfl
  rw [e1]
  refine ⟨z ++ s, h, ms, ⟨ha.defers, by simp [zA, ha.size], fun t u hu => ?_⟩, Ends.drew hw, Hp.le_refl _, kw⟩
  rw [DY]
  rw [B9] at hu
  cases hl : lk z t with
  | some v =>
    rw [hl] at hu; cases hu
    have hlt : t < a.tmps.size := by rw [ha.size]; exact (hz2 t _ hl).1
    simp [hlt]
  | none => rw [hl] at hu; rw [ha.slots t u hu]; rfl
theorem AW {e : Entry} {id : Nat} {Q : Exit → Act → World → Prop} {s : Ay} {h : Hp} {ms : List Hp} {bs : List Bool} (m : List Bool) (hm : e.P.follows .mixedOrders = true) (hpu : HG (Gy m 0) l.toArray = true) (hbk : FZ l.toArray = true) (hn : l.length = n)
    (hbs : (List.range n).map (fun i => (Gy m 0).contains i) = bs) (k : CD e.P l e.n s h (fun z => WB e l.toArray Q h n bs.toArray (z ++ s) h ms) (Gy m 0) []) : WS e (.region id l.toArray true) Q s h ms :=
  fun a w ha hw => wp_region_any hm (Lf m hpu hbk hn hbs k a w ha hw)
theorem Seg.all {h : Hp} {p : Addr} {cs : List Value} (S : Seg h [] p cs) : ∀ i v, cs[i]? = some v → ∀ ms, Cell h ms (p.add i) v := fun i v hv ms => (S i v hv).any
end Go.Eng
namespace Go.Eng
open Go.RowKit
def TD (w : World) : Hp := fun g => w.heap[g]?
theorem Ue (w : World) : (TD w).inW w := fun _ _ e => e
theorem Ob {h : Hp} {w : World} (H : h.inW w) : h.le (TD w) := fun g o e => H g o e
theorem T4 (w : World) : St w (TD w) [] := ⟨Ue w, fun m hm => by simp at hm, fun m hm => by simp at hm, List.Pairwise.nil⟩
theorem CN {P : Program} {f : FuncId} {args : Array Value} {h : Hp} {ms : List Hp} {v : Value} (k : ∀ h', h.le h' → (∀ m ∈ ms, m.le h') → Dq P f args h' [] v) : Dq P f args h ms v := fun w hw =>
  k (TD w) (Ob hw.imm) (fun m hm => Ob (hw.own m hm)) w (T4 w)
section
variable {P : Program} {o : Oper} {s : Ay} {h : Hp} {ms : List Hp} {t u : TypeId} {x y : Operand} {a n : Nat}
theorem Nd (ho : o.op = .binOp .shr t x y u) {k : IntKind} (hx : ev s x = some (.int .i64 a)) (hy : ev s y = some (.int k n)) (hn : n ≤ 64) : OX P o s h ms (.int .i64 ((a / 2 ^ n : Nat) : Int)) :=
  BI fun ρ w hρ _ => by
    have h1 : ¬ ((n : Int) < 0) := by omega
    have h2 : min n 64 = n := Nat.min_eq_left hn
    have h3 : (a : Int).fdiv (2 ^ n) = ((a / 2 ^ n : Nat) : Int) := by
      rw [Int.fdiv_eq_ediv_of_nonneg _ (Int.le_of_lt (Int.pow_pos (by decide)))]; simp
    simp [execOp, ho, hρ _ _ hx, hρ _ _ hy, Op.shift, h1, IntKind.bits, h2, h3, go_sem]
theorem Vk (ho : o.op = .binOp .and t x y u) (hx : ev s x = some (.int .i64 a)) (hy : ev s y = some (.int .i64 1)) (ha : a < 9223372036854775808) : OX P o s h ms (.int .i64 ((a % 2 : Nat) : Int)) :=
  BI fun ρ w hρ _ => by
    have h3 : IntKind.i64.wrap (((BitVec.ofNat 64 a) &&& (BitVec.ofNat 64 1)).toNat : Int) = ((a % 2 : Nat) : Int) := by
      rw [BitVec.toNat_and, BitVec.toNat_ofNat, BitVec.toNat_ofNat, Nat.mod_eq_of_lt (by omega), Nat.mod_eq_of_lt (by omega), Nat.and_one_is_mod]
      exact C0 (by omega)
    simp [execOp, ho, hρ _ _ hx, hρ _ _ hy, Op.intBits, IntKind.bits, go_sem]
    exact h3
end
theorem Seg.ofLe {h : Hp} {g : Nat} {el : TypeId} {cs : List Value} (hl : (AX g el cs).le h) : Seg h [] ⟨g, 0, none⟩ cs := fun j u hu => ⟨by unfold Addr.add; split <;> rfl, cs.toArray, el, (0, 0), .inl (by
    rw [C2]
    exact hl _ _ (Hp.one_self _ _)), by rw [Dw]; simpa using hu⟩
theorem OO {h : Hp} {ms : List Hp} {v : Value} {sz n : Nat} {cs : List Value} (R : Rd h ms v sz n cs) {i j : Nat} (hi : i < n) : Bl (Ch sz v i j) = (Bl v).add (i * sz) := by
  obtain ⟨a, c, rfl, h1, h2, h3, h4⟩ := R.ex
  obtain ⟨q, rfl, _⟩ := h4 (by omega)
  unfold Ch
  simp only
  rw [if_neg (by omega)]
  rfl
section
open Go.Lin
variable {e : Entry} {Q : Exit → Act → World → Prop} {ops : Array Oper} {rest : List Oper} {o : Oper} {s : Ay} {h : Hp} {ms : List Hp}
theorem EW {el : TypeId} {m : Hp} {v : Value} {r c : Nat} {f : Nat → Nat → Int} {t : TypeId} {x y : Operand} {z : Value} {bytes : Nat} {a : Int} (i p j : Nat) (O : OwnL cI 1 el m v (mat r c f)) (hp : p < r) (hj : j < c) (ho : o.op = .store t x y) (hs : Elem e.P t 1 z bytes) (hx : ev s x = some (.pointer (some ((Bl (Ch 1 v (p * c) ((p + 1) * c))).add (j * 1))))) (hy : ev s y = some (.int .i64 a))
    (hm : ms[i]? = some m) (hd : o.dst = none) (hg : o.guard = none)
    (K : ∀ m', OwnL cI 1 el m' v (mat r c (DB f p j a)) → WL e ops Q rest s h (ms.set i m')) : WL e ops Q (o :: rest) s h ms := by
  have hl : p * c + j < (mat r c f).length := by rw [AY]; exact Cp hp hj
  have hl2 : p * c < (mat r c f).length := by omega
  rw [OO (O.rd (h := h) (ms := [m]) (List.Mem.head _)).rd hl2, A6, ← Nat.add_mul] at hx
  exact Bu i (p * c + j) O ho hs hx hy hm hl hd hg fun m' O' => K m' (by rw [C4 _ hj] at O'; exact O')
end
section
variable {P : Program} {o : Oper} {s : Ay} {h : Hp} {ms : List Hp} {t el : TypeId} {x y lo hi : Operand} {v : Value} {sz n : Nat} {cs : List Value} {z : Value} {bytes : Nat} {k k' : IntKind} {h1' : Hp} {ms1' : List Hp}
theorem Bo {i : Int} (j : Nat) (R : Rd h1' ms1' v sz n cs) (ho : o.op = .indexAddr t x y) (ht : P.underlying t = some (.slice el)) (hs : Elem P el sz z bytes) (hx : ev s x = some v) (hy : ev s y = some (.int k i)) (hi : i = (j : Int)) (hlt : j < n) : OX P o s h ms (.pointer (some ((Bl v).add (j * sz)))) := by
  obtain ⟨c, e, _⟩ := R.val (by omega)
  rw [e] at hx
  exact Dz j ho ht hs hx hy hi hlt
theorem CH (R : Rd h1' ms1' v sz n cs) (ho : o.op = .call { callee := .builtin .len, args := #[x], argTypes := #[t] }) (ht : P.underlying t = some (.slice el)) (hx : ev s x = some v) : OX P o s h ms (.int .i64 n) := by
  obtain ⟨a, c, rfl, _⟩ := R.ex
  exact Ml (ty := t) ho ht hx
theorem J6 {l r : Int} (i j : Nat) (R : Rd h1' ms1' v sz n cs) (ho : o.op = .slice t x (some lo) (some hi) none) (ht : P.underlying t = some (.slice el)) (hs : Elem P el sz z bytes) (hx : ev s x = some v) (hlo : ev s lo = some (.int k l)) (hhi : ev s hi = some (.int k' r)) (el' : l = (i : Int)) (er : r = (j : Int)) (h1 : i ≤ j) (h2 : j ≤ n) :
    OX P o s h ms (Ch sz v i j) := by
  obtain ⟨a, c, rfl, e2, e3, e4, e5⟩ := R.ex
  exact BI fun ρ w hρ _ => by
    have g1 : (0 : Int) ≤ l ∧ l ≤ (j : Int) := by omega
    have g2 : (0 : Int) ≤ r ∧ r ≤ (c : Int) := by omega
    have g3 : l.toNat = i := by omega
    have g4 : r.toNat = j := by omega
    simp [execOp, ho, hρ _ _ hx, hρ _ _ hlo, hρ _ _ hhi, Instr.sliceAt, Instr.slice, run_underlying ht, Instr.sliceBounds, Instr.sliceBound, asIntOf, g1, g2, g3, g4, hs.sizeOf, Ch]
theorem Lo {l : Int} (i : Nat) (R : Rd h1' ms1' v sz n cs) (ho : o.op = .slice t x (some lo) none none) (ht : P.underlying t = some (.slice el)) (hs : Elem P el sz z bytes) (hx : ev s x = some v) (hlo : ev s lo = some (.int k l)) (el' : l = (i : Int)) (h1 : i ≤ n) :
    OX P o s h ms (Ch sz v i n) := by
  obtain ⟨a, c, rfl, e2, e3, e4, e5⟩ := R.ex
  exact BI fun ρ w hρ _ => by
    have g1 : (0 : Int) ≤ l ∧ l ≤ (n : Int) := by omega
    have g3 : l.toNat = i := by omega
    simp [execOp, ho, hρ _ _ hx, hρ _ _ hlo, Instr.sliceAt, Instr.slice, run_underlying ht, Instr.sliceBounds, Instr.sliceBound, asIntOf, g1, g3, hs.sizeOf, Ch]
end
section
variable {e : Entry} {Q : Exit → Act → World → Prop} {ops : Array Oper} {rest : List Oper} {s : Ay} {h : Hp} {ms : List Hp} {c : Code} {a b : Hp}
theorem Fe (k : WL e ops Q rest s h (b :: a :: ms)) : WL e ops Q rest s h (a :: b :: ms) := TW (List.Perm.swap _ _ _) k
theorem Di (k : WS e c Q s h (b :: a :: ms)) : WS e c Q s h (a :: b :: ms) := Ea (List.Perm.swap _ _ _) k
theorem A9 {x : Exit} (k : NX e Q x s h (b :: a :: ms)) : NX e Q x s h (a :: b :: ms) := CF (List.Perm.swap _ _ _) k
theorem By {g : Nat} {el : TypeId} {cs : List Value} (i : Nat) (hm : ms[i]? = some (AX g el cs)) (k : ∀ h', h.le h' → Seg h' [] ⟨g, 0, none⟩ cs → WS e c Q s h' (ms.eraseIdx i)) : WS e c Q s h ms :=
  Ea (Cw hm) (AL k)
end
section
variable {e : Entry} {Q : Exit → Act → World → Prop} {s : Ay} {h : Hp} {ms : List Hp} {c : Code}
theorem Re (k : WS e c (Exit.noGoto Q) s h ms) : WS e (.scope c) Q s h ms := fun a w ha hw => wp_scope_straight (k a w ha hw)
theorem Kx (k : NX e Q .ret s h ms) : NX e (Exit.noGoto Q) .ret s h ms := fun a w ha hw => k a w ha hw
end
end Go.Eng
namespace Go.Eng
open Go.RowKit Go.Lin
variable {r c : Nat} {f : Nat → Nat → Int}
theorem Fh (l : List Int) : l.flatMap cI = l.map fun x => Value.int .i64 x := by
  induction l with
  | nil => rfl
  | cons a l ih => rw [List.flatMap_cons, ih]; rfl
theorem mat_at? {k : Nat} (hk : k < r * c) : (mat r c f)[k]? = some (f (k / c) (k % c)) := by
  unfold mat
  rw [List.getElem?_map, List.getElem?_range hk]
  rfl
theorem SH {p : Nat} {l : List Int} (hp : p < r) (hl : c ≤ l.length) : (mat r c f).take (p * c) ++ l.take c ++ (mat r c f).drop (p * c + c) = mat r c fun a b => if a = p then l.getD b 0 else f a b := by
  have h1 : (p + 1) * c ≤ r * c := Nat.mul_le_mul_right c hp
  rw [Nat.add_mul, Nat.one_mul] at h1
  have lA : ((mat r c f).take (p * c)).length = p * c := by rw [List.length_take, AY, Nat.min_eq_left (by omega)]
  have lB : (l.take c).length = c := by rw [List.length_take, Nat.min_eq_left hl]
  refine List.ext_getElem? fun k => ?_
  rw [List.append_assoc]
  by_cases hk : k < r * c
  · have hd : k / c * c + k % c = k := by rw [Nat.mul_comm]; exact Nat.div_add_mod k c
    have hm := (M9 hk).2
    rw [mat_at? hk]
    by_cases e1 : k < p * c
    · have : k / c ≠ p := fun e => by rw [e] at hd; omega
      rw [List.getElem?_append_left (by rw [lA]; exact e1), List.getElem?_take_of_lt e1, mat_at? hk, if_neg this]
    · rw [List.getElem?_append_right (by rw [lA]; omega), lA]
      by_cases e2 : k < p * c + c
      · have e3 : k / c = p := by
          rcases Nat.lt_trichotomy (k / c) p with h | h | h
          · have : (k / c + 1) * c ≤ p * c := Nat.mul_le_mul_right c h
            rw [Nat.add_mul, Nat.one_mul] at this; omega
          · exact h
          · have : (p + 1) * c ≤ k / c * c := Nat.mul_le_mul_right c h
            rw [Nat.add_mul, Nat.one_mul] at this; omega
        have e4 : k % c = k - p * c := by rw [e3] at hd; omega
        rw [List.getElem?_append_left (by rw [lB]; omega), List.getElem?_take_of_lt (by omega), if_pos e3, e4, List.getD_eq_getElem?_getD, List.getElem?_eq_getElem (by omega)]
        rfl
      · have : k / c ≠ p := fun e => by rw [e] at hd; omega
        rw [List.getElem?_append_right (by rw [lB]; omega), lB, List.getElem?_drop, show p * c + c + (k - p * c - c) = k by omega, mat_at? hk, if_neg this]
  · rw [List.getElem?_eq_none (by simp only [List.length_append, lA, lB, List.length_drop, AY]; omega), List.getElem?_eq_none (by rw [AY]; omega)]
section
variable {e : Entry} {Q : Exit → Act → World → Prop} {ops : Array Oper} {rest : List Oper} {o : Oper} {s : Ay} {h : Hp} {ms : List Hp}
theorem QO {t t2 el : TypeId} {m : Hp} {v u : Value} {d : Nat} {l : List Int} {x y : Operand} {z : Value} {bytes : Nat} (i p : Nat) (O : OwnL cI 1 el m v (mat r c f)) (hp : p < r) (hc : 0 < c) (R : RdL cI 1 h ms u l) (hl : c ≤ l.length) (ho : o.op = .call { callee := .builtin .copy, args := #[x, y], argTypes := #[t, t2] }) (ht : e.P.underlying t = some (.slice el)) (hs : Elem e.P el 1 z bytes)
    (hx : ev s x = some (Ch 1 v (p * c) ((p + 1) * c))) (hy : ev s y = some u) (hm : ms[i]? = some m) (hd : o.dst = some d) (hnd : Nat.blt d e.n = true) (hg : o.guard = none)
    (K : ∀ m', OwnL cI 1 el m' v (mat r c fun a b => if a = p then l.getD b 0 else f a b) → WL e ops Q rest ((d, .int .i64 c) :: s) h (ms.set i m')) : WL e ops Q (o :: rest) s h ms := by
  obtain ⟨⟨h1, h2⟩, hF⟩ := O
  have h3 : (p + 1) * c ≤ r * c := Nat.mul_le_mul_right c hp
  have h4 : (p + 1) * c = p * c + c := by rw [Nat.add_mul, Nat.one_mul]
  have hml : (mat r c f).length = r * c := AY _ _ _
  rcases h2 with ⟨rfl, h5, rfl⟩ | ⟨g, cap, spare, hv, hmm, h6, h7, h8⟩
  · rw [hml] at h5; omega
  · rw [hml] at h7 hv h1
    have hcap : ¬ cap = p * c := by omega
    subst hmm
    have hvs : Ch 1 v (p * c) ((p + 1) * c) = .slice (some ⟨g, p * c, none⟩) c (cap - p * c) := by
      rw [hv]
      unfold Ch
      simp only
      rw [if_neg hcap, show (p + 1) * c - p * c = c by omega]
      have : (⟨g, 0, none⟩ : Addr).add (p * c * 1) = ⟨g, p * c, none⟩ := by unfold Addr.add; split <;> simp_all
      simp only [Option.map_some, this]
    rw [hvs] at hx
    have hcs : ((mat r c f).flatMap cI).length = r * c := by rw [h1]; omega
    refine Q6 (n := c) i ho ht hs hx hy rfl R.rd (by omega) (by omega) hm (by rw [List.length_append]; omega) (fun a ha => by
      obtain ⟨b, _, hb⟩ := List.mem_flatMap.1 ha
      exact Cv b a hb) hd hnd hg (K _ ⟨⟨by rw [BL Br], .inr ⟨g, cap, spare, by rw [AY]; exact hv, ?_, ?_, by rw [AY]; exact h7, h8⟩⟩, hF⟩)
    · congr 1
      rw [← SH hp hl, Fh, Fh, Fh, List.map_append, List.map_append, List.map_take, List.map_take, List.map_drop]
      have hq : ((mat r c f).map fun x => Value.int .i64 x).length = r * c := by simp [AY]
      rw [List.take_append_of_le_length (by omega), List.drop_append_of_le_length (by omega), List.append_assoc, List.append_assoc, List.append_assoc]
    · rw [Fh, List.length_append, List.length_map, AY]
      rw [List.length_append, hcs] at h6
      exact h6
end
end Go.Eng
