/- The engine, part 12: guarded calls that hand over memory; copies. -/
import Derived.Test.YthdkhnjnhhofgaaEng11
import Derived.Laws.CopyRow
set_option linter.unusedSimpArgs false
set_option linter.unusedVariables false
namespace Go.Eng
open Go.RowKit
section
variable {e : Entry} {Q : Exit → Act → World → Prop} {ops : Array Oper} {rest : List Oper} {o : Oper} {s : Slots} {h : Hp} {ms : List Hp}
theorem wl_gcall_ {f : FuncId} {l : List Operand} {ts : Array TypeId} {vs : List Value} {d j dj : Nat} {b : Bool} {oj : Oper} {pre fr : List Hp} {post : Value → Hp → List Hp → Prop} (ho : o.op = .call { callee := .value (.func f), args := l.toArray, argTypes := ts }) (hc : ∀ as w, (callFunc f as).run e.P w = .ok (.enter f as) w) (ha : evs s l = some vs) (k : FnT e.P f vs.toArray h pre post) (hm : ms = pre ++ fr) (hd : o.dst = some d) (hn : Nat.blt d e.n = true) (hg : o.guard = some (j, b)) (hj : ops[j]? = some oj) (hdj : oj.dst = some dj) (hv : lk s dj = some (.bool b))
    (K : ∀ v h' pre', h.le h' → post v h' pre' → WL e ops Q rest ((d, v) :: s) h' (pre' ++ fr)) : WL e ops Q (o :: rest) s h ms := by
  subst hm
  exact wl_gt (ot_call ho hc ha k) hd hn hg hj hdj hv fun v h' ms' ⟨pre', e1, e2, e3⟩ => by subst e1; exact K v h' pre' e2 e3
theorem wl_gcallv_ {x : Operand} {f : FuncId} {l : List Operand} {ts : Array TypeId} {fs cs vs : List Value} {d j dj : Nat} {b : Bool} {oj : Oper} {pre fr : List Hp} {post : Value → Hp → List Hp → Prop} (ho : o.op = .call { callee := .value x, args := l.toArray, argTypes := ts }) (hx : ev s x = some (.func (.func f) fs.toArray cs.toArray)) (hc : ∀ as w, (callFunc f as).run e.P w = .ok (.enter f as) w) (ha : evs s l = some vs) (k : FnT e.P f (fs ++ vs ++ cs).toArray h pre post) (hm : ms = pre ++ fr) (hd : o.dst = some d) (hn : Nat.blt d e.n = true) (hg : o.guard = some (j, b)) (hj : ops[j]? = some oj) (hdj : oj.dst = some dj) (hv : lk s dj = some (.bool b))
    (K : ∀ v h' pre', h.le h' → post v h' pre' → WL e ops Q rest ((d, v) :: s) h' (pre' ++ fr)) : WL e ops Q (o :: rest) s h ms := by
  subst hm
  exact wl_gt (ot_callv ho hx hc ha k) hd hn hg hj hdj hv fun v h' ms' ⟨pre', e1, e2, e3⟩ => by subst e1; exact K v h' pre' e2 e3

/-- A copy into a block of the caller's own, from whatever can be read. -/
theorem wl_copyB {t t2 el : TypeId} {x y : Operand} {a : Addr} {g of dLen dCap sLen d n : Nat} {u z : Value} {bytes : Nat} {cs cur : List Value} (i : Nat) (ho : o.op = .call { callee := .builtin .copy, args := #[x, y], argTypes := #[t, t2] }) (ht : e.P.underlying t = some (.slice el)) (hs : Elem e.P el 1 z bytes)
    (hx : ev s x = some (.slice (some a) dLen dCap)) (hy : ev s y = some u) (ha : a = ⟨g, of, none⟩) (R : Rd h ms u 1 sLen cs) (h0 : 0 < sLen) (hn : n = min sLen dLen) (hm : ms[i]? = some (Blk g el cur)) (hfit : of + n ≤ cur.length) (h1 : ∀ c ∈ cs, c.oneCell' = true)
    (hd : o.dst = some d) (hnd : Nat.blt d e.n = true) (hg : o.guard = none) (K : WL e ops Q rest ((d, .int .i64 n) :: s) h (ms.set i (Blk g el (cur.take of ++ cs.take n ++ cur.drop (of + n))))) : WL e ops Q (o :: rest) s h ms := by
  subst ha
  obtain ⟨a, c, rfl, e2, e3, e4, e5⟩ := R.ex
  obtain ⟨q, rfl, hq⟩ := e5 h0
  have hl : (cs.take n).length = n := by rw [List.length_take, e4, Nat.mul_one]; omega
  refine wl_t (post := fun v h' ms' => v = .int .i64 n ∧ h' = h ∧ ms' = ms.set i (Blk g el (cur.take of ++ cs.take n ++ cur.drop (of + n)))) (fun ρ w hρ hw => ?_) hd hnd hg fun v h' ms' ⟨e1, e2, e3⟩ => by subst e1 e2 e3; exact K
  have hgw : w.heap[g]? = some (.cells cur.toArray el (0, 0)) := hw.st.own _ (List.mem_of_getElem? hm) g _ (Hp.one_self _ _)
  have hrun := run_copy_row (P := e.P) w t t2 o.type el g of dLen dCap q sLen c cur.toArray el (cs.take n) ht (by
    have := hs.sizeOf w
    cases hq' : e.P.info? el with
    | none => simp [Go.sizeOf, Go.typeInfo, hq', go_sem] at this
    | some inf => simp [Go.sizeOf, Go.typeInfo, hq', go_sem] at this; simp [this]) hgw (by rw [hl]; exact hn) (fun j v hv => hw.st.cell (hq j v (by
      rw [List.getElem?_take] at hv; split at hv; · exact hv
      · cases hv))) (by rw [hl]; simpa using hfit) (fun v hv => h1 v (List.mem_of_mem_take hv))
  rw [hl] at hrun
  have : (execOp ρ o).run e.P w = .ok (.value (.int .i64 n)) (w.setRow g (cur.take of ++ cs.take n ++ cur.drop (of + n)).toArray) := by
    simp [execOp, ho, hρ _ _ hx, hρ _ _ hy, resolve, invoke, builtin, hrun, goInt]
  unfold OpRes; rw [this]
  exact ⟨h, _, Ends.put hw hm rfl rfl rfl (by simp) (setRow_heap w g _ _ _ _ hgw) (fun j hj hne => setRow_other w g j _ hne), rfl, rfl, rfl⟩
end
section
variable {e : Entry} {Q : Exit → Act → World → Prop} {ops : Array Oper} {rest : List Oper} {s : Slots} {h : Hp} {ms : List Hp}
theorem perm_erase {α : Type} : ∀ (l : List α) (i : Nat) (x : α), l[i]? = some x → l.Perm (x :: l.eraseIdx i)
  | [], _, _, h => by cases h
  | a :: l, 0, x, h => by simp at h; subst h; exact List.Perm.refl _
  | a :: l, i + 1, x, h => by
    rw [List.eraseIdx_cons_succ]
    exact ((perm_erase l i x (by simpa using h)).cons a).trans (List.Perm.swap _ _ _)
/-- One of the blocks is from here on immutable. -/
theorem ws_freezeI {c : Code} {g : Nat} {el : TypeId} {cs : List Value} (i : Nat) (hm : ms[i]? = some (Blk g el cs)) (k : ∀ h', h.le h' → Seg h' [] ⟨g, 0, none⟩ cs → WS e c Q s h' (ms.eraseIdx i)) : WS e c Q s h ms :=
  ws_perm (perm_erase ms i _ hm) (ws_freezeB k)
theorem wl_freezeI {g : Nat} {el : TypeId} {cs : List Value} (i : Nat) (hm : ms[i]? = some (Blk g el cs)) (k : ∀ h', h.le h' → Seg h' [] ⟨g, 0, none⟩ cs → WL e ops Q rest s h' (ms.eraseIdx i)) : WL e ops Q rest s h ms :=
  wl_perm (perm_erase ms i _ hm) (wl_freezeB k)
theorem ws_freezeLI {c : Code} {α : Type} {F : α → List Value} {sz : Nat} {el : TypeId} {v : Value} {l : List α} {m : Hp} (i : Nat) (O : OwnL F sz el m v l) (hm : ms[i]? = some m) (k : ∀ h', h.le h' → RdL F sz h' [] v l → WS e c Q s h' (ms.eraseIdx i)) : WS e c Q s h ms :=
  ws_perm (perm_erase ms i _ hm) (ws_freezeL O k)
theorem wl_freezeLI {α : Type} {F : α → List Value} {sz : Nat} {el : TypeId} {v : Value} {l : List α} {m : Hp} (i : Nat) (O : OwnL F sz el m v l) (hm : ms[i]? = some m) (k : ∀ h', h.le h' → RdL F sz h' [] v l → WL e ops Q rest s h' (ms.eraseIdx i)) : WL e ops Q rest s h ms :=
  wl_perm (perm_erase ms i _ hm) (wl_freezeL O k)
end
end Go.Eng
