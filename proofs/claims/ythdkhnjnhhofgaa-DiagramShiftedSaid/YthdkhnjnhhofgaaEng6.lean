/- The engine, part 6: the steps over a region whose order is open. -/
import Derived.Test.YthdkhnjnhhofgaaEng5
set_option linter.unusedSimpArgs false
set_option linter.unusedVariables false
namespace Go.Eng
open Go.RowKit

section
variable {e : Entry} {ops : Array Oper} {Q : Exit → Act → World → Prop} {tl : List Oper} {h : Hp} {ms : List Hp} {l : List Oper} {o : Oper} {s : Slots} {q : List (Nat × VP)} {al : List (Nat × Nb)}

theorem Wants.plain (hg : o.guard = none) : Wants ops o s true := by unfold Wants; rw [hg]
theorem Wants.yes {j dj : Nat} {b : Bool} (hg : o.guard = some (j, b)) (hj : dstAt ops j = some dj) (hv : lk s dj = some (.bool b)) : Wants ops o s true := by
  unfold Wants; rw [hg]; exact .inl ⟨dj, b, hj, hv, by cases b <;> rfl⟩
theorem Wants.no {j dj : Nat} {b b' : Bool} (hg : o.guard = some (j, b)) (hj : dstAt ops j = some dj) (hv : lk s dj = some (.bool b')) (hne : (b' == b) = false) : Wants ops o s false := by
  unfold Wants; rw [hg]; exact .inl ⟨dj, b', hj, hv, hne.symm⟩
theorem Wants.nou {j dj : Nat} {b : Bool} (hg : o.guard = some (j, b)) (hj : dstAt ops j = some dj) (hv : lk s dj = some undef) : Wants ops o s false := by
  unfold Wants; rw [hg]; exact .inr ⟨dj, hj, hv, rfl⟩

theorem wr_x {d : Nat} {v : Value} (hx : OX e.P o s h ms v) (hd : o.dst = some d) (hg : o.guard = none) (k : WR e ops Q tl h ms l ((d, v) :: s) q al) : WR e ops Q tl h ms (o :: l) s q al :=
  .inl ⟨v, .inl ⟨.plain hg, hx⟩, by rw [hd]; exact k⟩
theorem wr_gx {d j dj : Nat} {b : Bool} {v : Value} (hx : OX e.P o s h ms v) (hd : o.dst = some d) (hg : o.guard = some (j, b)) (hj : dstAt ops j = some dj) (hv : lk s dj = some (.bool b)) (k : WR e ops Q tl h ms l ((d, v) :: s) q al) : WR e ops Q tl h ms (o :: l) s q al :=
  .inl ⟨v, .inl ⟨.yes hg hj hv, hx⟩, by rw [hd]; exact k⟩
theorem wr_skip {d j dj : Nat} {b b' : Bool} (hd : o.dst = some d) (hg : o.guard = some (j, b)) (hj : dstAt ops j = some dj) (hv : lk s dj = some (.bool b')) (hne : (b' == b) = false) (k : WR e ops Q tl h ms l ((d, undef) :: s) q al) : WR e ops Q tl h ms (o :: l) s q al :=
  .inl ⟨undef, .inr (.inr ⟨.no hg hj hv hne, rfl⟩), by rw [hd]; exact k⟩
theorem wr_skipu {d j dj : Nat} {b : Bool} (hd : o.dst = some d) (hg : o.guard = some (j, b)) (hj : dstAt ops j = some dj) (hv : lk s dj = some undef) (k : WR e ops Q tl h ms l ((d, undef) :: s) q al) : WR e ops Q tl h ms (o :: l) s q al :=
  .inl ⟨undef, .inr (.inr ⟨.nou hg hj hv, rfl⟩), by rw [hd]; exact k⟩
/-- An operation over values of which a property is known. -/
theorem wr_xq {d : Nat} {v : Value} (q' : List (Nat × VP)) (hq : ∀ p ∈ q', p ∈ q ∧ p.1 ∈ o.looksAt ops) (hx : ∀ h', h.le h' → ∀ val, SatQ q' val h' → OX e.P o (valQ q' val ++ s) h' ms v) (hd : o.dst = some d) (hg : o.guard = none) (k : WR e ops Q tl h ms l ((d, v) :: s) q al) : WR e ops Q tl h ms (o :: l) s q al :=
  .inl ⟨v, .inr (.inl ⟨.plain hg, q', hq, hx⟩), by rw [hd]; exact k⟩
theorem wr_p {d : Nat} (V : VP) (hm : Mono V) (hx : OPX e.P o s h ms V) (hd : o.dst = some d) (hg : o.guard = none) (k : WR e ops Q tl h ms l s (q ++ [(d, V)]) al) : WR e ops Q tl h ms (o :: l) s q al :=
  .inr (.inl ⟨V, ⟨.plain hg, hm, .inl hx⟩, by rw [hd]; exact k⟩)
theorem wr_pq {d : Nat} (V : VP) (hm : Mono V) (q' : List (Nat × VP)) (hq : ∀ p ∈ q', p ∈ q ∧ p.1 ∈ o.looksAt ops) (hx : ∀ h', h.le h' → ∀ val, SatQ q' val h' → OPX e.P o (valQ q' val ++ s) h' ms V) (hd : o.dst = some d) (hg : o.guard = none) (k : WR e ops Q tl h ms l s (q ++ [(d, V)]) al) : WR e ops Q tl h ms (o :: l) s q al :=
  .inr (.inl ⟨V, ⟨.plain hg, hm, .inr ⟨q', hq, hx⟩⟩, by rw [hd]; exact k⟩)
theorem wr_b {d : Nat} {x : Nb} (hx : ONB e.P o s h ms x) (hd : o.dst = some d) (hg : o.guard = none) (k : WR e ops Q tl h ms l s q (al ++ [(d, x)])) : WR e ops Q tl h ms (o :: l) s q al :=
  .inr (.inr ⟨x, ⟨.plain hg, ⟨d, hd⟩, hx⟩, by rw [hd]; exact k⟩)
theorem onb_alloc {P : Program} {t sz bytes : Nat} {z : Value} (zl : List Value) (ho : o.op = .alloc t) (hs : Elem P t sz z bytes) (hz : z.cells = zl.toArray) : ONB P o s h ms ((t, zl), fun g => .pointer (some ⟨g, 0, none⟩)) := fun ρ w hρ hw => by
  have : (execOp ρ o).run P w = .ok (.value (.pointer (some ⟨w.heap.size, 0, none⟩))) (w.alloc (.cells zl.toArray t)) := by
    simp [execOp, ho, Instr.alloc, hs.zeroValue, newVar, newRow, hz]
  unfold OpRes; rw [this]; exact ⟨rfl, rfl⟩
theorem onb_buildSlice1 {P : Program} {t el : TypeId} {sz : Nat} {z : Value} {bytes : Nat} {x : Operand} {v : Value} (zl : List Value) (ho : o.op = .buildSlice t 1 #[(0, x)]) (ht : P.underlying t = some (.slice el)) (hs : Elem P el sz z bytes) (hx : ev s x = some v) (hv : v.cells = zl.toArray) (hl : zl.length = sz) (hzs : z.cells.size = sz) (hsz : 0 < sz ∧ sz ≤ 1000) :
    ONB P o s h ms ((el, zl), fun g => .slice (some ⟨g, 0, none⟩) 1 1) := fun ρ w hρ hw => by
  have := run_buildSlice1 (P := P) zl ht hs hv hl hzs hsz w
  have : (execOp ρ o).run P w = .ok (.value (.slice (some ⟨w.heap.size, 0, none⟩) 1 1)) (w.alloc (.cells zl.toArray el)) := by
    simp [execOp, ho, hρ _ _ hx, this]
  unfold OpRes; rw [this]; exact ⟨rfl, rfl⟩

theorem wr_nil (k : WL e ops Q tl s h ms) : WR e ops Q tl h ms [] s [] [] := .inl ⟨rfl, fun _ => k⟩
theorem wr_nil1 {d t : Nat} {zl : List Value} {f : Nat → Value} (k : ∀ g, WL e ops Q tl ((d, f g) :: s) h (Blk g t zl :: ms)) : WR e ops Q tl h ms [] s [] [(d, ((t, zl), f))] := .inl ⟨rfl, fun γ => k (γ d)⟩
theorem wr_nilq {d : Nat} {V : VP} (k : ∀ h' v, h.le h' → V h' v → WL e ops Q tl ((d, v) :: s) h' ms) : WR e ops Q tl h ms [] s [(d, V)] [] :=
  .inr fun h' hl val _ hs => k h' (val d) hl (hs d V (List.mem_singleton.2 rfl))
theorem wr_nilq2 {d d2 : Nat} {V V2 : VP} (k : ∀ h' v v2, h.le h' → V h' v → V2 h' v2 → WL e ops Q tl ((d, v) :: (d2, v2) :: s) h' ms) : WR e ops Q tl h ms [] s [(d, V), (d2, V2)] [] :=
  .inr fun h' hl val _ hs => k h' (val d) (val d2) hl (hs d V (by simp)) (hs d2 V2 (by simp))
theorem wr_nil2 {d t d2 t2 : Nat} {zl zl2 : List Value} {f f2 : Nat → Value} (k : ∀ g g2, WL e ops Q tl ((d, f g) :: (d2, f2 g2) :: s) h (Blk g t zl :: Blk g2 t2 zl2 :: ms)) : WR e ops Q tl h ms [] s [] [(d, ((t, zl), f)), (d2, ((t2, zl2), f2))] := .inl ⟨rfl, fun γ => k (γ d) (γ d2)⟩
theorem wr_nilq1a {d d1 t : Nat} {V : VP} {zl : List Value} {f : Nat → Value} (k : ∀ h' v g, h.le h' → V h' v → WL e ops Q tl ((d, v) :: (d1, f g) :: s) h' (Blk g t zl :: ms)) : WR e ops Q tl h ms [] s [(d, V)] [(d1, ((t, zl), f))] :=
  .inr fun h' hl val γ hs => k h' (val d) (γ d1) hl (hs d V (List.mem_singleton.2 rfl))

theorem ev_ext {s s' : Slots} (he : ∀ t, lk s t = lk s' t) (x : Operand) : ev s x = ev s' x := by cases x <;> first | exact he _ | rfl
theorem Evs.ext {s s' : Slots} (he : ∀ t, lk s t = lk s' t) {ρ : Operand → Value} (H : Evs s' ρ) : Evs s ρ := fun x u hu => H x u (by rw [← ev_ext he]; exact hu)
theorem OX.ext {P : Program} {s s' : Slots} {v : Value} (he : ∀ t, lk s t = lk s' t) (H : OX P o s h ms v) : OX P o s' h ms v := fun ρ w hρ hw => H ρ w (Evs.ext he hρ) hw
theorem OPX.ext {P : Program} {s s' : Slots} {V : VP} (he : ∀ t, lk s t = lk s' t) (H : OPX P o s h ms V) : OPX P o s' h ms V := fun ρ w hρ hw => H ρ w (Evs.ext he hρ) hw
theorem lk_append_ext {s s' : Slots} (he : ∀ t, lk s t = lk s' t) (a : Slots) (t : Nat) : lk (a ++ s) t = lk (a ++ s') t := by rw [lk_append, lk_append, he]
theorem Wants.ext {s s' : Slots} {b : Bool} (he : ∀ t, lk s t = lk s' t) (H : Wants ops o s b) : Wants ops o s' b := by
  unfold Wants at *
  cases hg : o.guard with
  | none => simp only [hg] at H; exact H
  | some p => simp only [hg] at H; exact H.imp (fun ⟨dj, b', e1, e2, e3⟩ => ⟨dj, b', e1, by rw [← he]; exact e2, e3⟩) (fun ⟨dj, e1, e2, e3⟩ => ⟨dj, e1, by rw [← he]; exact e2, e3⟩)
theorem StpOK.ext {P : Program} {s s' : Slots} {st : Stp} (he : ∀ t, lk s t = lk s' t) (H : StpOK P ops h ms o s q st) : StpOK P ops h ms o s' q st := by
  rcases st with v | V | x
  · rcases H with ⟨h1, h2⟩ | ⟨h1, q', h2, h3⟩ | ⟨h1, h2⟩
    · exact .inl ⟨h1.ext he, OX.ext he h2⟩
    · exact .inr (.inl ⟨h1.ext he, q', h2, fun h' hl val hs => OX.ext (lk_append_ext he _) (h3 h' hl val hs)⟩)
    · exact .inr (.inr ⟨h1.ext he, h2⟩)
  · obtain ⟨h1, h2, h3⟩ := H
    refine ⟨h1.ext he, h2, ?_⟩
    rcases h3 with h3 | ⟨q', h3, h4⟩
    · exact .inl (OPX.ext he h3)
    · exact .inr ⟨q', h3, fun h' hl val hs => OPX.ext (lk_append_ext he _) (h4 h' hl val hs)⟩
  · exact ⟨H.1.ext he, H.2.1, fun ρ w hρ hw => H.2.2 ρ w (Evs.ext he hρ) hw⟩
theorem WL.ext {s s' : Slots} (he : ∀ t, lk s t = lk s' t) (H : WL e ops Q l s h ms) : WL e ops Q l s' h ms :=
  fun a w ha hw => H a w ⟨ha.defers, ha.size, fun i v hi => ha.slots i v (by rw [← he]; exact hi)⟩ hw
theorem WR.ext : ∀ (l : List Oper) (s s' : Slots) (q : List (Nat × VP)) (al : List (Nat × Nb)), (∀ t, lk s t = lk s' t) → WR e ops Q tl h ms l s q al → WR e ops Q tl h ms l s' q al
  | [], s, s', q, al, he, H => by
    rcases H with ⟨h1, h2⟩ | h2
    · exact .inl ⟨h1, fun γ => WL.ext (lk_append_ext he _) (h2 γ)⟩
    · exact .inr fun h' hl val γ hs => WL.ext (lk_append_ext (lk_append_ext he _) _) (h2 h' hl val γ hs)
  | o :: l, s, s', q, al, he, H => by
    rcases H with ⟨v, h1, h2⟩ | ⟨V, h1, h2⟩ | ⟨x, h1, h2⟩
    · refine .inl ⟨v, h1.ext he, WR.ext l _ _ _ _ ?_ h2⟩
      cases o.dst with
      | none => exact he
      | some d => exact fun t => lk_append_ext he [(d, v)] t
    · exact .inr (.inl ⟨V, h1.ext he, WR.ext l _ _ _ _ he h2⟩)
    · exact .inr (.inr ⟨x, h1.ext he, WR.ext l _ _ _ _ he h2⟩)

/-- A test is decided. -/
theorem wr_split {t : Nat} {p : Prop} {_ : Decidable p} (hc : lk s t = some (.bool (decide p))) (kt : p → WR e ops Q tl h ms l ((t, .bool true) :: s) q al) (kf : ¬ p → WR e ops Q tl h ms l ((t, .bool false) :: s) q al) : WR e ops Q tl h ms l s q al := by
  by_cases hp : p
  · refine WR.ext l _ _ _ _ (fun i => ?_) (kt hp)
    by_cases hi : t = i
    · subst hi; rw [lk_cons_self, hc]; simp [hp]
    · rw [lk_cons_ne _ _ hi]
  · refine WR.ext l _ _ _ _ (fun i => ?_) (kf hp)
    by_cases hi : t = i
    · subst hi; rw [lk_cons_self, hc]; simp [hp]
    · rw [lk_cons_ne _ _ hi]
theorem wr_splitb {t : Nat} {b : Bool} (hc : lk s t = some (.bool b)) (kt : b = true → WR e ops Q tl h ms l ((t, .bool true) :: s) q al) (kf : b = false → WR e ops Q tl h ms l ((t, .bool false) :: s) q al) : WR e ops Q tl h ms l s q al := by
  have e1 : decide (b = true) = b := by cases b <;> rfl
  exact wr_split (p := b = true) (by rw [hc, e1]) kt (fun hb => kf (by simpa using hb))

/-- A call whose result lies in memory, as a step. -/
theorem opx_call {P : Program} {f : FuncId} {args : Array Operand} {ts : Array TypeId} {vs : Array Value} {post : Value → Hp → List Hp → Prop} {V : VP} (ho : o.op = .call { callee := .value (.func f), args := args, argTypes := ts }) (hc : ∀ as w, (callFunc f as).run P w = .ok (.enter f as) w) (ha : ∀ ρ, Evs s ρ → args.map ρ = vs) (k : FnT P f vs h [] post) (hV : ∀ v h' ms', post v h' ms' → V h' v) : OPX P o s h ms V :=
  fun ρ w hρ hw => by
    have hev : ρ (.func f) = .func (.func f) #[] #[] := hρ _ _ rfl
    have : (execOp ρ o).run P w = .ok (.enter f vs) w := by simp [execOp, ho, resolve, hev, Deferred.ofValue, invoke, hc, ha ρ hρ]
    unfold OpRes; rw [this]
    exact (k w (hw.weaken (Hp.le_refl _) (List.nil_sublist _))).mono fun x w' ⟨r, h', ms', e1, e2, e3⟩ => ⟨r, e1, h', e2.le, e2.st.imm, fun j hj => e2.hnew j hj (by simp), e2.toExt, hV _ _ _ e3⟩
end
end Go.Eng
