/- The engine, part 8: what the program's tables say, in bundles; small forms. -/
import Derived.Test.YthdkhnjnhhofgaaEng7
set_option linter.unusedSimpArgs false
set_option linter.unusedVariables false
namespace Go.Eng
open Go.RowKit

/-- A field of a struct: where it lies. -/
structure Fld (P : Program) (t : TypeId) (i off : Nat) : Prop where
  ex : ∃ fs f n, P.underlying t = some (.struct fs) ∧ fs[i]? = some f ∧ f.offset = off ∧ ∀ w, (sizeOf f.type).run P w = .ok (n + 1) w
structure Strct (P : Program) (t : TypeId) (places : Array (Nat × Nat)) : Prop where
  ex : ∃ fs, P.underlying t = some (.struct fs) ∧ ∀ w, (fs.mapM fun f => do pure (f.offset, ← sizeOf f.type) : Sem (Array (Nat × Nat))).run P w = .ok places w

section
variable {P : Program} {o : Oper} {s : Slots} {h : Hp} {ms : List Hp} {t : TypeId} {x : Operand}
theorem ox_fieldF {i off : Nat} {p : Addr} (F : Fld P t i off) (ho : o.op = .fieldAddr t x i) (hx : ev s x = some (.pointer (some p))) : OX P o s h ms (.pointer (some (p.add off))) := by
  obtain ⟨fs, f, n, h1, h2, h3, h4⟩ := F.ex
  have := ox_field (h := h) (ms := ms) ho h1 h2 h4 hx
  rwa [h3] at this
theorem ox_buildS {sz : Nat} {z : Value} {bytes : Nat} {lp : List (Nat × Operand)} {vs : List (Nat × Value)} {places : Array (Nat × Nat)} (S : Strct P t places) (zl : List Value) (ps : List (Nat × List Value)) (vl : List Value) (ho : o.op = .build t lp.toArray) (hs : Elem P t sz z bytes) (hz : z.cells = zl.toArray)
    (hv : evp s lp = some vs) (hps : PourOK (places[·]?) zl.length vs ps) (hvl : pour zl ps = vl) : OX P o s h ms (.agg vl.toArray) := by
  obtain ⟨fs, h1, h2⟩ := S.ex
  exact ox_build zl ps vl ho h1 hs hz h2 hv hps hvl
end

/-- A result that lies in a variable. -/
theorem nx_retC {P : Program} {w0 : World} {h0 : Hp} {ms0 : List Hp} {n : Nat} {fn : Func} {post : Value → Hp → List Hp → Prop} {s : Slots} {h : Hp} {ms : List Hp} {t : Nat} {ty : TypeId} {p : Addr} {d : TypeDesc} {sz : Nat} {z : Value} {bytes : Nat} {vs : List Value}
    (hr : fn.results = #[.cell t ty]) (hv : lk s t = some (.pointer (some p))) (ht : P.underlying ty = some d) (hd : aggD d = true) (hs : Elem P ty sz z bytes) (hl : vs.length = sz) (hc : Seg h ms p vs) (hp : post (.agg vs.toArray) h ms) :
    NX ⟨P, w0, h0, ms0, n⟩ (bodyPost P fn (RP w0 h0 ms0 post)) .ret s h ms := fun a w ha hw => by
  have h1 : a.tmps[t]?.getD undef = .pointer (some p) := by rw [ha.slots t _ hv]; rfl
  have hag : (isAgg ty).run P w = .ok true w := by rw [run_isAgg ht, hd]
  have hc' : ∀ j v, vs[j]? = some v → w.cell? (p.add j) = some v := fun j v e => hw.st.cell (hc j v e)
  refine bodyPost_ret (v := .agg vs.toArray) ?_ ha.defers ⟨_, h, ms, rfl, hw, hp⟩
  subst hl
  simp [results, hr, h1, asAddr, loadVar, hag, hs.sizeOf, run_loadCells_list (P := P) w p vs hc']
theorem nx_retCn {P : Program} {w0 : World} {h0 : Hp} {ms0 : List Hp} {n : Nat} {fn : Func} {post : Value → Hp → List Hp → Prop} {s : Slots} {h : Hp} {ms : List Hp} {t : Nat} {ty : TypeId} {p : Addr} {d : TypeDesc} {v : Value}
    (hr : fn.results = #[.cell t ty]) (hv : lk s t = some (.pointer (some p))) (ht : P.underlying ty = some d) (hd : aggD d = false) (hc : Cell h ms p v) (hp : post v h ms) :
    NX ⟨P, w0, h0, ms0, n⟩ (bodyPost P fn (RP w0 h0 ms0 post)) .ret s h ms := fun a w ha hw => by
  have h1 : a.tmps[t]?.getD undef = .pointer (some p) := by rw [ha.slots t _ hv]; rfl
  have hag : (isAgg ty).run P w = .ok false w := by rw [run_isAgg ht, hd]
  refine bodyPost_ret (v := v) ?_ ha.defers ⟨_, h, ms, rfl, hw, hp⟩
  simp [results, hr, h1, asAddr, loadVar, hag, hw.st.cell hc]
end Go.Eng
namespace Go.Eng
section
variable {e : Entry} {Q : Exit → Act → World → Prop} {s : Slots} {h : Hp} {ms : List Hp} {m : Hp} {α : Type} {F : α → List Value} {sz : Nat} {el : TypeId} {v : Value} {l : List α} {ops : Array Oper}
/-- What was made is from here on immutable, and reads as it did. -/
theorem ws_freezeL {c : Code} (O : OwnL F sz el m v l) (k : ∀ h', h.le h' → RdL F sz h' [] v l → WS e c Q s h' ms) : WS e c Q s h (m :: ms) :=
  fun a w ha hw => k _ (Hp.le_join _ _) (O.frozen (hw.st.off m List.mem_cons_self)) a w ha (Ends.freeze hw)
theorem wl_freezeL {r : List Oper} (O : OwnL F sz el m v l) (k : ∀ h', h.le h' → RdL F sz h' [] v l → WL e ops Q r s h' ms) : WL e ops Q r s h (m :: ms) :=
  fun a w ha hw => k _ (Hp.le_join _ _) (O.frozen (hw.st.off m List.mem_cons_self)) a w ha (Ends.freeze hw)
theorem nx_freezeL {x : Exit} (O : OwnL F sz el m v l) (k : ∀ h', h.le h' → RdL F sz h' [] v l → NX e Q x s h' ms) : NX e Q x s h (m :: ms) :=
  fun a w ha hw => k _ (Hp.le_join _ _) (O.frozen (hw.st.off m List.mem_cons_self)) a w ha (Ends.freeze hw)
/-- The same for a block whose cells are known. -/
theorem ws_freezeB {c : Code} {g : Nat} {cs : List Value} (k : ∀ h', h.le h' → Seg h' [] ⟨g, 0, none⟩ cs → WS e c Q s h' ms) : WS e c Q s h (Blk g el cs :: ms) :=
  fun a w ha hw => k _ (Hp.le_join _ _) (fun j u hu => ⟨by unfold Addr.add; split <;> rfl, cs.toArray, el, (0, 0), .inl (by
    rw [addr_add_block]
    exact (Hp.join_le_right (hw.st.off _ List.mem_cons_self)) _ _ (Hp.one_self _ _)), by rw [addr_add_off]; simpa using hu⟩) a w ha (Ends.freeze hw)
theorem wl_freezeB {r : List Oper} {g : Nat} {cs : List Value} (k : ∀ h', h.le h' → Seg h' [] ⟨g, 0, none⟩ cs → WL e ops Q r s h' ms) : WL e ops Q r s h (Blk g el cs :: ms) :=
  fun a w ha hw => k _ (Hp.le_join _ _) (fun j u hu => ⟨by unfold Addr.add; split <;> rfl, cs.toArray, el, (0, 0), .inl (by
    rw [addr_add_block]
    exact (Hp.join_le_right (hw.st.off _ List.mem_cons_self)) _ _ (Hp.one_self _ _)), by rw [addr_add_off]; simpa using hu⟩) a w ha (Ends.freeze hw)
/-- Nothing more is owned than an empty part. -/
theorem ws_emp {c : Code} (k : WS e c Q s h (Hp.emp :: ms)) : WS e c Q s h ms := fun a w ha hw => k a w ha
  ⟨⟨hw.st.imm, fun m hm => by
      rcases List.mem_cons.1 hm with rfl | hm
      · intro g o e; cases e
      · exact hw.st.own m hm, fun m hm => by
      rcases List.mem_cons.1 hm with rfl | hm
      · exact fun _ => .inl rfl
      · exact hw.st.off m hm, List.pairwise_cons.2 ⟨fun _ _ _ => .inl rfl, hw.st.apart⟩⟩, hw.os, hw.tape, hw.output, hw.size, hw.block, hw.le, hw.hnew, fun m hm k hk hne => by
      rcases List.mem_cons.1 hm with rfl | hm
      · exact absurd rfl hne
      · exact hw.mnew m hm k hk hne⟩
end
theorem take_succ_filter {α : Type} (l : List α) (p : α → Bool) (k : Nat) (hk : k < l.length) : (l.take (k + 1)).filter p = (l.take k).filter p ++ if p l[k] then [l[k]] else [] := by
  rw [List.take_succ_eq_append_getElem hk, List.filter_append]
  by_cases h : p l[k] <;> simp [h]
end Go.Eng
