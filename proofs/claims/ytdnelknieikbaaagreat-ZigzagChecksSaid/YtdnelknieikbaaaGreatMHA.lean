/- Parts of the proof: Lo Eng39 Eng40 Eng41 Eng42 Eng43 Eng44 Uw Xn Xo Xp Vg Vh Vi Vj Vk Va Vb Vl Rs Uz Uy. -/
import Derived.Test.YtdnelknieikbaaaGreatTJ
set_option linter.unusedSimpArgs false
set_option linter.unusedVariables false
namespace Go.Eng
open Go.RowKit
section
variable {P : Program} {o : Oper} {s : Ay} {h : Hp} {ms : List Hp} {e : Entry} {Q : Exit → Act → World → Prop} {ops : Array Oper} {rest : List Oper}
end
end Go.Eng
namespace Go.Eng
open Go.RowKit Go.Lin
section
variable {e : Entry} {Q : Exit → Act → World → Prop} {ops : Array Oper} {rest : List Oper} {o : Oper} {s : Ay} {h : Hp} {ms : List Hp}
end
end Go.Eng
namespace Go.Eng
open Go.RowKit
theorem Lb {α : Type} {P E S vl : List α} {p off n : Nat} (hP : P.length = p) (hn : vl.length = n) (hE : off + n ≤ E.length) : (P ++ (E ++ S)).take (p + off) ++ vl ++ (P ++ (E ++ S)).drop (p + off + n) = P ++ ((E.take off ++ vl ++ E.drop (off + n)) ++ S) := by
  subst hP
  rw [Nat.add_assoc, List.take_length_add_append, List.drop_length_add_append, List.take_append_of_le_length (by omega), List.drop_append_of_le_length (by omega)]
  simp only [List.append_assoc]
section
variable {e : Entry} {Q : Exit → Act → World → Prop} {ops : Array Oper} {rest : List Oper} {o : Oper} {s : Ay} {h : Hp} {ms : List Hp} {α : Type} {F : α → List Value} {l : List α} {v : Value} {m : Hp} {el : TypeId} {sz : Nat}
theorem wl_storePart {t : TypeId} {x y : Operand} {u z : Value} {bytes n : Nat} (i j off : Nat) (a : α) (vl : List Value) (O : OwnL F sz el m v l) (ho : o.op = .store t x y) (hs : Elem e.P t n z bytes) (hx : ev s x = some (.pointer (some (((Bl v).add (j * sz)).add off)))) (hy : ev s y = some u) (hv : u.cells = vl.toArray) (hl : vl.length = n) (h1 : ∀ c ∈ vl, c.oneCell' = true)
    (hm : ms[i]? = some m) (hj : j < l.length) (hoff : off + n ≤ sz) (hFa : F a = (F l[j]).take off ++ vl ++ (F l[j]).drop (off + n)) (hd : o.dst = none) (hg : o.guard = none)
    (K : ∀ m', OwnL F sz el m' v (l.set j a) → WL e ops Q rest s h (ms.set i m')) : WL e ops Q (o :: rest) s h ms := by
  obtain ⟨⟨h2, h3⟩, hF⟩ := O
  rcases h3 with ⟨rfl, h4, rfl⟩ | ⟨g, cap, spare, rfl, rfl, e1, e2, e3⟩
  · rw [h4] at hj; simp at hj
  · have hle : (j + 1) * sz ≤ l.length * sz := Nat.mul_le_mul_right sz hj
    have hjs : (j + 1) * sz = j * sz + sz := by rw [Nat.add_mul, Nat.one_mul]
    have hx' : ev s x = some (.pointer (some ((⟨g, 0, none⟩ : Addr).add (j * sz + off)))) := by
      rw [hx]
      show some (Value.pointer (some (((⟨g, 0, none⟩ : Addr).add (j * sz)).add off))) = _
      rw [A6]
    have hP : ((l.take j).flatMap F).length = j * sz := by rw [BL hF, List.length_take, Nat.min_eq_left (Nat.le_of_lt hj)]
    have hsp : l.flatMap F ++ spare = (l.take j).flatMap F ++ (F l[j] ++ ((l.drop (j + 1)).flatMap F ++ spare)) := by
      have e0 : l.flatMap F = (l.take j).flatMap F ++ (F l[j] ++ (l.drop (j + 1)).flatMap F) := by
        have e1 : l = l.take j ++ l[j] :: l.drop (j + 1) := by rw [← List.drop_eq_getElem_cons hj, List.take_append_drop]
        have e2 := congrArg (fun q => q.flatMap F) e1
        simp only [List.flatMap_append, List.flatMap_cons] at e2
        exact e2
      rw [e0]; simp only [List.append_assoc]
    have hst : (l.set j a).flatMap F ++ spare = (l.take j).flatMap F ++ (F a ++ ((l.drop (j + 1)).flatMap F ++ spare)) := by
      rw [List.set_eq_take_append_cons_drop, if_pos hj, List.flatMap_append, List.flatMap_cons]; simp only [List.append_assoc]
    have hlen : (l.flatMap F ++ spare).length = l.length * sz + spare.length := by rw [List.length_append, BL hF]
    refine L7 i (j * sz + off) vl ho hs hx' hy hv hl h1 hm (by omega) hd hg ?_
    have key : (l.flatMap F ++ spare).take (j * sz + off) ++ vl ++ (l.flatMap F ++ spare).drop (j * sz + off + n) = (l.set j a).flatMap F ++ spare := by
      rw [hsp, hst, hFa]
      exact Lb hP hl (by rw [hF]; exact hoff)
    rw [key]
    refine K _ ⟨⟨?_, .inr ⟨g, cap, spare, by rw [List.length_set], rfl, ?_, by rw [List.length_set]; omega, e3⟩⟩, hF⟩
    · rw [BL hF, List.length_set]
    · rw [List.length_append, BL hF, List.length_set, ← BL hF l, ← List.length_append]; exact e1
end
end Go.Eng
namespace Go.Eng
open Go.RowKit
variable {c : Code}
def Hp.rm (m : Hp) (g : Nat) : Hp := fun k => if k = g then none else m k
theorem Hp.rm_disj (m : Hp) (g : Nat) (o : Obj) : (Hp.one g o).disj (m.rm g) := fun k => by
  unfold Hp.one Hp.rm
  by_cases h : k = g
  · exact .inr (if_pos h)
  · exact .inl (if_neg h)
theorem Hp.rm_join {m : Hp} {g : Nat} {o : Obj} (h : m g = some o) : (Hp.one g o).join (m.rm g) = m := by
  funext k
  unfold Hp.join Hp.one Hp.rm
  by_cases e : k = g
  · subst e; rw [if_pos rfl, h]
  · rw [if_neg e, if_neg e]
theorem wl_gs {e : Entry} {Q : Exit → Act → World → Prop} {s : Ay} {h : Hp} {ms ms' : List Hp} {ops : Array Oper} {l : List Oper} (g : Goes ms ms') (k : WL e ops Q l s h ms') : WL e ops Q l s h ms := fun a w ha hw => k a w ha (g _ _ _ _ _ hw)
theorem ws_gs {e : Entry} {Q : Exit → Act → World → Prop} {s : Ay} {h : Hp} {ms ms' : List Hp} (g : Goes ms ms') (k : WS e c Q s h ms') : WS e c Q s h ms := fun a w ha hw => k a w ha (g _ _ _ _ _ hw)
section
variable {e : Entry} {Q : Exit → Act → World → Prop} {ops : Array Oper} {rest : List Oper} {o : Oper} {s : Ay} {h : Hp} {ms : List Hp}
end
theorem ws_frz {e : Entry} {Q : Exit → Act → World → Prop} {s : Ay} {h : Hp} {ms : List Hp} {m : Hp} (k : ∀ h', h.le h' → m.le h' → WS e c Q s h' ms) : WS e c Q s h (m :: ms) :=
  fun a w ha hw => k _ (Hp.le_join _ _) (Hp.join_le_right (hw.st.off m List.mem_cons_self)) a w ha (Ends.freeze hw)
theorem Goes.drp (a : Hp) (ms : List Hp) : Goes (a :: ms) ms := fun _ _ _ _ _ x => x.drop
theorem ws_drp {e : Entry} {Q : Exit → Act → World → Prop} {s : Ay} {h : Hp} {ms : List Hp} {m : Hp} (k : WS e c Q s h ms) : WS e c Q s h (m :: ms) := ws_gs (Goes.drp m ms) k
end Go.Eng
namespace Go.Eng
open Go.RowKit
variable {el : TypeId} {m : Hp} {p : Int → Prop} {v : Value}
def IsZ (p : Int → Prop) (l : List Value) (k : Nat) : Prop := ∃ n, l[k]? = some (.int .i64 n) ∧ p n
def SimZ (p : Int → Prop) (el : TypeId) (m m' : Hp) : Prop := ∀ g o, m g = some o → m' g = some o ∨ ∃ l l' : List Value, o = .cells l.toArray el (0, 0) ∧ m' g = some (.cells l'.toArray el (0, 0)) ∧ l'.length = l.length ∧ ∀ k, IsZ p l k → IsZ p l' k
theorem SimZ.refl (p : Int → Prop) (el : TypeId) (m : Hp) : SimZ p el m m := fun _ _ h => .inl h
theorem SimZ.trans {a b c : Hp} (h1 : SimZ p el a b) (h2 : SimZ p el b c) : SimZ p el a c := fun g o ho => by
  rcases h1 g o ho with h | ⟨l, l', rfl, h, e, hk⟩
  · exact h2 g o h
  · rcases h2 g _ h with h' | ⟨l2, l3, e2, h', e3, hk'⟩
    · exact .inr ⟨l, l', rfl, h', e, hk⟩
    · have : l' = l2 := by
        injection e2 with e2 _ _
        exact Array.toList_inj.2 e2
      subst this
      exact .inr ⟨l, l3, rfl, h', by rw [e3, e], fun k h => hk' k (hk k h)⟩
theorem SimZ.put {g : Nat} {l : List Value} (h : m g = some (.cells l.toArray el (0, 0))) (k : Nat) {n : Int} (hn : p n) : SimZ p el m ((AX g el (l.set k (.int .i64 n))).join (m.rm g)) := fun g' o ho => by
  by_cases e : g' = g
  · subst e
    rw [h] at ho
    refine .inr ⟨l, l.set k (.int .i64 n), (Option.some.inj ho).symm, ?_, List.length_set, fun j ⟨x, hx, hp⟩ => ?_⟩
    · show (AX _ _ _ : Hp).join _ _ = _
      unfold Hp.join AX Hp.one
      rw [if_pos rfl]
    · unfold IsZ
      by_cases ej : k = j
      · subst ej
        have hl : k < l.length := (List.getElem?_eq_some_iff.1 hx).1
        exact ⟨n, by rw [List.getElem?_set_self hl], hn⟩
      · exact ⟨x, by rw [List.getElem?_set_ne ej]; exact hx, hp⟩
  · refine .inl ?_
    show (AX _ _ _ : Hp).join _ _ = _
    unfold Hp.join AX Hp.one Hp.rm
    rw [if_neg e, if_neg e]; exact ho
theorem blk_le {g : Nat} {l : List Value} (h : m g = some (.cells l.toArray el (0, 0))) : (AX g el l).le m := fun g' o ho => by
  unfold AX Hp.one at ho
  split at ho
  · rename_i e; subst e; rw [h]; exact ho
  · cases ho
theorem OwnL.simz {m0 y : Hp} {u : Value} {c : List Int} (O : OwnL cI 1 el y u c) (hc : ∀ x ∈ c, p x) (hy : y.le m0) (hs : SimZ p el m0 m) : ∃ y' c', y'.le m ∧ OwnL cI 1 el y' u c' ∧ c'.length = c.length ∧ ∀ x ∈ c', p x := by
  have O0 := O
  obtain ⟨⟨h2, h3⟩, hF⟩ := O
  rcases h3 with ⟨rfl, h4, rfl⟩ | ⟨g, cap, spare, rfl, rfl, e1, e2, e3⟩
  · exact ⟨Hp.emp, c, (fun g o h => nomatch h), O0, rfl, hc⟩
  · have hg := hy g _ (Hp.one_self _ _)
    rcases hs g _ hg with h | ⟨l, l', e, h, el2, hk⟩
    · exact ⟨_, c, blk_le h, O0, rfl, hc⟩
    · have e0 : c.flatMap cI ++ spare = l := by
        injection e with e _ _
        exact Array.toList_inj.2 e
      have hlen : (c.flatMap cI ++ spare).length = c.length * 1 + spare.length := by rw [List.length_append, BL hF]
      have hex : ∀ k, ∃ n, k < c.length → l'[k]? = some (.int .i64 n) ∧ p n := fun k => by
        by_cases h : k < c.length
        · obtain ⟨n, hn⟩ := hk k ⟨c[k], by
            rw [← e0]
            have := Ey hF c k h 0 (.int .i64 c[k]) rfl
            rw [List.getElem?_append_left (by rw [BL hF]; omega)]
            simpa using this, hc _ (List.getElem_mem h)⟩
          exact ⟨n, fun _ => hn⟩
        · exact ⟨0, fun h' => absurd h' h⟩
      obtain ⟨f, hf⟩ := Classical.axiomOfChoice hex
      have hl' : l'.length = c.length + spare.length := by rw [el2, ← e0, hlen]; omega
      have hsplit : l' = ((List.range c.length).map f).flatMap cI ++ l'.drop c.length := by
        refine List.ext_getElem? fun k => ?_
        have hL : (((List.range c.length).map f).flatMap cI).length = c.length := by rw [BL hF]; simp
        by_cases h : k < c.length
        · rw [(hf k h).1, List.getElem?_append_left (by rw [hL]; exact h)]
          have := Ey hF ((List.range c.length).map f) k (by simpa using h) 0 (.int .i64 (f k)) (by simp [cI])
          simpa using this.symm
        · rw [List.getElem?_append_right (by rw [hL]; omega), hL, List.getElem?_drop]
          congr 1; omega
      refine ⟨AX g el l', (List.range c.length).map f, blk_le h, ⟨⟨?_, .inr ⟨g, cap, l'.drop c.length, by simp, ?_, ?_, by simpa using e2, e3⟩⟩, hF⟩, by simp, fun x hx => ?_⟩
      · rw [BL hF]
      · rw [← hsplit]
      · have := e1
        rw [← hsplit, hl']
        rw [hlen] at this; omega
      · obtain ⟨k, hk, rfl⟩ := List.mem_map.1 hx
        exact (hf k (List.mem_range.1 hk)).2
section
variable {e : Entry} {Q : Exit → Act → World → Prop} {ops : Array Oper} {rest : List Oper} {o : Oper} {s : Ay} {h : Hp} {ms : List Hp}
theorem wl_storeZ {t : TypeId} {x y : Operand} {z : Value} {bytes : Nat} {m0 u0 : Hp} {c : List Int} {n : Int} (k : Nat) (O : OwnL cI 1 el u0 v c) (hc : ∀ x ∈ c, p x) (hn : p n) (hu : u0.le m0) (hS : SimZ p el m0 m) (ho : o.op = .store t x y) (hs : Elem e.P t 1 z bytes) (hx : ev s x = some (.pointer (some ((Bl v).add (k * 1))))) (hy : ev s y = some (.int .i64 n))
    (hk : k < c.length) (hd : o.dst = none) (hg : o.guard = none)
    (K : ∀ m', SimZ p el m0 m' → WL e ops Q rest s h (m' :: ms)) : WL e ops Q (o :: rest) s h (m :: ms) := by
  obtain ⟨y', c', hy', O', hl, _⟩ := O.simz hc hu hS
  obtain ⟨⟨h2, h3⟩, hF⟩ := O'
  rcases h3 with ⟨rfl, h4, rfl⟩ | ⟨g, cap, spare, rfl, rfl, e1, e2, e3⟩
  · rw [h4] at hl; omega
  · have hg0 := hy' g _ (Hp.one_self _ _)
    have ej := Hp.rm_join hg0
    have hgo : Goes (m :: ms) (AX g el (c'.flatMap cI ++ spare) :: m.rm g :: ms) := by
      have := Goes.part (Hp.rm_disj m g (.cells (c'.flatMap cI ++ spare).toArray el (0, 0))) ms
      rw [ej] at this; exact this
    refine wl_gs hgo (AK 0 (k * 1) ho hs hx hy rfl rfl rfl ?_ hd hg ?_)
    · rw [List.length_append, BL hF, hl]; omega
    · exact wl_gs (Goes.join _ _ _) (K _ (hS.trans (SimZ.put hg0 _ hn)))
end
theorem OwnL.rdm {α : Type} {F : α → List Value} {sz : Nat} {y h : Hp} {ms : List Hp} {l : List α} (O : OwnL F sz el y v l) (hy : y.le m) (hm : m ∈ ms) : RdL F sz h ms v l := by
  obtain ⟨⟨h1, h2⟩, hF⟩ := O
  refine ⟨?_, hF⟩
  rcases h2 with ⟨rfl, h4, rfl⟩ | ⟨g, cap, spare, rfl, rfl, e1, e2, e3⟩
  · rw [h4] at h1 ⊢
    exact ⟨none, 0, rfl, Nat.le_refl _, by omega, h1, fun h => by omega⟩
  · refine ⟨_, cap, rfl, e2, e3, h1, fun _ => ⟨_, rfl, fun j v hv => ?_⟩⟩
    refine ⟨by unfold Addr.add; split <;> rfl, (l.flatMap F ++ spare).toArray, el, (0, 0), .inr ⟨m, hm, hy _ _ ?_⟩, ?_⟩
    · rw [C2]; exact Hp.one_self _ _
    · have e : ((⟨g, 0, none⟩ : Addr).add j).off = j := by rw [QS]
      rw [e, List.getElem?_toArray, List.getElem?_append_left (List.getElem?_eq_some_iff.1 hv).1]; exact hv
theorem OwnL.pre {α : Type} {F : α → List Value} {sz : Nat} {l : List α} (O : OwnL F sz el m v l) {n : Nat} (hn : n ≤ l.length) : OwnL F sz el m (Ch sz v 0 n) (l.take n) := by
  obtain ⟨⟨h1, h2⟩, hF⟩ := O
  have hl : (l.take n).length = n := by rw [List.length_take]; omega
  refine ⟨⟨BL hF _, ?_⟩, hF⟩
  rcases h2 with ⟨rfl, h4, rfl⟩ | ⟨g, cap, spare, rfl, rfl, e1, e2, e3⟩
  · have : n = 0 := by omega
    subst this
    exact .inl ⟨rfl, by simp, rfl⟩
  · have hv : Ch sz (.slice (some ⟨g, 0, none⟩) l.length cap) 0 n = .slice (some ⟨g, 0, none⟩) n cap := by
      unfold Ch
      by_cases h0 : cap = 0
      · subst h0; rfl
      · show Value.slice (if cap = 0 then _ else _) (n - 0) (cap - 0) = _
        rw [if_neg h0, Nat.zero_mul]
        rfl
    have hsp : l.flatMap F = (l.take n).flatMap F ++ (l.drop n).flatMap F := by rw [← List.flatMap_append, List.take_append_drop]
    refine .inr ⟨g, cap, (l.drop n).flatMap F ++ spare, by rw [hl]; exact hv, by rw [← List.append_assoc, ← hsp], by rw [← List.append_assoc, ← hsp]; exact e1, by rw [hl]; omega, e3⟩
end Go.Eng
namespace Go.Eng
open Go.RowKit
section
variable {P : Program} {o : Oper} {s : Ay} {h : Hp} {ms : List Hp} {t u el : TypeId} {x y lo hi : Operand} {v : Value} {sz n : Nat} {cs : List Value} {z : Value} {bytes : Nat} {k k' : IntKind} {h1' : Hp} {ms1' : List Hp} {a b : Bool}
theorem ox_sliceShC {r : Int} (j : Nat) (R : Rd h1' ms1' v sz n cs) (ho : o.op = .slice t x none (some hi) none) (ht : P.underlying t = some (.slice el)) (hs : Elem P el sz z bytes) (hx : ev s x = some v) (hhi : ev s hi = some (.int k r)) (er : r = (j : Int)) (h2 : j ≤ n) :
    OX P o s h ms (Ch sz v 0 j) := by
  obtain ⟨a, c, rfl, e2, e3, e4, e5⟩ := R.ex
  exact BI fun ρ w hρ _ => by
    have g2 : (0 : Int) ≤ r ∧ r ≤ (c : Int) := by omega
    have g4 : r.toNat = j := by omega
    simp [execOp, ho, hρ _ _ hx, hρ _ _ hhi, Instr.sliceAt, Instr.slice, run_underlying ht, Instr.sliceBounds, Instr.sliceBound, asIntOf, g2, g4, hs.sizeOf, Ch]
theorem ox_eqbC (ho : o.op = .binOp .eql t x y u) (ht : P.underlying t = some .bool) (hx : ev s x = some (.bool a)) (hy : ev s y = some (.bool b)) : OX P o s h ms (.bool (decide (a = b))) :=
  BI fun ρ w hρ _ => by simp [execOp, ho, hρ _ _ hx, hρ _ _ hy, go_sem, run_eql_bool _ _ _ _ ht]; cases a <;> cases b <;> rfl
end
end Go.Eng
set_option maxRecDepth 100000
set_option maxHeartbeats 4000000
namespace Go.Proofs.YtdnelknieikbaaaGreat
open Go.Proofs.Tryz
open Go.Eng Go.RowKit Go.Lin Go.Sort Go.Srt
theorem frank_w (p : Int) (r c : Nat) (f : Nat → Nat → Int) (ev : Value) (h : Hp) (R : RtM p r c f) (hR : RdL cI 1 h [] ev (mat r c f)) (ms : List Hp) : Dq Tryz.prog 96 #[.agg #[.int .i64 p, .int .i64 r, .int .i64 c, ev]] h ms (.int .i64 (VF p r c f)) :=
 Ds ((R5 p r c f ev h R hR).mono fun x h' ms' ⟨_, _, F, pv, e, hE⟩ => by rw [e, MS R.pr.fld hE]) ms
theorem cols_inw {Z : Zz} {l : List SV} {n : Nat} (Fp : Lin.Fld Z.p) {k : Nat} (hn : cnt l.length ((Fj l).on k) = n) : Ind Z.p n tt n (fun t i => IH l k t i) ↔ Ind Z.p l.length ((Fj l).on k) n fun t => (Fj l).vec t k := by
 subst hn
 exact ⟨fun h => FJ (L := Df l.length ((Fj l).on k)) (v := fun t => (Fj l).vec t k) (List.Perm.refl _) h, fun h => FB (v := fun t => (Fj l).vec t k) (List.Perm.refl _) h⟩
theorem vector_w (s : SV) (k : Nat) (h : Hp) (hW : RdW h s) (hL : s.Long) (hk : k ≤ 1000) (ms : List Hp) : Dq Tryz.prog 66 #[.agg #[.int .i64 s.e.fr, .int .i64 s.e.to, s.e.v], .int .i64 k] h ms (.tuple #[s.vv k, .bool (decide (s.on k))]) := by
 refine Ds ?_ ms
 have ov := s.e.one
 have hl := hW.l.len_le
 have hL1 := hL.1
 have hL2 := hL.2
 have hle := hW.len
 refine Av func66 ntmps66 rfl rfl (fun w0 hw0 => ?_)
 simp only [A4]
 refine Ax ?_
 refine AS [_, _, _] rfl rfl (by rfl) rfl rfl rfl (fun g2 => ?_)
 refine Qm rfl (Qm rfl (Aq (AL fun h1 l1 hS => ?_)))
 have hW := hW.up l1
 have hA := Seg.all hS
 have hA0 := hA 0 _ rfl
 refine Ac (Ax (Qm rfl (Qf E0 rfl (Ql rfl underlying3 (hA0 _) (Qm rfl (Qm rfl ?_))))))
 refine AR (t := 10) rfl (fun h1 => ?_) (fun h1 => ?_)
 ·refine Qk rfl (Qk rfl (Qk rfl (Qk rfl (Qm rfl (Aq (AU rfl (Ax (Qm rfl (Qm rfl (Aq (Ao (Ae ?_))))))))))))
  exact FX rfl rfl rfl (by rw [show s.vv k = .slice none 0 0 from if_neg (fun ho => by have := ho.1; omega), decide_eq_false (fun ho : s.on k => by have := ho.1; omega)])
 ·refine Qg (As rfl rfl) rfl (Qg (oF Fd rfl) rfl (Qg (oL rfl underlying3 (hA _ _ rfl _)) rfl (Qg (Dd rfl rfl rfl) rfl (Qm rfl (Aq ?_)))))
  refine AF rfl (fun h2 => ?_) (fun h2 => ?_)
  ·refine Ac (Ad (Qm rfl (Qm rfl (Aq (Ao (Ae ?_))))))
   exact FX rfl rfl rfl (by rw [show s.vv k = .slice none 0 0 from if_neg (fun ho => by have := ho.2; omega), decide_eq_false (fun ho : s.on k => by have := ho.2; omega)])
  ·have ho : s.on k := ⟨by omega, by omega⟩
   have hix := SV.ix hL ho
   have hc := hW.cell hix
   refine Ai (Ab (Ax (Qf CY rfl (Ql rfl underlying62 (hA _ _ rfl _) (Qm rfl (Qf E0 rfl (Ql rfl underlying3 (hA0 _) (Qx (oS rfl) rfl (Qx (Ah (k - s.e.fr.toNat) hW.l.rd.any rfl underlying62 BN rfl rfl (by omega) (by omega)) rfl (Ql rfl underlying24 (hc _) (Qm rfl (Qm rfl (Aq (Ao ?_))))))))))))))
   exact FX rfl rfl rfl (by rw [show s.vv k = s.es.getD (k - s.e.fr.toNat) undef from if_pos ho, decide_eq_true ho])
end Go.Proofs.YtdnelknieikbaaaGreat
namespace Go.Proofs.YtdnelknieikbaaaGreat
open Go.Proofs.Tryz
open Go.Eng Go.RowKit Go.Lin Go.Sort Go.Srt
theorem equal_v (la lb : List Int) (va vb : Value) (h : Hp) (hA : RdL cI 1 h [] va la) (hB : RdL cI 1 h [] vb lb) (ms : List Hp) : Dq Tryz.prog 68 #[va, vb] h ms (.bool (decide (la = lb))) := by
 refine Ds ?_ ms
 have l1 := hA.len_le
 have l2 := hB.len_le
 refine Av func68 ntmps68 rfl rfl (fun w0 hw0 => ?_)
 simp only [A4]
 refine Ax (Qm rfl (Aq (Ac (Ax (Qm rfl (Qx (AJ hA.rd.any rfl underlying24 rfl) rfl (Qm rfl (Qx (AJ hB.rd.any rfl underlying24 rfl) rfl (Qm rfl (Aq ?_))))))))))
 refine AF rfl (fun hlen => ?_) (fun hlen => ?_)
 ·refine Ac (Ad (Qm rfl (Aq (Ao (Ae ?_)))))
  exact Am rfl rfl (by rw [decide_eq_false]; rintro rfl; exact hlen rfl)
 ·have hlen : la.length = lb.length := by omega
  refine Ai (Ab (Ac (Ax (Qm rfl (Qx (AJ hA.rd.any rfl underlying24 rfl) rfl (Qm rfl (Aq (Ag ?_))))))))
  refine AD (fun q s h' ms' => ∃ (k : Nat), q = la.length - k ∧ s = [(0, va), (1, vb), (12, .int .i64 la.length), (13, .int .i64 k)] ∧ h = h' ∧ ms' = [] ∧ k ≤ la.length ∧ la.take k = lb.take k)
   (la.length - 0) _ ⟨0, rfl, rfl, rfl, rfl, by omega, rfl⟩ Qs ?_
  rintro q s h' ms' ⟨k, rfl, rfl, rfl, rfl, hk, hno⟩
  refine Ax (Qm rfl (Aq (Ac ?_)))
  refine AF rfl (fun hlt => ?_) (fun hlt => ?_)
  ·have k1 : k < la.length := Bx hlt
   have k2 : k < lb.length := by omega
   refine Ai (Ab (Ac (Ag (Ax (Qm rfl (Qm rfl (Aq (Ac (BB 8 Cd (by kernel_rfl) rfl (Wm rfl (Wm rfl (AV (Ah (k) hA.rd.any rfl underlying24 A8 rfl rfl (by omega) (by omega)) rfl rfl (Wl rfl underlying3 (hA.any.cell0 k1 rfl) (Wm rfl (Wm rfl (AV (Ah (k) hB.rd.any rfl underlying24 A8 rfl rfl (by omega) (by omega)) rfl rfl (Wl rfl underlying3 (hB.any.cell0 k2 rfl) (BC (Qm rfl (Aq ?_))))))))))))))))))))
   refine AF rfl (fun hne => ?_) (fun hne => ?_)
   ·refine Ac (Ad (Qm rfl (Aq (Ao (Ap (Ae (Ae (Ap (Ae ?_)))))))))
    exact Am rfl rfl (by rw [decide_eq_false]; rintro rfl; exact hne rfl)
   ·refine Ai (Aj (Ab (Ad (Qx (oA rfl) rfl (Qm rfl (Ak ?_))))))
    refine Al (la.length - (k + 1)) _ (by omega) ⟨k + 1, rfl, rfl, rfl, rfl, by omega, ?_⟩ Qs
    rw [List.take_add_one, List.take_add_one, hno, List.getElem?_eq_getElem k1, List.getElem?_eq_getElem k2, Decidable.not_not.1 hne]
  ·refine Aw (Aa (Aa (Af (Ab (Ax (Qm rfl (Aq (Ao ?_))))))))
   exact Am rfl rfl (by rw [decide_eq_true]; rwa [List.take_of_length_le (by omega), List.take_of_length_le (by omega)] at hno)
theorem shp1_v (g : Nat) (n p : Int) (h : Hp) (hD : ∀ ms, Cell h ms ((⟨g, 0, none⟩ : Addr).add 0) (.int .i64 p)) (ms : List Hp) : Dq Tryz.prog 95 ([] ++ [Value.int .i64 n] ++ [Value.pointer (some ⟨g, 0, none⟩)]).toArray h ms (.bool (decide (n < 0 ∨ p ≤ n))) := by
 refine Ds ?_ ms
 show FnT _ _ #[.int .i64 n, .pointer (some ⟨g, 0, none⟩)] _ _ _
 refine Av func95 ntmps95 rfl rfl (fun w0 hw0 => ?_)
 simp only [A4]
 refine Ax (Qm rfl (B3 (Qm rfl (Qm rfl (Qm rfl ?_)))))
 refine AR (t := 6) rfl (fun hs => ?_) (fun hs => ?_)
 ·refine Qk rfl (Qk rfl (Qk rfl (Qk rfl (Qm rfl (Qm rfl (Aq (Ao ?_)))))))
  exact Am rfl rfl (by rw [decide_eq_true]; exact .inl hs)
 ·refine Qg (As rfl rfl) rfl (Qg (oF CG rfl) rfl (Qg (oL rfl underlying3 (hD _)) rfl (Qg (DU rfl rfl rfl) rfl (Qm rfl (Qm rfl (Aq (Ao ?_)))))))
  exact Am rfl rfl (by congr 1; rw [decide_eq_decide]; omega)
theorem shaped_v (Z : Zz) (vd va : Value) (l : List SV) (vl : Value) (h : Hp) (hRt : Z.Rt) (hR : RdZ h vd va Z) (hL : RdSs h vl l) (ms : List Hp) : Dq Tryz.prog 63 #[.agg #[.int .i64 Z.p, vd, va], vl] h ms (.bool (bl (∀ s ∈ l, s.Shp Z))) := by
 refine Ds ?_ ms
 have o1 := hR.d.rd.one
 have o2 := hR.a.rd.one
 have n1 := hRt.2.1
 refine Av func63 ntmps63 rfl rfl (fun w0 hw0 => ?_)
 simp only [A4]
 refine Ax ?_
 refine AS [_, _, _] rfl rfl (by rfl) rfl rfl rfl (fun g2 => ?_)
 refine Qm rfl (Aq (AL fun h1 l1 hS2 => ?_))
 have hR := hR.up l1
 have hL := hL.up l1
 refine Ac (Ax (Qm rfl (Qx (AJ hL.q.rd.any rfl underlying60 rfl) rfl (Qm rfl (Aq (Ag ?_))))))
 refine AD (fun q sl hh ms' => ∃ (t : Nat), q = l.length - t ∧ sl = [(2, .pointer (some ⟨g2, 0, none⟩)), (9, vl), (10, .int .i64 l.length), (11, .int .i64 t)] ∧ h1.le hh ∧ ms' = [] ∧ t ≤ l.length ∧ ∀ t' (ht : t' < l.length), t' < t → l[t'].Shp Z)
  (l.length - 0) _ ⟨0, rfl, rfl, Hp.le_refl _, rfl, by omega, fun t' _ h => by omega⟩ Qs ?_
 rintro q sl hh ms' ⟨t, rfl, rfl, lh, rfl, ht, hno⟩
 have hR := hR.up lh
 have hL := hL.up lh
 have hS2 := hS2.le lh
 refine Ax (Qm rfl (Aq (Ac ?_)))
 refine AF rfl (fun hlt => ?_) (fun hlt => ?_)
 ·have htl : t < l.length := Bx hlt
  have hmem := List.getElem_mem htl
  have hW := hL.w _ hmem
  have hle := hW.len
  have hql := hL.q.len_le
  have ov := l[t].e.one
  have hseg : ∀ ms, Seg hh ms ((Bl vl).add (t * 3)) (VZ l[t]) := fun ms => (hL.q.any (ms := ms)).seg htl
  refine Ai (Ab (Ac (Ag (Ax (Qx (Ah _ hL.q.rd.any rfl underlying60 BP rfl rfl rfl (by omega)) rfl (Qx (oG rfl underlying64 BP (hseg _)) rfl (BZ [.int .i64 0, .int .i64 0, .slice none 0 0] rfl BP rfl rfl (fun g6 => ?_))))))))
  refine Sa 0 [_, _, _] BP rfl (by simp [ov]) ?_
  refine Aq (AL fun h3 l3 hS6 => ?_)
  have hR := hR.up l3
  have hW := hW.up l3
  have hA := Seg.all (hS2.le l3)
  have hA0 := hA 0 _ rfl
  have hB := Seg.all hS6
  have hB0 := hB 0 _ rfl
  have hll := hW.l.len_le
  refine Ac (Ax (Qf E0 rfl (Ql rfl underlying3 (hB0 _) (Qm rfl (Qm rfl ?_)))))
  refine AR (t := 18) rfl (fun hs1 => ?_) (fun hs1 => ?_)
  ·refine Qk rfl (Qk rfl (Qk rfl (Qk rfl (Qk rfl (Qm rfl (Qm rfl (Qk rfl (Qk rfl (Qk rfl (Qk rfl (Qk rfl (Qk rfl (Qm rfl (Qm rfl (Qk rfl (Qk rfl (Qk rfl (Qk rfl (Qk rfl (Qk rfl (Qk rfl (Qk rfl (Qk rfl (Qk rfl (Qm rfl (Aq (AU rfl (Ax (Qm rfl (Aq (Ao (Ae (Ap (Ae (Ae (Ap (Ae ?_)))))))))))))))))))))))))))))))))))))
   exact Am rfl rfl (by rw [E6]; intro h; have := (h _ hmem).1; omega)
  ·refine Qg (oF E0 rfl) rfl (Qg (oL rfl underlying3 (hB0 _)) rfl (Qg (oF Fd rfl) rfl (Qg (oL rfl underlying3 (hB _ _ rfl _)) rfl (Qg (Dd rfl rfl rfl) rfl (Qm rfl (Qm rfl ?_))))))
   refine AR (t := 25) rfl (fun hs2 => ?_) (fun hs2 => ?_)
   ·refine Qk rfl (Qk rfl (Qk rfl (Qk rfl (Qk rfl (Qk rfl (Qm rfl (Qm rfl (Qk rfl (Qk rfl (Qk rfl (Qk rfl (Qk rfl (Qk rfl (Qk rfl (Qk rfl (Qk rfl (Qk rfl (Qm rfl (Aq (AU rfl (Ax (Qm rfl (Aq (Ao (Ae (Ap (Ae (Ae (Ap (Ae ?_))))))))))))))))))))))))))))))
    exact Am rfl rfl (by rw [E6]; intro h; have := (h _ hmem).2.1; omega)
   ·refine Qg (oF Fd rfl) rfl (Qg (oL rfl underlying3 (hB _ _ rfl _)) rfl (Qg (oF Bn rfl) rfl (Qg (oL rfl underlying24 (hA _ _ rfl _)) rfl (Qg (AJ hR.d.rd.any rfl underlying24 rfl) rfl (Qg (DU rfl rfl rfl) rfl (Qm rfl (Qm rfl ?_)))))))
    refine AR (t := 33) rfl (fun hs3 => ?_) (fun hs3 => ?_)
    ·refine Qk rfl (Qk rfl (Qk rfl (Qk rfl (Qk rfl (Qk rfl (Qk rfl (Qk rfl (Qk rfl (Qk rfl (Qm rfl (Aq (AU rfl (Ax (Qm rfl (Aq (Ao (Ae (Ap (Ae (Ae (Ap (Ae ?_))))))))))))))))))))))
     exact Am rfl rfl (by rw [E6]; intro h; have := (h _ hmem).2.2.1; omega)
    ·refine Qg (oF CY rfl) rfl (Qg (oL rfl underlying62 (hB _ _ rfl _)) rfl (Qg (AJ hW.l.rd.any rfl underlying62 rfl) rfl (Qg (oF Fd rfl) rfl (Qg (oL rfl underlying3 (hB _ _ rfl _)) rfl (Qg (oF E0 rfl) rfl (Qg (oL rfl underlying3 (hB0 _)) rfl (Qg (oS rfl) rfl (Qg (oA rfl) rfl (Qg (B4 rfl rfl rfl) rfl (Qm rfl (Aq ?_)))))))))))
     refine AF rfl (fun hs4 => ?_) (fun hs4 => ?_)
     ·refine Ac (Ad (Qm rfl (Aq (Ao (Ae (Ap (Ae (Ae (Ap (Ae ?_))))))))))
      exact Am rfl rfl (by rw [E6]; intro h; have := (h _ hmem).2.2.2.1; omega)
     ·have hlen : (l[t].vs.length : Int) = l[t].e.to - l[t].e.fr + 1 := by omega
      refine Ai (Ab (Ax (Qf CY rfl (Ql rfl underlying62 (hB _ _ rfl _) (Qx (AJ hW.l.rd.any rfl underlying62 rfl) rfl (Qm rfl (Aq (Ag ?_))))))))
      refine AD (fun q sl hh ms' => ∃ (j : Nat), q = l[t].es.length - j ∧ sl = [(2, .pointer (some ⟨g2, 0, none⟩)), (6, .pointer (some ⟨g6, 0, none⟩)), (9, vl), (10, .int .i64 l.length), (11, .int .i64 t), (46, l[t].e.v), (47, .int .i64 l[t].es.length), (48, .int .i64 j)] ∧ h3 = hh ∧ ms' = [] ∧ j ≤ l[t].es.length ∧ ∀ j', j' < j → ((l[t].vs.getD j' []).length : Int) = Z.dim (l[t].e.fr.toNat + j') ∧ ∀ x ∈ l[t].vs.getD j' [], 0 ≤ x ∧ x < Z.p)
       (l[t].es.length - 0) _ ⟨0, rfl, rfl, rfl, rfl, by omega, fun j' h => by omega⟩ Qs ?_
      rintro q sl hh ms' ⟨j, rfl, rfl, rfl, rfl, hj, hno2⟩
      refine Ax (Qm rfl (Aq (Ac ?_)))
      refine AF rfl (fun hlt2 => ?_) (fun hlt2 => ?_)
      ·have hjl : j < l[t].vs.length := by omega
       have hc := hW.cell hjl
       have hRj := hW.r j hjl
       have hk : l[t].e.fr.toNat + j < Z.dims.length := by omega
       refine Ai (Ab (Ac (Ag (Ax (Qm rfl (Qx (Ah (j) hW.l.rd.any rfl underlying62 BN rfl rfl (by omega) (by omega)) rfl (Ql rfl underlying24 (hc _) (Qm rfl (Qm rfl (B3 (Qm rfl (Qx (AJ hRj.rd.any rfl underlying24 rfl) rfl (Qf Bn rfl (Ql rfl underlying24 (hA _ _ rfl _) (Qf E0 rfl (Ql rfl underlying3 (hB0 _) (Qm rfl (Qx (oA rfl) rfl (Qx (Ah (l[t].e.fr.toNat + j) hR.d.rd.any rfl underlying24 A8 rfl rfl (by omega) (by omega)) rfl (Ql rfl underlying3 (H8 hR hk) (Qm rfl (Qm rfl ?_))))))))))))))))))))))
       refine AR (t := 64) rfl (fun h5 => ?_) (fun h5 => ?_)
       ·refine Qk rfl (Qk rfl (Qk rfl (Qm rfl (Aq (AU rfl (Ax (Qm rfl (Aq (Ao (Ap (Ae (Ae (Ap (Ap (Ae (Ae (Ap (Ae ?_))))))))))))))))))
        exact Am rfl rfl (by rw [E6]; intro h; exact h5 ((h _ hmem).2.2.2.2 j hjl).1)
       ·refine Qg (As rfl rfl) rfl (Qg (CE rfl rfl rfl) rfl (Qg (AG rfl call94 rfl (Ds (Ft (l[t].vs.getD j []) (l[t].es.getD j undef) 95 [.pointer (some ⟨g2, 0, none⟩)] (fun n => decide (n < 0 ∨ Z.p ≤ n)) h3 hRj call95 (fun b _ ms => shp1_v g2 b Z.p h3 (hA 0 _ rfl) ms)) _)) rfl (Qm rfl (Aq ?_))))
        refine BJ rfl (fun h6 => ?_) (fun h6 => ?_)
        ·refine Ac (Ad (Qm rfl (Aq (Ao (Ap (Ae (Ae (Ap (Ap (Ae (Ae (Ap (Ae ?_)))))))))))))
         exact Am rfl rfl (by rw [E6]; intro h; obtain ⟨x, hx, h7⟩ := List.any_eq_true.1 h6; have := ((h _ hmem).2.2.2.2 j hjl).2 x hx; have := of_decide_eq_true h7; omega)
        ·refine Ai (Aj (Ab (Ad (Qx (oA rfl) rfl (Qm rfl (Ak ?_))))))
         refine Al (l[t].es.length - (j + 1)) _ (by omega) ⟨j + 1, rfl, rfl, rfl, rfl, by omega, fun j' hj' => ?_⟩ Qs
         rcases (by omega : j' < j ∨ j' = j) with h | rfl
         ·exact hno2 j' h
         ·refine ⟨Decidable.not_not.1 h5, fun x hx => ?_⟩
          have := List.any_eq_false.1 h6 x hx
          have : ¬ (x < 0 ∨ Z.p ≤ x) := fun h => this (decide_eq_true h)
          omega
      ·have hs : l[t].Shp Z := ⟨by omega, by omega, by omega, hlen, fun j' hj' => hno2 j' (by omega)⟩
       refine Aw (Aa (Aa (Af (Aj (Ab (Ad (Qx (oA rfl) rfl (Qm rfl (Ak ?_)))))))))
       refine Al (l.length - (t + 1)) _ (by omega) ⟨t + 1, rfl, rfl, Hp.le_trans lh l3, rfl, by omega, fun t' ht' h => ?_⟩ Qs
       rcases (by omega : t' < t ∨ t' = t) with h | rfl
       ·exact hno t' ht' h
       ·exact hs
 ·refine Aw (Aa (Aa (Af (Ab (Ax (Qm rfl (Aq (Ao ?_))))))))
  exact Am rfl rfl (by rw [Jf]; intro s hs; obtain ⟨t', ht', rfl⟩ := List.mem_iff_getElem.1 hs; exact hno t' ht' (by omega))
end Go.Proofs.YtdnelknieikbaaaGreat
namespace Go.Proofs.YtdnelknieikbaaaGreat
open Go.Proofs.Tryz
open Go.Eng Go.RowKit Go.Lin Go.Sort Go.Srt
variable {l : List SV} {k : Nat}
def hereL (l : List SV) (k n : Nat) : List Value := (Df n ((Fj l).on k)).map fun t => (l.getD t default).vv k
theorem hereL_yes {n : Nat} (h : (Fj l).on k n = true) : hereL l k (n + 1) = hereL l k n ++ [(l.getD n default).vv k] := by
 unfold hereL
 rw [EP, h]
 simp
theorem hereL_no {n : Nat} (h : (Fj l).on k n = false) : hereL l k (n + 1) = hereL l k n := by
 unfold hereL
 rw [EP, h]
 simp
theorem hereL_len (l : List SV) (k n : Nat) : (hereL l k n).length = cnt n ((Fj l).on k) := by unfold hereL cnt; rw [List.length_map]
theorem hereL_rd {Z : Zz} (hRt : Z.Rt) (hS : ∀ s ∈ l, s.Shp Z) {h : Hp} {v : Value} (hR : RdL cV 1 h [] v (hereL l k l.length)) (hW : ∀ s ∈ l, RdW h s) : RdV h v (cnt l.length ((Fj l).on k)) (Z.zg.d k) (IH l k) := by
 refine ⟨hereL l k l.length, hereL_len l k _, hR, fun j hj => ?_⟩
 have hj' : j < (Df l.length ((Fj l).on k)).length := by rw [hereL_len] at hj; exact hj
 have hm : (Df l.length ((Fj l).on k)).getD j 0 ∈ Df l.length ((Fj l).on k) := by simp [List.getD, hj']
 obtain ⟨h1, h2⟩ := RZ hS (Nat.le_refl _) hm
 have hsh := hS _ (List.getElem_mem h1)
 have h3 := (hsh.row hRt h2).1
 have h4 := (hW _ (List.getElem_mem h1)).vv hsh.long h2
 have e : (hereL l k l.length)[j] = l[(Df l.length ((Fj l).on k)).getD j 0].vv k := by
  have e2 : (Df l.length ((Fj l).on k))[j] = (Df l.length ((Fj l).on k)).getD j 0 := by simp [List.getD, hj']
  have e5 : (hereL l k l.length)[j]? = some ((l.getD (Df l.length ((Fj l).on k))[j] default).vv k) := by
   unfold hereL
   rw [List.getElem?_map, List.getElem?_eq_getElem hj']; rfl
  rw [List.getElem?_eq_getElem hj, e2, Et h1] at e5
  exact Option.some.inj e5
 rw [e]
 have e3 := I2 (l[(Df l.length ((Fj l).on k)).getD j 0].at_ k)
 rw [h3] at e3
 rw [e3] at h4
 have e4 : vec (Z.zg.d k) (IH l k j) = vec (Z.zg.d k) fun i => (l[(Df l.length ((Fj l).on k)).getD j 0].at_ k).getD i 0 := BA fun i _ => by
  unfold IH
  rw [Et h1]
 rw [e4]
 exact h4
theorem bases_ok (Z : Zz) (vd va : Value) (l : List SV) (vl : Value) (h : Hp) (hRt : Z.Rt) (hR : RdZ h vd va Z) (hL : RdSs h vl l) (hS : ∀ s ∈ l, s.Shp Z) (hN : l.length ≤ 1000000) :
  FnT Tryz.prog 64 #[.agg #[.int .i64 Z.p, vd, va], vl] h [] (fun r _ _ => r = .bool (bl (∀ k, k < Z.dims.length → OK Z l k))) := by
 have o1 := hR.d.rd.one
 have o2 := hR.a.rd.one
 have hp := hRt.2.2.2.1
 have hbp := hp.1
 have hbp2 := hp.2.1
 have n1 := hRt.2.1
 refine Av func64 ntmps64 rfl rfl (fun w0 hw0 => ?_)
 simp only [A4]
 refine Ax ?_
 refine AS [_, _, _] rfl rfl (by rfl) rfl rfl rfl (fun g2 => ?_)
 refine Qm rfl (Aq (AL fun h1 l1 hS2 => ?_))
 have hR := hR.up l1
 have hL := hL.up l1
 have hA := Seg.all hS2
 have hA0 := hA 0 _ rfl
 refine Ac (Ax (Qf Bn rfl (Ql rfl underlying24 (hA _ _ rfl _) (Qx (AJ hR.d.rd.any rfl underlying24 rfl) rfl (Qm rfl (Aq (Ag ?_)))))))
 refine AD (fun q sl hh ms' => ∃ (k : Nat), q = Z.dims.length - k ∧ sl = [(1, vl), (2, .pointer (some ⟨g2, 0, none⟩)), (13, vd), (14, .int .i64 Z.dims.length), (15, .int .i64 k)] ∧ h1.le hh ∧ ms' = [] ∧ k ≤ Z.dims.length ∧ ∀ k', k' < k → OK Z l k')
  (Z.dims.length - 0) _ ⟨0, rfl, rfl, Hp.le_refl _, rfl, by omega, fun k' h => by omega⟩ Qs ?_
 rintro q sl hh ms' ⟨k, rfl, rfl, lh, rfl, hk, hno⟩
 have hR := hR.up lh
 have hL := hL.up lh
 have hS2 := hS2.le lh
 refine Ax (Qm rfl (Aq (Ac ?_)))
 refine AF rfl (fun hlt => ?_) (fun hlt => ?_)
 ·have hkl : k < Z.dims.length := by omega
  have hd := Z.d_le hRt k
  have hdk : ∀ ms, Cell hh ms ((Bl vd).add (k * 1)) (.int .i64 (Z.zg.d k)) := fun ms => by
   rw [Z.zg_d hRt k]
   exact H8 hR hkl
  refine Ai (Ab (Ac (Ag (Ax (Qm rfl (Qx (Ah (k) hR.d.rd.any rfl underlying24 A8 rfl rfl (by omega) (by omega)) rfl (Ql rfl underlying3 (hdk _) (Qm rfl (Qm rfl (B3 (Qm rfl (Aq (Ac (Ax (Qm rfl (Qx (AJ hL.q.rd.any rfl underlying60 rfl) rfl (Qm rfl (Aq (Ag (BX ?_))))))))))))))))))))
  refine AD (fun q sl h2 ms' => ∃ (i : Nat) (vo : Value) (mo : Hp), q = l.length - i ∧ sl = [(1, vl), (2, .pointer (some ⟨g2, 0, none⟩)), (13, vd), (14, .int .i64 Z.dims.length), (15, .int .i64 k), (5, .int .i64 k), (6, .int .i64 (Z.zg.d k)), (7, vo), (20, vl), (21, .int .i64 l.length), (22, .int .i64 i)] ∧ hh.le h2 ∧ ms' = [mo] ∧ i ≤ l.length ∧ OwnL cV 1 24 mo vo (hereL l k i))
   (l.length - 0) _ ⟨0, _, _, rfl, rfl, Hp.le_refl _, rfl, by omega, OwnL.nil BK⟩ Qs ?_
  rintro q sl h2 ms' ⟨i, vo, mo, rfl, rfl, lh2, rfl, hi, hOx⟩
  have hR := hR.up lh2
  have hL := hL.up lh2
  have hS2 := hS2.le lh2
  refine Ax (Qm rfl (Aq (Ac ?_)))
  refine AF rfl (fun hlt2 => ?_) (fun hlt2 => ?_)
  ·have hil : i < l.length := Bx hlt2
   have hmem : l[i] ∈ l := List.getElem_mem hil
   have hsh := hS _ hmem
   have ov := l[i].e.one
   have hseg : ∀ ms, Seg h2 ms ((Bl vl).add (i * 3)) (VZ l[i]) := fun ms => (hL.q.any (ms := ms)).seg hil
   have hon := IX hS hil k
   have hln := hereL_len l k i
   have hcl := QK i ((Fj l).on k)
   refine Ai (Ab (Ac (Ag (Ax (Qx (Ah _ hL.q.rd.any rfl underlying60 BP rfl rfl rfl (by omega)) rfl (Qx (oG rfl underlying64 BP (hseg _)) rfl (BZ [.int .i64 0, .int .i64 0, .slice none 0 0] rfl BP rfl rfl (fun g9 => ?_))))))))
   refine Sa 0 [_, _, _] BP rfl (by simp [ov]) ?_
   refine Aq (AL fun h3 l3 hS9 => ?_)
   have hW := (hL.w _ hmem).up l3
   have hvo := hW.vv_one hsh.long k
   refine Ax (Qx (oG rfl underlying64 BP (Seg.any hS9)) rfl (Qm rfl (Qx (AG rfl call66 rfl (vector_w l[i] k h3 hW hsh.long (by omega) _)) rfl (Qm rfl (Qm rfl (Qm rfl (Qm rfl (Qm rfl (B3 (Qm rfl (Aq ?_)))))))))))
   refine AF rfl (fun hc => ?_) (fun hc => ?_)
   ·have hRv := hW.vv hsh.long hc
    rw [decide_eq_true hc] at hon
    have e1 := hereL_yes hon
    rw [Et hil] at e1
    refine Ad (Qm rfl (Qm rfl (AB [_] rfl underlying62 BN rfl ((RdL.rd ‹_›).cells) rfl rfl (by omega) rfl rfl rfl (fun g35 => ?_))))
    refine Ba 1 hOx (RdL.one BK (x := l[i].vv k) (List.Mem.head _) rfl) rfl underlying62 BN rfl (by omega) rfl rfl rfl (Cj hvo) (by simp only [List.length_singleton]; omega) (by simp only [List.length_singleton]; omega) rfl rfl rfl (fun xe2 mx2 hOx2 => ?_)
    refine Qm rfl (Ak (Aj (Ab (Ad (Qx (oA rfl) rfl (Qm rfl (Ak (A5 ?_))))))))
    refine Al (l.length - (i + 1)) _ (by omega) ⟨i + 1, xe2, mx2, rfl, rfl, Hp.le_trans lh2 l3, rfl, by omega, by rw [e1]; exact hOx2⟩ Qs
   ·rw [decide_eq_false hc] at hon
    refine Ai (Aj (Ab (Ad (Qx (oA rfl) rfl (Qm rfl (Ak ?_))))))
    refine Al (l.length - (i + 1)) _ (by omega) ⟨i + 1, vo, mo, rfl, rfl, Hp.le_trans lh2 l3, rfl, by omega, by rw [hereL_no hon]; exact hOx⟩ Qs
  ·obtain rfl : i = l.length := by omega
   refine Bg hOx fun h3 l3 hRx => ?_
   have hL := hL.up l3
   have hA := Seg.all (hS2.le l3)
   have hA0 := hA 0 _ rfl
   have hRV := hereL_rd hRt hS hRx hL.w
   have hln := hereL_len l k l.length
   refine Aw (Aa (Aa (Af (Ab (Ax (Qm rfl (Qx (AJ hRx.rd.any rfl underlying62 rfl) rfl (Qm rfl (Qm rfl (Qm rfl ?_))))))))))
   refine AR (t := 42) rfl (fun hc => ?_) (fun hc => ?_)
   ·refine Qk rfl (Qk rfl (Qk rfl (Qk rfl (Qk rfl (Qk rfl (Qk rfl (Qk rfl (Qm rfl (Aq (AU rfl (Ax (Qm rfl (Aq (Ao (Ap (Ae (Ae (Ap (Ae ?_)))))))))))))))))))
    exact Am rfl rfl (by rw [E6]; intro h; have := (h k hkl).1; omega)
   ·have hce : cnt l.length ((Fj l).on k) = Z.zg.d k := by omega
    refine Qg (oF CG rfl) rfl (Qg (oL rfl underlying3 (hA0 _)) rfl (Qg (As rfl rfl) rfl (Qg (As rfl rfl) rfl (Ce rfl rfl rfl rfl ?_))))
    refine Qc call97 rfl (Bi Z.p (Z.zg.d k) (cnt l.length ((Fj l).on k)) (IH l k) vo h3 ⟨by omega, by omega⟩ (by omega) (by omega) hRV) (fun x h4 ms4 l4 hF => ?_)
    obtain ⟨rfl, xe, m4, rfl, rfl, hO4⟩ := hF
    refine AH hO4 fun h5 l5 hRm => ?_
    have RM : RtM Z.p (Z.zg.d k) (cnt l.length ((Fj l).on k)) (fun i j => IH l k j i) := ⟨hp, by omega, by omega, fun a ha b hb => Tj hRt hS hb (by omega)⟩
    have RE : UO Z.p (Z.zg.d k) (Z.zg.d k) (fun i j => IH l k j i) := by have := RM.en; rwa [hce] at this
    refine Qg (AG rfl call96 rfl (frank_w Z.p _ _ (fun i j => IH l k j i) xe h5 RM hRm _)) rfl (Qg (As rfl rfl) rfl (Qg (B4 rfl rfl rfl) rfl (Qm rfl (Aq ?_))))
    refine AF rfl (fun hr => ?_) (fun hr => ?_)
    ·refine Ac (Ad (Qm rfl (Aq (Ao (Ap (Ae (Ae (Ap (Ae ?_)))))))))
     exact Am rfl rfl (by rw [E6]; intro h; have h1 := (h k hkl).2; rw [← cols_inw hp.fld hce] at h1; have h2 := (PY hp.fld RE).2 h1; rw [hce] at hr; exact hr (by omega))
    ·have hs : OK Z l k := ⟨hce, by rw [← cols_inw hp.fld hce]; exact (PY hp.fld RE).1 (by rw [hce] at hr; omega)⟩
     refine Ai (Aj (Ab (Ad (Qx (oA rfl) rfl (Qm rfl (Ak ?_))))))
     refine Al (Z.dims.length - (k + 1)) _ (by omega) ⟨k + 1, rfl, rfl, Hp.le_trans lh (Hp.le_trans lh2 (Hp.le_trans l3 l5)), rfl, by omega, fun k' h => ?_⟩ Qs
     rcases (by omega : k' < k ∨ k' = k) with h | rfl
     ·exact hno k' h
     ·exact hs
 ·refine Aw (Aa (Aa (Af (Ab (Ax (Qm rfl (Aq (Ao ?_))))))))
  exact Am rfl rfl (by rw [Jf]; exact fun k' h => hno k' (by omega))
end Go.Proofs.YtdnelknieikbaaaGreat
namespace Go.Proofs.YtdnelknieikbaaaGreat
open Go.Proofs.Tryz
open Go.Eng Go.RowKit Go.Lin Go.Sort Go.Srt
theorem vec_eq_iff {n : Nat} {f : Nat → Int} {l : List Int} (hl : l.length = n) : vec n f = l ↔ ∀ i, i < n → f i = l.getD i 0 := by
 constructor
 ·rintro rfl i hi
  rw [Gw (by rw [AQ]; exact hi), EE hi]
 ·intro h
  have e := I2 l
  rw [hl] at e
  rw [e]
  exact BA h
theorem zcheck_ok (Z : Zz) (vd va : Value) (l : List SV) (vl : Value) (h : Hp) (hO : Z.Ok) (hR : RdZ h vd va Z) (hL : RdSs h vl l) (hN : l.length ≤ 1000000) : FnT Tryz.prog 32 #[.agg #[.int .i64 Z.p, vd, va], vl] h [] (fun r _ _ => r = .bool (bl (Vo Z l))) := by
 have o1 := hR.d.rd.one
 have o2 := hR.a.rd.one
 refine Av func32 ntmps32 rfl rfl (fun w0 hw0 => ?_)
 simp only [A4]
 refine Ax ?_
 refine AS [_, _, _] rfl rfl (by rfl) rfl rfl rfl (fun g2 => ?_)
 refine Qm rfl (Aq (AL fun h1 l1 hS2 => ?_))
 have hR := hR.up l1
 have hL := hL.up l1
 have hA := Seg.all hS2
 have hA0 := hA 0 _ rfl
 refine Ac (Ax (Qx (oG rfl underlying30 Bz (Seg.any hS2)) rfl (Qx (AG rfl call35 rfl (Ds (FT Z vd va _ hO hR) _)) rfl (Qm rfl (Qm rfl ?_)))))
 refine CO (t := 19) rfl (fun hb => ?_) (fun hb => ?_)
 ·have hb : ¬ Z.Rt := by simpa using hb
  refine Qk rfl (Qk rfl (Qk rfl (Qk rfl (Qm rfl (Qm rfl (Qk rfl (Qk rfl (Qk rfl (Qk rfl (Qm rfl (Aq (AU rfl (Ax (Qm rfl (Aq (Ao (Ae ?_)))))))))))))))))
  exact Am rfl rfl (by rw [E6]; exact fun h => hb h.1)
 ·have hRt : Z.Rt := by simpa using hb
  have n1 := hRt.1
  have n2 := hRt.2.1
  have hna := Z.nars hRt
  refine Qg (oG rfl underlying30 Bz (Seg.any hS2)) rfl (Qg (As rfl rfl) rfl (Qg (AG rfl call63 rfl (shaped_v Z vd va l vl h1 hRt hR hL _)) rfl (Qg (CP rfl rfl) rfl (Qm rfl (Qm rfl ?_)))))
  refine CO (t := 25) rfl (fun hb2 => ?_) (fun hb2 => ?_)
  ·refine Qk rfl (Qk rfl (Qk rfl (Qk rfl (Qm rfl (Aq (AU rfl (Ax (Qm rfl (Aq (Ao (Ae ?_)))))))))))
   exact Am rfl rfl (by rw [E6]; intro h; rw [Jf h.2.1] at hb2; simp at hb2)
  ·have hS : ∀ s ∈ l, s.Shp Z := bl_iff.1 (by simpa using hb2)
   refine Qg (oG rfl underlying30 Bz (Seg.any hS2)) rfl (Qg (As rfl rfl) rfl (Qg (AG rfl call64 rfl (Ds (bases_ok Z vd va l vl h1 hRt hR hL hS hN) _)) rfl (Qg (CP rfl rfl) rfl (Qm rfl (Aq ?_)))))
   refine BJ rfl (fun hb3 => ?_) (fun hb3 => ?_)
   ·refine Ac (Ad (Qm rfl (Aq (Ao (Ae ?_)))))
    exact Am rfl rfl (by rw [E6]; intro h; rw [Jf ((HA hRt hS).1 h.2.2).1] at hb3; simp at hb3)
   ·have hB : ∀ k, k < Z.dims.length → OK Z l k := bl_iff.1 (by simpa using hb3)
    refine Ai (Ab (Ac (Ax (Qf BQ rfl (Ql rfl underlying28 (hA _ _ rfl _) (Qx (AJ hR.a.rd.any rfl underlying28 rfl) rfl (Qm rfl (Aq (Ag ?_)))))))))
    refine AD (fun q sl hh ms' => ∃ (k : Nat), q = Z.ars.length - k ∧ sl = [(1, vl), (2, .pointer (some ⟨g2, 0, none⟩)), (32, va), (33, .int .i64 Z.ars.length), (34, .int .i64 k)] ∧ h1.le hh ∧ ms' = [] ∧ k ≤ Z.ars.length ∧ ∀ k', k' < k → ∀ t (ht : t < l.length), Ll Z k' l[t])
     (Z.ars.length - 0) _ ⟨0, rfl, rfl, Hp.le_refl _, rfl, by omega, fun k' h => by omega⟩ Qs ?_
    rintro q sl hh ms' ⟨k, rfl, rfl, lh, rfl, hk, harr⟩
    have hR := hR.up lh
    have hL := hL.up lh
    have hS2 := hS2.le lh
    refine Ax (Qm rfl (Aq (Ac ?_)))
    refine AF rfl (fun hlt => ?_) (fun hlt => ?_)
    ·have hka : k < Z.ars.length := by omega
     have hamem := List.getElem_mem hka
     have oav := (hR.e _ hamem).rd.one
     refine Ai (Ab (Ac (Ag (Ax (Qm rfl (Qx (Ah _ hR.a.rd.any rfl underlying28 Cr rfl rfl rfl (by omega)) rfl (Qx (oG rfl underlying45 Cr (hR.a.any.seg hka)) rfl (BZ [.bool false, .int .i64 0, .int .i64 0, .int .i64 0, .slice none 0 0] rfl Cr rfl rfl (fun g6 => Qm rfl ?_)))))))))
     refine Sa 0 [_, _, _, _, _] Cr rfl (by simp [oav]) ?_
     refine Aq (AL fun h3 l3 hS6 => ?_)
     have hR := hR.up l3
     have hL := hL.up l3
     have hS2 := hS2.le l3
     obtain ⟨f1, f2, f3, f4, f5⟩ := Z.arrow hRt hka
     obtain ⟨es, et⟩ := Z.zg_src hka
     have hsrc : Z.zg.src k ≤ 1000 := by rcases Z.zg.src_tgt k with ⟨e, _, _⟩ | ⟨e, _, _⟩ <;> omega
     have htgt : Z.zg.tgt k ≤ 1000 := by rcases Z.zg.src_tgt k with ⟨_, e, _⟩ | ⟨_, e, _⟩ <;> omega
     have hen : ∀ ms, Dq Tryz.prog 65 #[.agg #[.int .i64 Z.p, vd, va], .int .i64 k] h3 ms (.tuple #[.int .i64 (Z.zg.src k), .int .i64 (Z.zg.tgt k)]) := fun ms => by
      rw [es, et]
      exact UP Z vd va k h3 hR hka ms
     refine Ax (Qx (oG rfl underlying30 Bz (Seg.any hS2)) rfl (Qm rfl (Qx (AG rfl call65 rfl (hen _)) rfl (Qm rfl (Qm rfl (Qm rfl (Qm rfl (Qm rfl (B3 (Qm rfl (Qx (AJ hL.q.rd.any rfl underlying60 rfl) rfl (Qm rfl (Aq (Ag ?_))))))))))))))
     refine AD (fun q sl h4 ms' => ∃ (t : Nat), q = l.length - t ∧ sl = [(1, vl), (2, .pointer (some ⟨g2, 0, none⟩)), (32, va), (33, .int .i64 Z.ars.length), (34, .int .i64 k), (6, .pointer (some ⟨g6, 0, none⟩)), (7, .int .i64 (Z.zg.src k)), (8, .int .i64 (Z.zg.tgt k)), (45, vl), (46, .int .i64 l.length), (47, .int .i64 t)] ∧ h3.le h4 ∧ ms' = [] ∧ t ≤ l.length ∧ ∀ t' (ht : t' < l.length), t' < t → Ll Z k l[t'])
      (l.length - 0) _ ⟨0, rfl, rfl, Hp.le_refl _, rfl, by omega, fun t' _ h => by omega⟩ Qs ?_
     rintro q sl h4 ms' ⟨t, rfl, rfl, lh4, rfl, ht, harr2⟩
     have hR := hR.up lh4
     have hL := hL.up lh4
     have hS6 := hS6.le lh4
     refine Ax (Qm rfl (Aq (Ac ?_)))
     refine AF rfl (fun hlt2 => ?_) (fun hlt2 => ?_)
     ·have htl : t < l.length := Bx hlt2
      have hmem := List.getElem_mem htl
      have hsh := hS _ hmem
      have ov := l[t].e.one
      have hseg : ∀ ms, Seg h4 ms ((Bl vl).add (t * 3)) (VZ l[t]) := fun ms => (hL.q.any (ms := ms)).seg htl
      refine Ai (Ab (Ac (Ag (Ax (Qx (Ah _ hL.q.rd.any rfl underlying60 BP rfl rfl rfl (by omega)) rfl (Qx (oG rfl underlying64 BP (hseg _)) rfl (BZ [.int .i64 0, .int .i64 0, .slice none 0 0] rfl BP rfl rfl (fun g10 => ?_))))))))
      refine Sa 0 [_, _, _] BP rfl (by simp [ov]) ?_
      refine Aq (AL fun h5 l5 hS10 => ?_)
      have hR := hR.up l5
      have hL := hL.up l5
      have hS6 := hS6.le l5
      have hW := hL.w _ hmem
      have oa := hW.vv_one hsh.long (Z.zg.src k)
      have ob := hW.vv_one hsh.long (Z.zg.tgt k)
      refine Ax (Qx (oG rfl underlying64 BP (Seg.any hS10)) rfl (Qm rfl (Qx (AG rfl call66 rfl (vector_w l[t] (Z.zg.src k) h5 hW hsh.long hsrc _)) rfl (Qm rfl (Qm rfl (Qm rfl (Qm rfl (Qm rfl (Aq (Ac (Ax (Qm rfl (Qm rfl (Aq ?_))))))))))))))
      refine BJ rfl (fun hc => ?_) (fun hc => ?_)
      ·have hc : ¬ l[t].on (Z.zg.src k) := by simpa using hc
       refine Aw (Aa (Af (Ab (Ad (Qx (oA rfl) rfl (Qm rfl (Ak ?_)))))))
       refine Al (l.length - (t + 1)) _ (by omega) ⟨t + 1, rfl, rfl, Hp.le_trans lh4 l5, rfl, by omega, fun t' ht' h => ?_⟩ Qs
       rcases (by omega : t' < t ∨ t' = t) with h | rfl
       ·exact harr2 t' ht' h
       ·exact fun ho => absurd ho hc
      ·have hc : l[t].on (Z.zg.src k) := by simpa using hc
       obtain ⟨e1, e2⟩ := hsh.row hRt hc
       have hV := hW.vv hsh.long hc
       have ew := I2 (l[t].at_ (Z.zg.src k))
       rw [e1] at ew
       rw [ew] at hV
       have hwb : ∀ j, j < Z.zg.d (Z.zg.src k) → 0 ≤ (l[t].at_ (Z.zg.src k)).getD j 0 ∧ (l[t].at_ (Z.zg.src k)).getD j 0 < Z.p := fun j hj => by
        have hj' : j < (l[t].at_ (Z.zg.src k)).length := by omega
        rw [Gw hj']
        exact e2 _ (List.getElem_mem hj')
       have hM := hR.e _ hamem
       rw [f4] at hM
       have hsg : ∀ ms, Seg h5 ms ((⟨g6, 0, none⟩ : Addr).add 1) [.int .i64 Z.p, .int .i64 (Z.zg.d (Z.zg.tgt k)), .int .i64 (Z.zg.d (Z.zg.src k)), Z.ars[k].v] := fun ms i u hu => by
        rw [A6, ← f1, ← f2, ← f3] at *
        refine (hS6 (1 + i) u ?_).any
        rw [Nat.add_comm]
        exact hu
       refine Ai (Ab (Ax (Qx (oG rfl underlying64 BP (Seg.any hS10)) rfl (Qm rfl (Qx (AG rfl call66 rfl (vector_w l[t] (Z.zg.tgt k) h5 hW hsh.long htgt _)) rfl (Qm rfl (Qm rfl (Qm rfl (Qm rfl (Qm rfl (B3 (Qf Ca rfl (Qx (oG rfl underlying42 AI (hsg _)) rfl (Qm rfl (Qc call67 rfl (IG Z.p _ _ (Z.zg.mat k) (fun j => (l[t].at_ (Z.zg.src k)).getD j 0) Z.ars[k].v (l[t].vv (Z.zg.src k)) h5 f5 hwb hM hV) (fun x h6 ms6 l6 hF => ?_))))))))))))))))
       obtain ⟨l6', mx, rfl, hOx⟩ := hF
       refine AH hOx fun h7 l7 hRx => ?_
       have hW := hW.up (Hp.le_trans l6' l7)
       have hR := hR.up (Hp.le_trans l6' l7)
       have l57 := Hp.le_trans l5 (Hp.le_trans l6' l7)
       have evl := AQ (Z.zg.d (Z.zg.tgt k)) (D2 Z.p (Z.zg.d (Z.zg.src k)) (Z.zg.mat k) fun j => (l[t].at_ (Z.zg.src k)).getD j 0)
       by_cases hto : l[t].on (Z.zg.tgt k)
       ·have hV2 := hW.vv hsh.long hto
        have hl2 := (hsh.row hRt hto).1
        have key := vec_eq_iff (f := D2 Z.p (Z.zg.d (Z.zg.src k)) (Z.zg.mat k) fun j => (l[t].at_ (Z.zg.src k)).getD j 0) hl2
        rw [decide_eq_true hto]
        refine Qm rfl (B3 (Qm rfl (Qm rfl (Qg (As rfl rfl) rfl (Qg (As rfl rfl) rfl (Qg (AG rfl call68 rfl (equal_v _ _ _ _ h7 hRx hV2 _)) rfl (Qg (CP rfl rfl) rfl (Qm rfl (Qm rfl ?_)))))))))
        refine CO (t := 76) rfl (fun hq => ?_) (fun hq => ?_)
        ·refine Qk rfl (Qk rfl (Qk rfl (LQ rfl rfl rfl rfl rfl rfl (LQ rfl rfl rfl rfl rfl rfl (LQ rfl rfl rfl rfl rfl rfl (Qk rfl (Qm rfl (Aq (AU rfl (Ax (Qm rfl (Aq (Ao (Ap (Ae (Ae (Ap (Ap (Ae (Ae (Ap (Ae ?_))))))))))))))))))))))
         exact Am rfl rfl (by rw [E6]; intro h; have h1 := ((HA hRt hS).1 h.2.2).2 k hka t htl hc; simp only [if_pos hto] at h1; rw [decide_eq_true (key.2 h1)] at hq; simp at hq)
        ·have hq : _ = _ := of_decide_eq_true (by simpa using hq)
         refine Qg (As rfl rfl) rfl (Qg (CP rfl rfl) rfl (Qg (As rfl rfl) rfl (Qk rfl (Qk rfl (Qk rfl (Qg (JJ rfl rfl rfl) rfl (Qm rfl (Aq (Bb rfl (Ai (Aj (Ab (Ad (Qx (oA rfl) rfl (Qm rfl (Ak ?_))))))))))))))))
         refine Al (l.length - (t + 1)) _ (by omega) ⟨t + 1, rfl, rfl, Hp.le_trans lh4 l57, rfl, by omega, fun t' ht' h => ?_⟩ Qs
         rcases (by omega : t' < t ∨ t' = t) with h | rfl
         ·exact harr2 t' ht' h
         ·intro _ i hi
          rw [if_pos hto]
          exact key.1 hq i hi
       ·rw [decide_eq_false hto]
        refine Qm rfl (B3 (Qm rfl (Qm rfl (Qk rfl (Qk rfl (Qk rfl (Qk rfl (Qm rfl (Qm rfl (Qg (As rfl rfl) rfl (Qg (CP rfl rfl) rfl (Qg (As rfl rfl) rfl (Qg (As rfl rfl) rfl (Qg (AG rfl call69 rfl (UZ _ _ h7 hRx _)) rfl (Qg (CP rfl rfl) rfl (Qg (Jv rfl rfl rfl) rfl (Qm rfl (Aq ?_))))))))))))))))))
        refine BJ rfl (fun hq => ?_) (fun hq => ?_)
        ·refine Ac (Ad (Qm rfl (Aq (Ao (Ap (Ae (Ae (Ap (Ap (Ae (Ae (Ap (Ae ?_)))))))))))))
         exact Am rfl rfl (by rw [E6]; intro h; have h1 := ((HA hRt hS).1 h.2.2).2 k hka t htl hc; simp only [if_neg hto] at h1; rw [decide_eq_true (fun x hx => by obtain ⟨i, hi, rfl⟩ := mem_vec.1 hx; exact h1 i hi)] at hq; simp at hq)
        ·have hq : ∀ x ∈ vec (Z.zg.d (Z.zg.tgt k)) (D2 Z.p (Z.zg.d (Z.zg.src k)) (Z.zg.mat k) fun j => (l[t].at_ (Z.zg.src k)).getD j 0), x = 0 := of_decide_eq_true (by simpa only [Bool.not_eq_false'] using hq)
         refine Ai (Aj (Ab (Ad (Qx (oA rfl) rfl (Qm rfl (Ak ?_))))))
         refine Al (l.length - (t + 1)) _ (by omega) ⟨t + 1, rfl, rfl, Hp.le_trans lh4 l57, rfl, by omega, fun t' ht' h => ?_⟩ Qs
         rcases (by omega : t' < t ∨ t' = t) with h | rfl
         ·exact harr2 t' ht' h
         ·intro _ i hi
          rw [if_neg hto]
          exact hq _ (mem_vec.2 ⟨i, hi, rfl⟩)
     ·refine Aw (Aa (Aa (Af (Aj (Ab (Ad (Qx (oA rfl) rfl (Qm rfl (Ak ?_)))))))))
      refine Al (Z.ars.length - (k + 1)) _ (by omega) ⟨k + 1, rfl, rfl, Hp.le_trans lh (Hp.le_trans l3 lh4), rfl, by omega, fun k' h t' ht' => ?_⟩ Qs
      rcases (by omega : k' < k ∨ k' = k) with h | rfl
      ·exact harr k' h t' ht'
      ·exact harr2 t' ht' (by omega)
    ·refine Aw (Aa (Aa (Af (Ab (Ax (Qm rfl (Aq (Ao ?_))))))))
     exact Am rfl rfl (by rw [Jf]; exact ⟨hRt, hS, (HA hRt hS).2 ⟨hB, fun k' hk' t ht => harr k' (by omega) t ht⟩⟩)
end Go.Proofs.YtdnelknieikbaaaGreat
namespace Go.Proofs.YtdnelknieikbaaaGreat
open Go.Eng Go.RowKit Go.Lin Go.Sort Go.Srt
theorem I2 (l : List Int) : vec l.length (fun i => l.getD i 0) = l := List.ext_getElem (by simp [vec]) fun i h1 h2 => by simp [vec, List.getD, h2]
end Go.Proofs.YtdnelknieikbaaaGreat
namespace Go.Proofs.YtdnelknieikbaaaGreat
open Go.Eng Go.RowKit Go.Lin Go.Sort Go.Srt
section
variable {Z Z' : Zz}
theorem I8 {p : Int} {ds : List Int} {A : List Ar} {vdo vao : Value} {md ma mB h : Hp} (hOd : OwnL cI 1 3 md vdo ds) (kd : md.le h) (hOa : OwnL cA 5 45 ma vao A) (ka : ma.le h) (B : BagE A mB) (kB : mB.le h) : RdZ h vdo vao ⟨p, ds, A⟩ := by
 refine ⟨hOd.rdh kd, hOa.rdh ka, fun a ha => ?_⟩
 obtain ⟨k, hk, rfl⟩ := List.mem_iff_getElem.1 ha
 obtain ⟨y, hy, O⟩ := B.all k hk
 have e : A.getD k default = A[k] := by simp [List.getD, hk]
 rw [e] at O
 exact O.rdh (Hp.le_trans hy kB)
end
end Go.Proofs.YtdnelknieikbaaaGreat
namespace Go.Proofs.YtdnelknieikbaaaGreat
open Go.Proofs.Tryz
open Go.Eng Go.RowKit Go.Lin Go.Sort Go.Srt
variable {h : Hp} {s : StE} {ls : List StE} {n : Nat}
def RdKs (h : Hp) (s : StE) : Prop := ∃ es, RdL cV 1 h [] s.v es ∧ ∀ u ∈ es, ∃ c, RdL cI 1 h [] u c
theorem RdKs.up {h' : Hp} (R : RdKs h s) (l : h.le h') : RdKs h' s := by
 obtain ⟨es, h1, h2⟩ := R
 exact ⟨es, h1.up l, fun u hu => let ⟨c, hc⟩ := h2 u hu; ⟨c, hc.up l⟩⟩
theorem svs_ex {r : Value} (R : RdL cS 3 h [] r ls) (H : ∀ s ∈ ls, RdKs h s) : ∃ l : List SV, RdSs h r l ∧ l.length = ls.length := by
 have hex : ∀ s : StE, ∃ v : SV, v.e = s ∧ (s ∈ ls → RdW h v) := fun s => by
  by_cases hs : s ∈ ls
  ·obtain ⟨es, h1, h2⟩ := H s hs
   have hex2 : ∀ k : Nat, ∃ c : List Int, k < es.length → RdL cI 1 h [] (es.getD k undef) c := fun k => by
    by_cases hk : k < es.length
    ·obtain ⟨c, hc⟩ := h2 es[k] (List.getElem_mem hk)
     exact ⟨c, fun _ => by rw [Ev hk]; exact hc⟩
    ·exact ⟨[], fun h' => absurd h' hk⟩
   obtain ⟨f, hf⟩ := Classical.axiomOfChoice hex2
   refine ⟨⟨s, es, (List.range es.length).map f⟩, rfl, fun _ => ⟨by simp, h1, fun j hj => ?_⟩⟩
   have hj' : j < es.length := by simpa using hj
   show RdL cI 1 h [] (es.getD j undef) (((List.range es.length).map f).getD j [])
   have e : ((List.range es.length).map f).getD j [] = f j := by simp [List.getD, hj']
   rw [e]; exact hf j hj'
  ·exact ⟨⟨s, [], []⟩, rfl, fun h' => absurd h' hs⟩
 obtain ⟨f, hf⟩ := Classical.axiomOfChoice hex
 refine ⟨ls.map f, ⟨⟨?_, Ts⟩, fun s hs => ?_⟩, by simp⟩
 ·have h1 := R.rd
  have e : (ls.map f).flatMap VZ = ls.flatMap cS := by
   rw [List.flatMap_map]
   refine congrArg (fun g => ls.flatMap g) (funext fun s => ?_)
   show [Value.int .i64 (f s).e.fr, .int .i64 (f s).e.to, (f s).e.v] = _
   rw [(hf s).1]; rfl
  rw [e, List.length_map]; exact h1
 ·obtain ⟨s', hs', rfl⟩ := List.mem_map.1 hs
  exact (hf s').2 hs'
def RdK2 (h : Hp) (s : StE) : Prop := ∃ es, 1 ≤ es.length ∧ RdL cV 1 h [] s.v es ∧ ∀ u ∈ es, ∃ c, c.length ≤ 200 ∧ RdL cI 1 h [] u c
theorem RdK2.ks (R : RdK2 h s) : RdKs h s := by
 obtain ⟨es, _, h1, h2⟩ := R
 exact ⟨es, h1, fun u hu => let ⟨c, _, hc⟩ := h2 u hu; ⟨c, hc⟩⟩
theorem StV.rdk {Z : Zz} (hRt : Z.Rt) {g fr to : Nat} {e : StE} {v : Nat → Nat → Int} {x : Hp} (S : StV Z.zg.d g e fr to v x) (hx : x.le h) : RdK2 h e := by
 obtain ⟨e1, e2, es, ma, mb, h0, rfl, h1, h2, h3, h4, h5⟩ := S
 have l1 : ma.le h := Hp.le_trans (Hp.le_trans Hp.le_joinl (Hp.le_joinr h1)) hx
 have l2 : mb.le h := Hp.le_trans (Hp.le_trans (Hp.le_joinr h2) (Hp.le_joinr h1)) hx
 refine ⟨es, by omega, h3.rdh l1, fun u hu => ?_⟩
 obtain ⟨j, hj, rfl⟩ := List.mem_iff_getElem.1 hu
 obtain ⟨y, hy, O⟩ := Bag.all h5 j hj
 rw [Ev hj] at O
 exact ⟨_, by rw [AQ]; exact Z.d_le hRt _, O.rdh (Hp.le_trans hy l2)⟩
theorem strands_open {Z : Zz} (hRt : Z.Rt) {N : Nat} {S : Nat → SM} {e : Nat → StE} {L : List Nat} {mB ml : Hp} (B : Bag N (fun l x => StV Z.zg.d (S l).g (e l) (S l).fr (S l).to (S l).v x) mB) (hp : L.Perm (List.range N)) (hbd : ∀ l, l < N → (S l).Bd Z.p Z.zg.d) (hV : Valid Z.zg (Dr N S)) (hn : n < (L.map e).length) :
  ∃ (m2 mb ma : Hp) (es : List Value), Goes [ml, mB] [m2, mb, ma, ml] ∧ OwnL cV 1 24 ma (L.map e)[n].v es ∧ 1 ≤ es.length ∧ es.length ≤ 100 ∧ Dh ((L.map e)[n].to - 1) ∧ (∀ k (hk : k < es.length), ∃ y c, y.le mb ∧ OwnL cI 1 3 y es[k] c ∧ c.length ≤ 200 ∧ ∀ x ∈ c, 0 ≤ x ∧ x < Z.p) ∧ ∀ h, m2.le h → ∀ a (ha : a < (L.map e).length), a ≠ n → RdK2 h (L.map e)[a] := by
 have hnL : n < L.length := by simpa using hn
 have hLN : ∀ k ∈ L, k < N := fun k hk => List.mem_range.1 (hp.mem_iff.1 hk)
 have hnd : L.Nodup := hp.nodup_iff.2 List.nodup_range
 obtain ⟨m1, m2, rfl, hdj, hO, hoth, _⟩ := Bag.open B (hLN _ (List.getElem_mem hnL))
 have he : (L.map e)[n] = e L[n] := by simp
 obtain ⟨e1, e2, es, ma, mb, h0, rfl, h1, h2, h3, h4, h5⟩ := hO
 have hto : (S L[n]).to < Z.dims.length := (hV.ends L[n] (hLN _ (List.getElem_mem hnL))).2
 have hd := hRt.2.1
 rw [he]
 refine ⟨m2, mb, ma, es, ?_, h3, by omega, by omega, ⟨by omega, by omega⟩, fun k hk => ?_, fun h hm a ha hne => ?_⟩
 ·refine (Goes.perm (List.Perm.swap _ _ _)).trans ((Goes.part hdj _).trans ((Goes.part h1 _).trans ((Goes.drp _ _).trans ((Goes.part h2 _).trans (Goes.perm ?_)))))
  exact (List.Perm.swap _ _ _).trans ((List.Perm.cons _ (List.Perm.swap _ _ _)).trans (List.Perm.swap _ _ _))
 ·obtain ⟨y, hy, O⟩ := Bag.all h5 k hk
  rw [Ev hk] at O
  refine ⟨y, _, hy, O, by rw [AQ]; exact Z.d_le hRt _, fun x hx => ?_⟩
  obtain ⟨i, hi, rfl⟩ := List.mem_map.1 hx
  exact hbd _ (hLN _ (List.getElem_mem hnL)) _ (by omega) (by omega) i (List.mem_range.1 hi)
 ·have haL : a < L.length := by simpa using ha
  obtain ⟨x, hx, hS⟩ := hoth L[a] (hLN _ (List.getElem_mem haL)) (fun q => hne ((List.getElem_inj hnd).1 q))
  have he2 : (L.map e)[a] = e L[a] := by simp
  rw [he2]
  exact hS.rdk hRt (Hp.le_trans hx hm)
def OwV (es : List Value) (mb : Hp) : Prop := ∀ u ∈ es, ∃ y c, y.le mb ∧ OwnL cI 1 3 y u c
theorem OwV.ks {mb ma : Hp} {es : List Value} (hV : OwV es mb) (hOa : OwnL cV 1 24 ma s.v es) (ka : ma.le h) (kb : mb.le h) : RdKs h s :=
 ⟨es, hOa.rdh ka, fun u hu => let ⟨y, c, hy, O⟩ := hV u hu; ⟨c, O.rdh (Hp.le_trans hy kb)⟩⟩
theorem OwV.sim {p : Int → Prop} {mb mb' : Hp} {es : List Value} (hV : ∀ k (hk : k < es.length), ∃ y c, y.le mb ∧ OwnL cI 1 3 y es[k] c ∧ c.length ≤ 200 ∧ ∀ x ∈ c, p x) (hS : SimZ p 3 mb mb') : OwV es mb' := fun u hu => by
 obtain ⟨k, hk, rfl⟩ := List.mem_iff_getElem.1 hu
 obtain ⟨y, c, hy, O, _, hb⟩ := hV k hk
 obtain ⟨y', c', hy', O', _⟩ := O.simz hb hy hS
 exact ⟨y', c', hy', O'⟩
theorem ks_set (hoth : ∀ a (ha : a < ls.length), a ≠ n → RdKs h ls[a]) (hs : RdKs h s) : ∀ t ∈ ls.set n s, RdKs h t := fun t ht => by
 obtain ⟨k, hk, rfl⟩ := List.mem_iff_getElem.1 ht
 rw [List.getElem_set]
 by_cases e : n = k
 ·rw [if_pos e]; exact hs
 ·rw [if_neg e]; exact hoth k (by simpa using hk) (fun q => e q.symm)
theorem ks_all (hn : n < ls.length) (hoth : ∀ a (ha : a < ls.length), a ≠ n → RdKs h ls[a]) (hs : RdKs h ls[n]) : ∀ t ∈ ls, RdKs h t := fun t ht => by
 obtain ⟨k, hk, rfl⟩ := List.mem_iff_getElem.1 ht
 by_cases e : k = n
 ·subst e; exact hs
 ·exact hoth k hk e
theorem modj_v {a b c : Int} (e : a % b = c) (ha : Dh a) (hb : 1 ≤ b ∧ b ≤ 1000000) (h : Hp) (ms : List Hp) : Dq Tryz.prog 34 #[.int .i64 a, .int .i64 b] h ms (.int .i64 c) := e ▸ Ks a b ha hb h ms
theorem lchecks_ok (x : Pl) (vd vs : Value) (q0 q1 q2 q3 q4 : Int) (h : Hp) (hx : x.Ok) (hR : RdP h vd vs x) (hq0 : Dh q0) (hq1 : Dh q1) (hq2 : Dh q2) (hq3 : Dh q3) (hq4 : Dh q4) : FnT Tryz.prog 11 #[.agg #[.int .u8 x.p, vd, .int .u16 x.back, vs, .bool x.thin], .agg #[.int .i64 q0, .int .i64 q1, .int .i64 q2, .int .i64 q3, .int .i64 q4]] h [] (fun r _ _ => r = .bool true) := by
 have o1 := hR.d.rd.one
 have o2 := hR.s.rd.one
 refine Av func11 ntmps11 rfl rfl (fun w0 hw0 => ?_)
 simp only [A4]
 refine Ax ?_
 refine AS [_, _, _, _, _] rfl rfl (by rfl) rfl rfl rfl (fun g2 => ?_)
 refine AS [_, _, _, _, _] rfl rfl (by rfl) rfl rfl rfl (fun g3 => ?_)
 refine Qm rfl (B3 (Qx (AG rfl call14 rfl (GW _ _)) rfl (Qm rfl (Aq (AL fun h1 l1 hS3 => (AL fun h2 l2 hS2 => ?_))))))
 have hR := hR.up (Hp.le_trans l1 l2)
 have hS3 := hS3.le l2
 refine Ax (Qx (oG rfl underlying26 ST (Seg.any hS2)) rfl (Qc call15 rfl (Kf x vd vs h2 hx hR) (fun rz h3 ms3 l3 hF => ?_)))
 obtain ⟨l3', vdo, vao, md, ma, mB, A, rfl, rfl, hOd, hOa, hAc, hB⟩ := hF
 refine A7 fun h4 l4 k4 => (A7 fun h5 l5 k5 => (A7 fun h6 l6 k6 => ?_))
 have hRZ : RdZ h6 vdo vao ⟨x.P, x.dims, A⟩ := I8 hOd (Hp.le_trans k5 l6) hOa (Hp.le_trans k4 (Hp.le_trans l5 l6)) hB k6
 have l26 := Hp.le_trans l3 (Hp.le_trans l4 (Hp.le_trans l5 l6))
 have hRt : (⟨x.P, x.dims, A⟩ : Zz).Rt := x.rt rfl rfl hAc
 have hpb := x.P_bd
 generalize hZ : (⟨x.P, x.dims, A⟩ : Zz) = Z at hRZ hRt
 have hZp : x.P = Z.p := by rw [← hZ]
 rw [hZp] at hpb ⊢
 have hS3 := hS3.le l26
 have o3 := hRZ.d.rd.one
 have o4 := hRZ.a.rd.one
 refine BZ [.int .i64 0, .slice none 0 0, .slice none 0 0] rfl Bz rfl rfl (fun g6 => ?_)
 refine Sa 0 [_, _, _] Bz rfl (by simp [o3, o4]) ?_
 refine Aq (AL fun h7 l7 hS6 => ?_)
 have hRZ := hRZ.up l7
 have hS3 := hS3.le l7
 refine Ax (Qx (oG rfl underlying30 Bz (Seg.any hS6)) rfl (Qc call30 rfl (strands_ok Z vdo vao h7 hRt.ok hRt hRZ) (fun rs h8 ms8 l8 hF => ?_)))
 obtain ⟨l8', N, S, e, L, ml, mL, rfl, hN, hOl, hBg, hp, hV, hbd, hsrt⟩ := hF
 have hRZ := hRZ.up l8
 have hS3 := hS3.le l8
 have hS6 := hS6.le l8
 have hlen : (L.map e).length ≤ 20400 := by rw [List.length_map, hp.length_eq, List.length_range]; omega
 refine Qm rfl (Aq (Ac (Ax (Qm rfl (Qx (AJ (hOl.rd (h := h8) (ms := [ml, mL]) (List.Mem.head _)).rd rfl underlying60 rfl) rfl (Qm rfl (Aq ?_)))))))
 refine AF rfl (fun hz => ?_) (fun hz => ?_)
 ·refine ws_drp (ws_drp ?_)
  have hRs : RdSs h8 (.slice none 0 0) [] := ⟨⟨Rd.nil _ _ _, Ts⟩, fun s hs => by cases hs⟩
  refine Ac (AW (n := 9) (bs := [true, false, false, false, false, false, false, false, false]) [true] Cd (by kernel_rfl) (by kernel_rfl) rfl rfl (Qq rfl ?_))
  unfold CD
  simp only [List.cons_append, List.nil_append]
  refine Qo 1 rfl (Qm rfl (Qw (BH 2 24 (by kernel_rfl) rfl rfl rfl rfl rfl (Hp.le_refl _) rfl (oG rfl underlying30 Bz (Seg.any hS6)) (BH 3 25 (by kernel_rfl) rfl rfl rfl rfl rfl (Hp.le_refl _) rfl (AG rfl call32 rfl (Ds (zcheck_ok Z vdo vao [] _ _ hRt.ok hRZ hRs (by decide)) _)) (BH 4 26 (by kernel_rfl) rfl rfl rfl rfl rfl (Hp.le_refl _) rfl (oG rfl underlying30 Bz (Seg.any hS6)) (BH 5 27 (by kernel_rfl) rfl rfl rfl rfl rfl (Hp.le_refl _) rfl (AG rfl call31 rfl (Ds (OF Z vdo vao [] _ _ hRt.ok hRZ hRs (by decide)) _)) (BH 6 28 (by kernel_rfl) rfl rfl rfl rfl rfl (Hp.le_refl _) rfl (ox_eqbC rfl underlying4 rfl rfl) (Qo 7 rfl (Qm rfl (Qw (Qo 8 rfl (Qm rfl (Qw (Qe (Ab (Ao ?_))))))))))))))))
  exact Am rfl rfl (by simp)
 ·have hl0 : 0 < (L.map e).length := by omega
  obtain ⟨n, hn⟩ : ∃ n : Nat, q1 % ((L.map e).length : Int) = n := ⟨(q1 % ((L.map e).length : Int)).toNat, by have := Int.emod_nonneg q1 (show ((L.map e).length : Int) ≠ 0 by omega); omega⟩
  have hnl : n < (L.map e).length := by have := Int.emod_lt_of_pos q1 (show 0 < ((L.map e).length : Int) by omega); omega
  have hA30 := Seg.all hS3 0 _ rfl
  have hA31 := Seg.all hS3 1 _ rfl
  have hA32 := Seg.all hS3 2 _ rfl
  have hA33 := Seg.all hS3 3 _ rfl
  have hA34 := Seg.all hS3 4 _ rfl
  refine Ai (Ab (Ax (Qx (C8 1 rfl underlying67 A8 rfl rfl rfl (by omega)) rfl (Ql rfl underlying3 (hA31 _) (Qm rfl (Qx (AJ (hOl.rd (h := h8) (ms := [ml, mL]) (List.Mem.head _)).rd rfl underlying60 rfl) rfl ?_))))))
  refine Qx (AG rfl call34 rfl (Ks _ _ hq1 ⟨by omega, by omega⟩ _ _)) rfl ?_
  refine Qm rfl (Aq ?_)
  rw [hn]
  obtain ⟨m2, mb, ma, es, hgo, hOa, hes1, hes2, hto, hVk, hoth⟩ := strands_open hRt hBg hp hbd hV hnl (ml := ml)
  refine ws_gs hgo (ws_frz fun h9 l9 k9 => ?_)
  have hoth := hoth h9 k9
  generalize hls : L.map e = ls at hOl hnl hto hoth hOa hl0 hlen hgo
  have hRZ := hRZ.up l9
  have hS3 := hS3.le l9
  have hS6 := hS6.le l9
  have hmem : ml ∈ [mb, ma, ml] := List.Mem.tail _ (List.Mem.tail _ (List.Mem.head _))
  have hmea : ma ∈ [mb, ma, ml] := List.Mem.tail _ (List.Mem.head _)
  have hA30 := Seg.all hS3 0 _ rfl
  have hA31 := Seg.all hS3 1 _ rfl
  have hA32 := Seg.all hS3 2 _ rfl
  have hA33 := Seg.all hS3 3 _ rfl
  have hA34 := Seg.all hS3 4 _ rfl
  have orl : rs.oneCell' = true := (hOl.rd (h := h9) hmem).rd.one
  have oes : ls[n].v.oneCell' = true := (hOa.rd (h := h9) hmea).rd.one
  have hcv : Cell h9 [mb, ma, ml] (((Bl rs).add (n * 3)).add 2) ls[n].v := (hOl.rd (h := h9) hmem).cell hnl (f := 2) rfl
  refine Ax (Qm rfl (Qm rfl (Qx (Ah (n) (hOl.rd (h := h9) hmem).rd rfl underlying60 BP rfl rfl (by omega) (by omega)) rfl (Qm rfl (Aq (Ac (Ax (Qm rfl (Qm rfl (Qf CY rfl (Ql rfl underlying62 (hcv) (Qx (AJ (hOa.rd (h := h9) hmea).rd rfl underlying62 rfl) rfl (Qm rfl (Aq ?_))))))))))))))
  refine AF rfl (fun hz2 => ?_) (fun hz2 => ?_)
  ·exact absurd hz2 (by omega)
  ·obtain ⟨k, hk⟩ : ∃ k : Nat, q2 % (es.length : Int) = k := ⟨(q2 % (es.length : Int)).toNat, by have := Int.emod_nonneg q2 (show (es.length : Int) ≠ 0 by omega); omega⟩
   have hkl : k < es.length := by have := Int.emod_lt_of_pos q2 (show 0 < (es.length : Int) by omega); omega
   obtain ⟨yk, ck, hyk, hOk, hck, hbk⟩ := hVk k hkl
   have oek : es[k].oneCell' = true := (hOk.rd (h := h9) (ms := [yk]) (List.Mem.head _)).rd.one
   have hce : Cell h9 [mb, ma, ml] ((Bl ls[n].v).add (k * 1)) es[k] := (hOa.rd (h := h9) hmea).cell0 hkl rfl
   refine Ai (Ab (Ac (BB 7 Cd (by kernel_rfl) rfl (AV (C8 2 rfl underlying67 A8 rfl rfl rfl (by omega)) rfl rfl (Wl rfl underlying3 (hA32 _) (Wm rfl (Wm rfl (Wf CY rfl (Wl rfl underlying62 (hcv) (AV (AJ (hOa.rd (h := h9) hmea).rd rfl underlying62 rfl) rfl rfl (BC ?_)))))))))))
   refine Qx (AG rfl call34 rfl (Ks _ _ hq2 ⟨by omega, by omega⟩ _ _)) rfl ?_
   refine Qm rfl (Aq ?_)
   rw [hk]
   obtain ⟨c, hc⟩ : ∃ c : Int, q0 % 9 = c := ⟨_, rfl⟩
   have hcb : 0 ≤ c ∧ c < 9 := by rw [← hc]; exact ⟨Int.emod_nonneg _ (by decide), Int.emod_lt_of_pos _ (by decide)⟩
   have hks0 : ∀ h, h9.le h → ∀ a (ha : a < ls.length), a ≠ n → RdKs h ls[a] := fun h l a ha hne => (hoth a ha hne).ks.up l
   have hVk0 : OwV es mb := OwV.sim hVk (SimZ.refl _ _ _)
   refine Bv (fun sl hh ms' => ∃ (r : Value) (ls' : List StE), sl = [(5, .bool true), (6, .pointer (some ⟨g6, 0, none⟩)), (7, r)] ∧ h9.le hh ∧ ms' = [] ∧ RdL cS 3 hh [] r ls' ∧ (∀ s ∈ ls', RdKs hh s) ∧ ls'.length ≤ 1000000) ?_ (fun s h ms hI => ?_)
   ·refine Ac (Ad (Qx (C8 0 rfl underlying67 A8 rfl rfl rfl (by omega)) rfl (Ql rfl underlying3 (hA30 _) ?_)))
    refine Qx (AG rfl call34 rfl (Ks _ _ hq0 ⟨by decide, by decide⟩ _ _)) rfl ?_
    refine Aq (Ag ?_)
    rw [hc]
    refine Ax (Qm rfl (Qm rfl (Aq ?_)))
    refine AF rfl (fun c0 => ?_) (fun c0 => ?_)
    ·refine Ac (Ad (Qm rfl (Qm rfl (Qf CY rfl (Ql rfl underlying62 (hcv) (Qm rfl (Qx (Ah (k) (hOa.rd (h := h9) hmea).rd rfl underlying62 BN rfl rfl (by omega) (by omega)) rfl (Ql rfl underlying24 (hce) (Qx (CH (hOk.rd (h := h9) (ms := [yk]) (List.Mem.head _)).rd rfl underlying24 rfl) rfl (Qm rfl (Aq ?_)))))))))))
     refine AF rfl (fun hc1 => ?_) (fun hc1 => ?_)
     ·refine ws_gs (Goes.perm ((List.Perm.swap _ _ _).trans (List.Perm.cons _ (List.Perm.swap _ _ _)))) (Bg hOa fun h10 l10 hRa => (Bg hOl fun h11 l11 hRl => ?_))
      have hRa := hRa.up l11
      have l911 := Hp.le_trans l10 l11
      have hcv : ∀ ms, Cell h11 ms (((Bl rs).add (n * 3)).add 2) ls[n].v := fun ms => (hRl.any (ms := ms)).cell hnl (f := 2) rfl
      have hce : ∀ ms, Cell h11 ms ((Bl ls[n].v).add (k * 1)) es[k] := fun ms => (hRa.any (ms := ms)).cell0 hkl rfl
      have hS3 := hS3.le l911
      have hA33 := Seg.all hS3 3 _ rfl
      have hA34 := Seg.all hS3 4 _ rfl
      obtain ⟨j, hj⟩ : ∃ j : Nat, q3 % (ck.length : Int) = j := ⟨(q3 % (ck.length : Int)).toNat, by have := Int.emod_nonneg q3 (show (ck.length : Int) ≠ 0 by omega); omega⟩
      have hjl : j < ck.length := by have := Int.emod_lt_of_pos q3 (show 0 < (ck.length : Int) by omega); omega
      refine AW (n := 22) (bs := [true, true, true, true, true, true, true, true, true, true, true, true, true, true, true, true, true, true, true, true, true, false]) [true, true, true, true, true, true, true, true, true, true, true, true, true, true, true, true, true, true, true, true, true] Cd (by kernel_rfl) (by kernel_rfl) rfl rfl (Qq rfl (Qq rfl (QF CY rfl (QL rfl underlying62 (hcv _) (Qq rfl (Qp rfl (Bo (k) (hRa.rd) rfl underlying62 BN rfl rfl (by omega) (by omega)) (QL rfl underlying24 (hce _) (Qp rfl (C8 3 rfl underlying67 A8 rfl rfl rfl (by omega)) (QL rfl underlying3 (hA33 _) (Qq rfl (Qq rfl (QF CY rfl (QL rfl underlying62 (hcv _) (Qq rfl (Qp rfl (Bo (k) (hRa.rd) rfl underlying62 BN rfl rfl (by omega) (by omega)) (QL rfl underlying24 (hce _) (Qp rfl (CH (hOk.rd (h := h9) (ms := [yk]) (List.Mem.head _)).rd rfl underlying24 rfl) ?_)))))))))))))))))
      refine Qp rfl (AG rfl call34 rfl (modj_v hj hq3 ⟨by omega, by omega⟩ _ _)) ?_
      refine Qp rfl (C8 4 rfl underlying67 A8 rfl rfl rfl (by omega)) (QL rfl underlying3 (hA34 _) (Qp rfl (Bo (j) (hOk.rd (h := h9) (ms := [yk]) (List.Mem.head _)).rd rfl underlying24 A8 rfl rfl (by omega) (by omega)) ?_))
      unfold CD
      simp only [List.cons_append, List.nil_append]
      refine Qo 21 rfl (wl_storeZ (p := fun _ => True) j hOk (fun _ _ => trivial) trivial hyk (SimZ.refl _ _ _) rfl A8 rfl rfl hjl rfl rfl (fun mb' hS' => Qw (Qe (MK fun h12 l12 k12 => ?_))))
      exact Aj (AA _ ⟨rs, ls, rfl, Hp.le_trans l911 l12, rfl, hRl.up l12, ks_all hnl (hks0 _ (Hp.le_trans l911 l12)) ⟨es, hRa.up l12, fun u hu => let ⟨y, c, hy, O⟩ := OwV.sim (p := fun _ => True) (fun k hk => let ⟨y, c, a1, a2, a3, _⟩ := hVk k hk; ⟨y, c, a1, a2, a3, fun _ _ => trivial⟩) hS' u hu; ⟨c, O.rdh (Hp.le_trans hy k12)⟩⟩, by omega⟩ Qs)
     ·refine Ai (Aj (MK fun h10 l10 k10 => (MK fun h11 l11 k11 => (MK fun h12 l12 k12 => ?_))))
      have l912 := Hp.le_trans l10 (Hp.le_trans l11 l12)
      exact AA _ ⟨rs, ls, rfl, l912, rfl, hOl.rdh k12, ks_all hnl (hks0 _ l912) (hVk0.ks hOa (Hp.le_trans k11 l12) (Hp.le_trans k10 (Hp.le_trans l11 l12))), by omega⟩ Qs
    ·refine Ac (Ad (Qm rfl (Qm rfl (Aq ?_))))
     refine AF rfl (fun c1 => ?_) (fun c1 => ?_)
     ·refine Ad (Qm rfl (Qx (C8 3 rfl underlying67 A8 rfl rfl rfl (by omega)) rfl (Ql rfl underlying3 (hA33 _) (Qm rfl (Qf E0 rfl ?_)))))
      refine wl_storePart 2 n 0 ⟨q3, ls[n].to, ls[n].v, ls[n].one⟩ [.int .i64 q3] hOl rfl A8 (by rw [DK]; rfl) rfl rfl rfl (by simp [Value.oneCell']) rfl hnl (by omega) rfl rfl rfl (fun ml' hOl' => ?_)
      refine Ak (Aj (MK fun h10 l10 k10 => (MK fun h11 l11 k11 => (MK fun h12 l12 k12 => ?_))))
      have l912 := Hp.le_trans l10 (Hp.le_trans l11 l12)
      exact AA _ ⟨rs, _, rfl, l912, rfl, hOl'.rdh k12, ks_set (hks0 _ l912) (hVk0.ks (s := ⟨q3, ls[n].to, ls[n].v, ls[n].one⟩) hOa (Hp.le_trans k11 l12) (Hp.le_trans k10 (Hp.le_trans l11 l12))), by rw [List.length_set]; omega⟩ Qs
     ·refine Ac (Ad (Qm rfl (Qm rfl (Aq ?_))))
      refine AF rfl (fun c2 => ?_) (fun c2 => ?_)
      ·refine Ad (Qm rfl (Qx (C8 3 rfl underlying67 A8 rfl rfl rfl (by omega)) rfl (Ql rfl underlying3 (hA33 _) (Qm rfl (Qf Fd rfl ?_)))))
       refine wl_storePart 2 n 1 ⟨ls[n].fr, q3, ls[n].v, ls[n].one⟩ [.int .i64 q3] hOl rfl A8 rfl rfl rfl rfl (by simp [Value.oneCell']) rfl hnl (by omega) rfl rfl rfl (fun ml' hOl' => ?_)
       refine Ak (Aj (MK fun h10 l10 k10 => (MK fun h11 l11 k11 => (MK fun h12 l12 k12 => ?_))))
       have l912 := Hp.le_trans l10 (Hp.le_trans l11 l12)
       exact AA _ ⟨rs, _, rfl, l912, rfl, hOl'.rdh k12, ks_set (hks0 _ l912) (hVk0.ks (s := ⟨ls[n].fr, q3, ls[n].v, ls[n].one⟩) hOa (Hp.le_trans k11 l12) (Hp.le_trans k10 (Hp.le_trans l11 l12))), by rw [List.length_set]; omega⟩ Qs
      ·refine Ac (Ad (Qm rfl (Qm rfl (Aq ?_))))
       refine AF rfl (fun c3 => ?_) (fun c3 => ?_)
       ·have hcvm : ∀ h ms, ml ∈ ms → Cell h ms (((Bl rs).add (n * 3)).add 2) ls[n].v := fun h ms hm => (hOl.rd (h := h) hm).cell hnl (f := 2) rfl
        refine AW (n := 13) (bs := [true, true, true, true, false, true, true, false, false, false, true, true, false]) [true, true, true, true, false, true, true, false, false, false, true, true] Cd (by kernel_rfl) (by kernel_rfl) rfl rfl (Qq rfl (Qq rfl (Qq rfl (QF CY rfl (Qp rfl (C8 3 rfl underlying67 A8 rfl rfl rfl (by omega)) (QL rfl underlying3 (hA33 _) (Qq rfl (QF CY rfl ?_))))))))
        unfold CD
        simp only [List.cons_append, List.nil_append]
        refine A2 [4, 7] (by kernel_rfl) rfl ?_
        refine Az rfl ?_ ?_
        ·refine Ql rfl underlying62 (hcvm _ _ (by repeat (first | exact List.Mem.head _ | refine List.Mem.tail _ ?_))) ?_
         refine Qw (Qo 7 rfl ?_)
         refine AB [_] rfl underlying24 A8 rfl (by rfl) rfl rfl (by omega) rfl rfl rfl (fun g110 => ?_)
         refine Qw (Qo 8 rfl ?_)
         refine AB [_] rfl underlying62 BN rfl (by rfl) rfl rfl (by omega) rfl rfl rfl (fun g111 => ?_)
         refine Qw (Qo 9 rfl ?_)
         refine Ba 3 hOa (RdL.one BK (x := .slice (some ⟨g110, 0, none⟩) 1 1) (List.Mem.head _) rfl) rfl underlying62 BN rfl (by omega) rfl rfl rfl (Cj rfl) (by (try simp only [List.length_singleton]); omega) (by (try simp only [List.length_singleton]); omega) rfl rfl rfl (fun v3 ma3 hOa3 => ?_)
         have ov3 : v3.oneCell' = true := (hOa3.rd (h := h9) (ms := [ma3]) (List.Mem.head _)).rd.one
         refine Qw (Qo 12 rfl ?_)
         refine wl_storePart 4 n 2 ⟨ls[n].fr, ls[n].to, v3, ov3⟩ [v3] hOl rfl Co rfl rfl (hOa3.rd (h := h9) (ms := [ma3]) (List.Mem.head _)).rd.cells rfl (fun c hc => by rw [List.mem_singleton.1 hc]; exact ov3) rfl hnl (by omega) rfl rfl rfl (fun ml' hOl' => ?_)
         refine Qw (Qe (MK fun h10 l10 k10 => (MK fun h11 l11 k11 => (MK fun h12 l12 k12 => (MK fun h13 l13 k13 => (MK fun h14 l14 k14 => ?_))))))
         have l1214 := Hp.le_trans l13 l14
         have l1114 := Hp.le_trans l12 l1214
         have l914 := Hp.le_trans l10 (Hp.le_trans l11 l1114)
         exact Aj (AA _ ⟨rs, _, rfl, l914, rfl, hOl'.rdh k14, ks_set (hks0 _ l914) ⟨_, hOa3.rdh (Hp.le_trans k13 l14), fun u hu => by rcases List.mem_append.1 hu with h | h; exact let ⟨y, c, hy, O⟩ := hVk0 u h; ⟨c, O.rdh (Hp.le_trans hy (Hp.le_trans k12 l1214))⟩; exact ⟨[q3], by rw [List.mem_singleton.1 h]; exact (OwnL.blk (g := g110) (el := 3) (F := cI) (l := [q3]) 1 Br rfl (by decide)).rdh (Hp.le_trans k11 l1114)⟩⟩, by rw [List.length_set]; omega⟩ Qs)
        refine Az rfl ?_ ?_
        ·refine AB [_] rfl underlying24 A8 rfl (by rfl) rfl rfl (by omega) rfl rfl rfl (fun g110 => ?_)
         refine Qw (A2 [4, 8] (by kernel_rfl) rfl ?_)
         refine Az rfl ?_ ?_
         ·refine Ql rfl underlying62 (hcvm _ _ (by repeat (first | exact List.Mem.head _ | refine List.Mem.tail _ ?_))) ?_
          refine Qw (Qo 8 rfl ?_)
          refine AB [_] rfl underlying62 BN rfl (by rfl) rfl rfl (by omega) rfl rfl rfl (fun g111 => ?_)
          refine Qw (Qo 9 rfl ?_)
          refine Ba 3 hOa (RdL.one BK (x := .slice (some ⟨g110, 0, none⟩) 1 1) (List.Mem.head _) rfl) rfl underlying62 BN rfl (by omega) rfl rfl rfl (Cj rfl) (by (try simp only [List.length_singleton]); omega) (by (try simp only [List.length_singleton]); omega) rfl rfl rfl (fun v3 ma3 hOa3 => ?_)
          have ov3 : v3.oneCell' = true := (hOa3.rd (h := h9) (ms := [ma3]) (List.Mem.head _)).rd.one
          refine Qw (Qo 12 rfl ?_)
          refine wl_storePart 4 n 2 ⟨ls[n].fr, ls[n].to, v3, ov3⟩ [v3] hOl rfl Co rfl rfl (hOa3.rd (h := h9) (ms := [ma3]) (List.Mem.head _)).rd.cells rfl (fun c hc => by rw [List.mem_singleton.1 hc]; exact ov3) rfl hnl (by omega) rfl rfl rfl (fun ml' hOl' => ?_)
          refine Qw (Qe (MK fun h10 l10 k10 => (MK fun h11 l11 k11 => (MK fun h12 l12 k12 => (MK fun h13 l13 k13 => (MK fun h14 l14 k14 => ?_))))))
          have l1214 := Hp.le_trans l13 l14
          have l1114 := Hp.le_trans l12 l1214
          have l914 := Hp.le_trans l10 (Hp.le_trans l11 l1114)
          exact Aj (AA _ ⟨rs, _, rfl, l914, rfl, hOl'.rdh k14, ks_set (hks0 _ l914) ⟨_, hOa3.rdh (Hp.le_trans k13 l14), fun u hu => by rcases List.mem_append.1 hu with h | h; exact let ⟨y, c, hy, O⟩ := hVk0 u h; ⟨c, O.rdh (Hp.le_trans hy (Hp.le_trans k12 l1214))⟩; exact ⟨[q3], by rw [List.mem_singleton.1 h]; exact (OwnL.blk (g := g110) (el := 3) (F := cI) (l := [q3]) 1 Br rfl (by decide)).rdh (Hp.le_trans k11 l1114)⟩⟩, by rw [List.length_set]; omega⟩ Qs)
         refine Az rfl ?_ ?_
         ·refine AB [_] rfl underlying62 BN rfl (by rfl) rfl rfl (by omega) rfl rfl rfl (fun g111 => ?_)
          refine Qw (Qo 4 rfl ?_)
          refine Ql rfl underlying62 (hcvm _ _ (by repeat (first | exact List.Mem.head _ | refine List.Mem.tail _ ?_))) ?_
          refine Qw (Qo 9 rfl ?_)
          refine Ba 3 hOa (RdL.one BK (x := .slice (some ⟨g110, 0, none⟩) 1 1) (List.Mem.head _) rfl) rfl underlying62 BN rfl (by omega) rfl rfl rfl (Cj rfl) (by (try simp only [List.length_singleton]); omega) (by (try simp only [List.length_singleton]); omega) rfl rfl rfl (fun v3 ma3 hOa3 => ?_)
          have ov3 : v3.oneCell' = true := (hOa3.rd (h := h9) (ms := [ma3]) (List.Mem.head _)).rd.one
          refine Qw (Qo 12 rfl ?_)
          refine wl_storePart 4 n 2 ⟨ls[n].fr, ls[n].to, v3, ov3⟩ [v3] hOl rfl Co rfl rfl (hOa3.rd (h := h9) (ms := [ma3]) (List.Mem.head _)).rd.cells rfl (fun c hc => by rw [List.mem_singleton.1 hc]; exact ov3) rfl hnl (by omega) rfl rfl rfl (fun ml' hOl' => ?_)
          refine Qw (Qe (MK fun h10 l10 k10 => (MK fun h11 l11 k11 => (MK fun h12 l12 k12 => (MK fun h13 l13 k13 => (MK fun h14 l14 k14 => ?_))))))
          have l1214 := Hp.le_trans l13 l14
          have l1114 := Hp.le_trans l12 l1214
          have l914 := Hp.le_trans l10 (Hp.le_trans l11 l1114)
          exact Aj (AA _ ⟨rs, _, rfl, l914, rfl, hOl'.rdh k14, ks_set (hks0 _ l914) ⟨_, hOa3.rdh (Hp.le_trans k13 l14), fun u hu => by rcases List.mem_append.1 hu with h | h; exact let ⟨y, c, hy, O⟩ := hVk0 u h; ⟨c, O.rdh (Hp.le_trans hy (Hp.le_trans k12 l1214))⟩; exact ⟨[q3], by rw [List.mem_singleton.1 h]; exact (OwnL.blk (g := g110) (el := 3) (F := cI) (l := [q3]) 1 Br rfl (by decide)).rdh (Hp.le_trans k11 l1114)⟩⟩, by rw [List.length_set]; omega⟩ Qs)
         exact A3
        exact A3
       ·refine Ac (Ad (Qm rfl (Qm rfl (Aq ?_))))
        refine AF rfl (fun c4 => ?_) (fun c4 => ?_)
        ·refine AW (n := 9) (bs := [true, true, true, true, true, true, true, false, false]) [true, true, true, true, true, true, true] Cd (by kernel_rfl) (by kernel_rfl) rfl rfl (Qq rfl (Qq rfl (Qp rfl (ox_sliceShC (n) (hOl.rd (h := h9) hmem).rd rfl underlying60 BP rfl rfl (by omega) (by omega)) (Qq rfl (Qq rfl (Qp rfl (oA rfl) (Qp rfl (Lo (n + 1) (hOl.rd (h := h9) hmem).rd rfl underlying60 BP rfl rfl (by omega) (by omega)) ?_)))))))
         unfold CD
         simp only [List.cons_append, List.nil_append]
         refine Qo 7 rfl ?_
         refine Bm 2 (hOl.pre (Nat.le_of_lt hnl)) ((hOl.rd (h := h9) hmem).sub_ (show n + 1 ≤ ls.length by omega) (Nat.le_refl _)) rfl underlying60 BP rfl (by omega) rfl rfl rfl Mi (by (try simp only [List.length_take, List.length_drop]); omega) (by (try simp only [List.length_take, List.length_drop]); omega) rfl rfl rfl (fun r4 ml4 hOl4 => ?_)
         refine Qw (Qo 8 rfl (Qm rfl (Qw (Qe (MK fun h10 l10 k10 => (MK fun h11 l11 k11 => (MK fun h12 l12 k12 => ?_)))))))
         have l912 := Hp.le_trans l10 (Hp.le_trans l11 l12)
         have hall := ks_all hnl (hks0 _ l912) (hVk0.ks hOa (Hp.le_trans k11 l12) (Hp.le_trans k10 (Hp.le_trans l11 l12)))
         exact Aj (AA _ ⟨r4, _, rfl, l912, rfl, hOl4.rdh k12, fun s hs => by rcases List.mem_append.1 hs with h | h; exact hall s (List.mem_of_mem_take h); exact hall s (List.mem_of_mem_drop (List.mem_of_mem_take h)), by rw [List.length_append, List.length_take, List.length_take, List.length_drop]; omega⟩ Qs)
        ·refine Ac (Ad (Qm rfl (Qm rfl (Aq ?_))))
         refine AF rfl (fun c5 => ?_) (fun c5 => ?_)
         ·have hsg : Seg h9 [mb, ma, ml] ((Bl rs).add (n * 3)) (cS ls[n]) := (hOl.rd (h := h9) hmem).seg hnl
          refine Ad (Qm rfl (Qm rfl (Qm rfl (Qx (oG rfl underlying64 BP (hsg)) rfl ?_))))
          refine AB [_, _, _] rfl underlying60 BP rfl (by rfl) rfl rfl (by omega) rfl rfl rfl (fun g131 => ?_)
          refine Bm 3 hOl (RdL.one ML (x := ls[n]) (List.Mem.head _) rfl) rfl underlying60 BP rfl (by omega) rfl rfl rfl Mi (by (try simp only [List.length_singleton]); omega) (by (try simp only [List.length_singleton]); omega) rfl rfl rfl (fun r5 ml5 hOl5 => ?_)
          refine Qm rfl (Ak (Aj (MK fun h10 l10 k10 => (MK fun h11 l11 k11 => (MK fun h12 l12 k12 => (MK fun h13 l13 k13 => ?_))))))
          have l1113 := Hp.le_trans l12 l13
          have l913 := Hp.le_trans l10 (Hp.le_trans l11 l1113)
          have hall := ks_all hnl (hks0 _ l913) (hVk0.ks hOa (Hp.le_trans k12 l13) (Hp.le_trans k11 l1113))
          exact AA _ ⟨r5, _, rfl, l913, rfl, hOl5.rdh k13, fun s hs => by rcases List.mem_append.1 hs with h | h; exact hall s h; rw [List.mem_singleton.1 h]; exact hall _ (List.getElem_mem hnl), by rw [List.length_append, List.length_singleton]; omega⟩ Qs
         ·refine Ac (Ad (Qm rfl (Qm rfl (Aq ?_))))
          refine AF rfl (fun c6 => ?_) (fun c6 => ?_)
          ·refine ws_gs (Goes.perm (List.Perm.cons _ (List.Perm.swap _ _ _))) (ws_frz fun h10 l10 k10 => (Bg hOl fun h11 l11 hRl => ?_))
           have l911 := Hp.le_trans l10 l11
           have hS3 := hS3.le l911
           have hA33 := Seg.all hS3 3 _ rfl
           obtain ⟨a, ha⟩ : ∃ a : Nat, q3 % (ls.length : Int) = a := ⟨(q3 % (ls.length : Int)).toNat, by have := Int.emod_nonneg q3 (show (ls.length : Int) ≠ 0 by omega); omega⟩
           have hal : a < ls.length := by have := Int.emod_lt_of_pos q3 (show 0 < (ls.length : Int) by omega); omega
           obtain ⟨u6, c6', m0, cs0, h0, ms0, hc6, hu6, hR6, hRd, hm0⟩ : ∃ (u : Value) (c : List Int) (m0 : Nat) (cs0 : List Value) (h0 : Hp) (ms0 : List Hp), c.length ≤ 200 ∧ (∀ h ms, h11.le h → ma ∈ ms → Cell h ms ((Bl ls[a].v).add (0 * 1)) u) ∧ RdL cI 1 h11 [] u c ∧ Rd h0 ms0 ls[a].v 1 m0 cs0 ∧ 0 < m0 := by
            by_cases e : a = n
            ·subst e
             obtain ⟨y, c, hy, O, hc, _⟩ := hVk 0 (by omega)
             exact ⟨es[0], c, _, _, h9, [ma], hc, fun h ms _ hm => (hOa.rd (h := h) hm).cell0 (by omega) rfl, O.rdh (Hp.le_trans hy (Hp.le_trans k10 l11)), (hOa.rd (h := h9) (ms := [ma]) (List.Mem.head _)).rd, by omega⟩
            ·obtain ⟨es', h1, h2, h3⟩ := hoth a hal e
             obtain ⟨c, hc, hR⟩ := h3 es'[0] (List.getElem_mem (by omega))
             exact ⟨es'[0], c, _, _, h9, [], hc, fun h ms hl _ => ((h2.up (Hp.le_trans l911 hl)).any (ms := ms)).cell0 (by omega) rfl, hR.up l911, h2.rd, by omega⟩
           have hcvn : ∀ ms, Cell h11 ms (((Bl rs).add (n * 3)).add 2) ls[n].v := fun ms => (hRl.any (ms := ms)).cell hnl (f := 2) rfl
           have hcva : ∀ ms, Cell h11 ms (((Bl rs).add (a * 3)).add 2) ls[a].v := fun ms => (hRl.any (ms := ms)).cell hal (f := 2) rfl
           have ou6 := hR6.rd.one
           refine AW (n := 20) (bs := [true, true, true, true, true, false, true, true, true, true, true, true, true, true, true, true, false, false, true, false]) [true, true, true, true, true, false, true, true, true, true, true, true, true, true, true, true, false, false, true] Cd (by kernel_rfl) (by kernel_rfl) rfl rfl (Qq rfl (Qq rfl (QF CY rfl (QL rfl underlying62 (hcvn _) (Qq rfl (Qq rfl (Qp rfl (C8 3 rfl underlying67 A8 rfl rfl rfl (by omega)) (QL rfl underlying3 (hA33 _) (Qq rfl (Qp rfl (CH (hRl.rd) rfl underlying60 rfl) ?_))))))))))
           refine Qp rfl (AG rfl call34 rfl (modj_v ha hq3 ⟨by omega, by omega⟩ _ _)) ?_
           refine Qp rfl (Bo (a) (hRl.rd) rfl underlying60 BP rfl rfl (by omega) (by omega)) (QF CY rfl (QL rfl underlying62 (hcva _) (Qp rfl (Bo (0) hRd rfl underlying62 BN rfl rfl (by omega) (by omega)) (Qp rfl (Bo (k) (hOa.rd (h := h9) hmea).rd rfl underlying62 BN rfl rfl (by omega) (by omega)) ?_))))
           unfold CD
           simp only [List.cons_append, List.nil_append]
           refine A2 [5, 16] (by kernel_rfl) rfl ?_
           refine Az rfl ?_ ?_
           ·refine AZ [] [] [] rfl underlying24 A8 rfl (by omega) (by kernel_rfl) (by repeat (first | exact trivial | refine ⟨⟨by first | rfl | exact ((hOl.rd (h := h9) hmem).rd).cells | exact ((hOa.rd (h := h9) hmea).rd).cells | exact ((hRl.rd)).cells | exact ((hOa.rd (h := h9) hmea).rd).cells | exact (hRd).cells | exact Rd.cells ‹_› | exact (RdL.rd ‹_›).cells, rfl, rfl⟩, ?_⟩)) rfl rfl rfl rfl (fun g140 => ?_)
            refine Qw (Qo 16 rfl ?_)
            refine Ql rfl underlying24 (hu6 _ _ (Hp.le_refl _) (by repeat (first | exact List.Mem.head _ | refine List.Mem.tail _ ?_))) ?_
            refine Qw (Qo 17 rfl ?_)
            refine Bm 0 (OwnL.blk (g := g140) (el := 3) (F := cI) (l := []) 0 Br rfl (by decide)) hR6.any rfl underlying24 A8 rfl (by omega) rfl rfl rfl Cv (by (try simp only [List.length_nil]); omega) (by (try simp only [List.length_nil]); omega) rfl rfl rfl (fun v6 m6 hO6 => ?_)
            have ov6 : v6.oneCell' = true := (hO6.rd (h := h9) (ms := [m6]) (List.Mem.head _)).rd.one
            refine Qw (Qo 19 rfl (Ms (f := fun v => v) 1 k (fun _ => rfl) hOa rfl BN rfl rfl ov6 rfl hkl rfl rfl (fun ma' hOa' => Qw (Qe (MK fun h12 l12 k12 => (MK fun h13 l13 k13 => ?_))))))
            have l1113 := Hp.le_trans l12 l13
            have l913 := Hp.le_trans l911 l1113
            exact Aj (AA _ ⟨rs, ls, rfl, l913, rfl, hRl.up l1113, ks_all hnl (hks0 _ l913) ⟨_, hOa'.rdh k13, fun u hu => by rcases List.mem_or_eq_of_mem_set hu with h | h; exact let ⟨y, c, hy, O⟩ := hVk0 u h; ⟨c, O.rdh (Hp.le_trans hy (Hp.le_trans k10 (Hp.le_trans l11 l1113)))⟩; exact ⟨_, by rw [h]; exact hO6.rdh (Hp.le_trans k12 l13)⟩⟩, by omega⟩ Qs)
           refine Az rfl ?_ ?_
           ·refine Ql rfl underlying24 (hu6 _ _ (Hp.le_refl _) (by repeat (first | exact List.Mem.head _ | refine List.Mem.tail _ ?_))) ?_
            refine Qw (Qo 5 rfl ?_)
            refine AZ [] [] [] rfl underlying24 A8 rfl (by omega) (by kernel_rfl) (by repeat (first | exact trivial | refine ⟨⟨by first | rfl | exact ((hOl.rd (h := h9) hmem).rd).cells | exact ((hOa.rd (h := h9) hmea).rd).cells | exact ((hRl.rd)).cells | exact ((hOa.rd (h := h9) hmea).rd).cells | exact (hRd).cells | exact Rd.cells ‹_› | exact (RdL.rd ‹_›).cells, rfl, rfl⟩, ?_⟩)) rfl rfl rfl rfl (fun g140 => ?_)
            refine Qw (Qo 17 rfl ?_)
            refine Bm 0 (OwnL.blk (g := g140) (el := 3) (F := cI) (l := []) 0 Br rfl (by decide)) hR6.any rfl underlying24 A8 rfl (by omega) rfl rfl rfl Cv (by (try simp only [List.length_nil]); omega) (by (try simp only [List.length_nil]); omega) rfl rfl rfl (fun v6 m6 hO6 => ?_)
            have ov6 : v6.oneCell' = true := (hO6.rd (h := h9) (ms := [m6]) (List.Mem.head _)).rd.one
            refine Qw (Qo 19 rfl (Ms (f := fun v => v) 1 k (fun _ => rfl) hOa rfl BN rfl rfl ov6 rfl hkl rfl rfl (fun ma' hOa' => Qw (Qe (MK fun h12 l12 k12 => (MK fun h13 l13 k13 => ?_))))))
            have l1113 := Hp.le_trans l12 l13
            have l913 := Hp.le_trans l911 l1113
            exact Aj (AA _ ⟨rs, ls, rfl, l913, rfl, hRl.up l1113, ks_all hnl (hks0 _ l913) ⟨_, hOa'.rdh k13, fun u hu => by rcases List.mem_or_eq_of_mem_set hu with h | h; exact let ⟨y, c, hy, O⟩ := hVk0 u h; ⟨c, O.rdh (Hp.le_trans hy (Hp.le_trans k10 (Hp.le_trans l11 l1113)))⟩; exact ⟨_, by rw [h]; exact hO6.rdh (Hp.le_trans k12 l13)⟩⟩, by omega⟩ Qs)
           exact A3
          ·refine Ac (Ad (Qm rfl (Qm rfl (Aq ?_))))
           refine AF rfl (fun c7 => ?_) (fun c7 => ?_)
           ·refine ws_gs (Goes.perm ((List.Perm.swap _ _ _).trans (List.Perm.cons _ (List.Perm.swap _ _ _)))) (Bg hOa fun h10 l10 hRa => (Bg hOl fun h11 l11 hRl => ?_))
            have hRa := hRa.up l11
            have l911 := Hp.le_trans l10 l11
            have hS3 := hS3.le l911
            have hS6 := hS6.le l911
            have hA33 := Seg.all hS3 3 _ rfl
            have hA6 := Seg.all hS6
            have hA60 := hA6 0 _ rfl
            have hcvn : ∀ ms, Cell h11 ms (((Bl rs).add (n * 3)).add 2) ls[n].v := fun ms => (hRl.any (ms := ms)).cell hnl (f := 2) rfl
            obtain ⟨w, hw⟩ : ∃ w : Int, q3 % (Z.p - 1) = w := ⟨_, rfl⟩
            have hwb : 0 ≤ w ∧ w < Z.p - 1 := by rw [← hw]; exact ⟨Int.emod_nonneg _ (by omega), Int.emod_lt_of_pos _ (by omega)⟩
            refine Ax (Qm rfl (Qm rfl (Qf CY rfl (Ql rfl underlying62 (hcvn _) (Qx (CH hRa.rd rfl underlying62 rfl) rfl (Qm rfl (Aq (Ag ?_))))))))
            refine AD (fun q sl hh ms' => ∃ (b : Nat) (m : Hp), q = es.length - b ∧ sl = [(5, .bool true), (6, .pointer (some ⟨g6, 0, none⟩)), (7, rs), (3, .pointer (some ⟨g3, 0, none⟩)), (159, ls[n].v), (160, .int .i64 es.length), (161, .int .i64 b)] ∧ h11 = hh ∧ ms' = [m] ∧ b ≤ es.length ∧ SimZ (fun x => 0 ≤ x ∧ x < Z.p) 3 mb m)
             (es.length - 0) _ ⟨0, mb, rfl, rfl, rfl, rfl, by omega, SimZ.refl _ _ _⟩ Qs ?_
            rintro q sl hh ms' ⟨b, m, rfl, rfl, rfl, rfl, hb, hSim⟩
            refine Ax (Qm rfl (Aq (Ac ?_)))
            refine AF rfl (fun hlt2 => ?_) (fun hlt2 => ?_)
            ·have hbl : b < es.length := Bx hlt2
             obtain ⟨y, cb, hy, hOy, hcl, hcbd⟩ := hVk b hbl
             have hcu : ∀ ms, Cell h11 ms ((Bl ls[n].v).add (b * 1)) es[b] := fun ms => (hRa.any (ms := ms)).cell0 hbl rfl
             have ou : es[b].oneCell' = true := (hOy.rd (h := h11) (ms := [y]) (List.Mem.head _)).rd.one
             refine Ai (Ab (Ac (Ag (Ax (Qx (Bo (b) hRa.rd rfl underlying62 BN rfl rfl (by omega) (by omega)) rfl (Ql rfl underlying24 (hcu _) (Qm rfl (B3 (Qm rfl (Qx (CH (hOy.rd (h := h11) (ms := [y]) (List.Mem.head _)).rd rfl underlying24 rfl) rfl (Qm rfl (Aq (Ag ?_)))))))))))))
             refine AD (fun q sl h12 ms' => ∃ (d : Nat) (m : Hp), q = cb.length - d ∧ sl = [(5, .bool true), (6, .pointer (some ⟨g6, 0, none⟩)), (7, rs), (3, .pointer (some ⟨g3, 0, none⟩)), (12, es[b]), (159, ls[n].v), (160, .int .i64 es.length), (161, .int .i64 b), (166, .int .i64 cb.length), (167, .int .i64 d)] ∧ h11 = h12 ∧ ms' = [m] ∧ d ≤ cb.length ∧ SimZ (fun x => 0 ≤ x ∧ x < Z.p) 3 mb m)
              (cb.length - 0) _ ⟨0, m, rfl, rfl, rfl, rfl, by omega, hSim⟩ Qs ?_
             rintro q sl h12 ms' ⟨d, m, rfl, rfl, rfl, rfl, hd, hSim⟩
             refine Ax (Qm rfl (Aq (Ac ?_)))
             refine AF rfl (fun hlt3 => ?_) (fun hlt3 => ?_)
             ·have hdl : d < cb.length := Bx hlt3
              obtain ⟨y', cc, hy', hOc, hcc, hccb⟩ := hOy.simz hcbd hy hSim
              have hdl' : d < cc.length := by omega
              have hxb := hccb _ (List.getElem_mem hdl')
              have hmul : 0 ≤ cc[d] * (1 + w) ∧ cc[d] * (1 + w) ≤ 7 * 7 := ⟨Int.mul_nonneg hxb.1 (by omega), Int.mul_le_mul (by omega) (by omega) (by omega) (by omega)⟩
              have hcx : ∀ ms, m ∈ ms → Cell h11 ms ((Bl es[b]).add (d * 1)) (.int .i64 cc[d]) := fun ms hm => (hOc.rdm (h := h11) hy' hm).cell0 hdl' rfl
              have hres : 0 ≤ cc[d] * (1 + w) % Z.p ∧ cc[d] * (1 + w) % Z.p < Z.p := ⟨Int.emod_nonneg _ (by omega), Int.emod_lt_of_pos _ (by omega)⟩
              refine Ai (Ab ?_)
              refine Bv (fun sl h13 ms' => ∃ (m' : Hp), sl = [(5, .bool true), (6, .pointer (some ⟨g6, 0, none⟩)), (7, rs), (3, .pointer (some ⟨g3, 0, none⟩)), (12, es[b]), (159, ls[n].v), (160, .int .i64 es.length), (161, .int .i64 b), (166, .int .i64 cb.length), (167, .int .i64 d)] ∧ h11 = h13 ∧ ms' = [m'] ∧ SimZ (fun x => 0 ≤ x ∧ x < Z.p) 3 mb m') ?_ (fun s h ms hI => ?_)
              ·refine Ag (Ax (Qm rfl (Qm rfl (Aq (AW (n := 19) (bs := [true, true, true, true, true, false, true, true, true, true, true, true, true, false, true, true, false, true, false]) [true, true, true, true, true, false, true, true, true, true, true, true, true, false, true, true, false, true] Cd (by kernel_rfl) (by kernel_rfl) rfl rfl (Qq rfl (Qq rfl (Qq rfl (Qq rfl (Qp rfl (Bo (d) (hOy.rd (h := h11) (ms := [y]) (List.Mem.head _)).rd rfl underlying24 A8 rfl rfl (by omega) (by omega)) (Qp rfl (C8 3 rfl underlying67 A8 rfl rfl rfl (by omega)) (QL rfl underlying3 (hA33 _) (QF CG rfl (QL rfl underlying3 (hA60 _) (Qp rfl (oS rfl) ?_)))))))))))))))
               refine Qp rfl (AG rfl call34 rfl (modj_v hw hq3 ⟨by omega, by omega⟩ _ _)) ?_
               refine Qp rfl (oA rfl) (QF CG rfl (QL rfl underlying3 (hA60 _) (Qp rfl (Bo (d) (hOy.rd (h := h11) (ms := [y]) (List.Mem.head _)).rd rfl underlying24 A8 rfl rfl (by omega) (by omega)) ?_)))
               unfold CD
               simp only [List.cons_append, List.nil_append]
               refine Qo 5 rfl (Ql rfl underlying3 (hcx _ (List.Mem.head _)) (Qw (An 13 183 (by kernel_rfl) rfl (Hp.le_refl _) rfl (oM rfl) (An 16 186 (by kernel_rfl) rfl (Hp.le_refl _) rfl (B0 rfl rfl rfl (by omega) (by omega)) (Qo 18 rfl (wl_storeZ d hOy hcbd hres hy hSim rfl A8 rfl rfl hdl rfl rfl (fun m' hS' => Qw (Qe ?_))))))))
               exact Aj (AA _ ⟨m', rfl, rfl, rfl, hS'⟩ Qs)
              ·obtain ⟨m', rfl, rfl, rfl, hS'⟩ := hI
               refine Ad (Qx (oA rfl) rfl (Qm rfl (Ak ?_)))
               exact Al (cb.length - (d + 1)) _ (by omega) ⟨d + 1, m', rfl, rfl, rfl, rfl, by omega, hS'⟩ Qs
             ·refine Aw (Aa (Aa (Af (Aj (Ab (Ad (Qx (oA rfl) rfl (Qm rfl (Ak ?_)))))))))
              exact Al (es.length - (b + 1)) _ (by omega) ⟨b + 1, m, rfl, rfl, rfl, rfl, by omega, hSim⟩ Qs
            ·refine Aw (Aa (Aa (Af (Aj (MK fun h12 l12 k12 => ?_)))))
             have hV' := OwV.sim hVk hSim
             exact AA _ ⟨rs, ls, rfl, Hp.le_trans l911 l12, rfl, hRl.up l12, ks_all hnl (hks0 _ (Hp.le_trans l911 l12)) ⟨es, hRa.up l12, fun u hu => let ⟨y, c, hy, O⟩ := hV' u hu; ⟨c, O.rdh (Hp.le_trans hy k12)⟩⟩, by omega⟩ Qs
           ·refine Ac (Ad (Qm rfl (Qm rfl (Aq ?_))))
            refine AF rfl (fun c8 => ?_) (fun c8 => ?_)
            ·have hto1 := hto.1
             have hto2 := hto.2
             have hct : Cell h9 [mb, ma, ml] (((Bl rs).add (n * 3)).add 1) (.int .i64 ls[n].to) := (hOl.rd (h := h9) hmem).cell hnl (f := 1) rfl
             refine Ax (Qm rfl (Qm rfl (Qf Fd rfl (Ql rfl underlying3 (hct) (Qx (oS rfl) rfl (Qm rfl (Qf Fd rfl ?_)))))))
             refine wl_storePart 2 n 1 ⟨ls[n].fr, ls[n].to - 1, ls[n].v, ls[n].one⟩ [.int .i64 (ls[n].to - 1)] hOl rfl A8 rfl rfl rfl rfl (by simp [Value.oneCell']) rfl hnl (by omega) rfl rfl rfl (fun ml' hOl' => ?_)
             have hnl' : n < (ls.set n ⟨ls[n].fr, ls[n].to - 1, ls[n].v, ls[n].one⟩).length := by rw [List.length_set]; exact hnl
             have hcv8 : ∀ h ms, ml' ∈ ms → Cell h ms (((Bl rs).add (n * 3)).add 2) ls[n].v := fun h ms hm => (hOl'.rd (h := h) hm).cell hnl' (f := 2) (by rw [List.getElem_set_self]; rfl)
             have hR8 := (hOa.rd (h := h9) (ms := [ma]) (List.Mem.head _)).sub_ (show 0 ≤ es.length - 1 by omega) (show es.length - 1 ≤ es.length by omega)
             have ov8 : (Ch 1 ls[n].v 0 (es.length - 1)).oneCell' = true := hR8.rd.one
             refine Aq (AW (n := 15) (bs := [true, true, true, true, false, true, true, true, false, false, false, false, true, true, false]) [true, true, true, true, false, true, true, true, false, false, false, false, true, true] Cd (by kernel_rfl) (by kernel_rfl) rfl rfl (Qq rfl (Qq rfl (Qq rfl (QF CY rfl (Qq rfl (Qq rfl (QF CY rfl (Qq rfl (QF CY rfl ?_))))))))))
             unfold CD
             simp only [List.cons_append, List.nil_append]
             refine A2 [4, 8] (by kernel_rfl) rfl ?_
             refine Az rfl ?_ ?_
             ·refine Ql rfl underlying62 (hcv8 _ _ (by repeat (first | exact List.Mem.head _ | refine List.Mem.tail _ ?_))) ?_
              refine Qw (Qo 8 rfl ?_)
              refine Ql rfl underlying62 (hcv8 _ _ (by repeat (first | exact List.Mem.head _ | refine List.Mem.tail _ ?_))) ?_
              refine Qw (An 9 208 (by kernel_rfl) rfl (Hp.le_refl _) rfl (CH (hOa.rd (h := h9) hmea).rd rfl underlying62 rfl) (An 10 209 (by kernel_rfl) rfl (Hp.le_refl _) rfl (oS rfl) (An 11 210 (by kernel_rfl) rfl (Hp.le_refl _) rfl (ox_sliceShC (es.length - 1) (hOa.rd (h := h9) hmea).rd rfl underlying62 BN rfl rfl (by omega) (by omega)) (Qo 14 rfl ?_))))
              refine wl_storePart 2 n 2 ⟨ls[n].fr, ls[n].to - 1, Ch 1 ls[n].v 0 (es.length - 1), ov8⟩ [Ch 1 ls[n].v 0 (es.length - 1)] hOl' rfl Co rfl rfl hR8.rd.cells rfl (fun c hc => by rw [List.mem_singleton.1 hc]; exact ov8) rfl hnl' (by omega) (by rw [List.getElem_set_self]; rfl) rfl rfl (fun ml2 hOl2 => ?_)
              refine Qw (Qe (MK fun h10 l10 k10 => (MK fun h11 l11 k11 => (MK fun h12 l12 k12 => ?_))))
              have l912 := Hp.le_trans l10 (Hp.le_trans l11 l12)
              rw [List.set_set] at hOl2
              exact Aj (AA _ ⟨rs, _, rfl, l912, rfl, hOl2.rdh k12, ks_set (hks0 _ l912) ⟨_, (hOa.rdh (ms := []) (Hp.le_trans k11 l12)).sub_ (show 0 ≤ es.length - 1 by omega) (show es.length - 1 ≤ es.length by omega), fun u hu => let ⟨y, c, hy, O⟩ := hVk0 u (List.mem_of_mem_drop (List.mem_of_mem_take hu)); ⟨c, O.rdh (Hp.le_trans hy (Hp.le_trans k10 (Hp.le_trans l11 l12)))⟩⟩, by rw [List.length_set]; omega⟩ Qs)
             refine Az rfl ?_ ?_
             ·refine Ql rfl underlying62 (hcv8 _ _ (by repeat (first | exact List.Mem.head _ | refine List.Mem.tail _ ?_))) ?_
              refine Qw (An 9 208 (by kernel_rfl) rfl (Hp.le_refl _) rfl (CH (hOa.rd (h := h9) hmea).rd rfl underlying62 rfl) (An 10 209 (by kernel_rfl) rfl (Hp.le_refl _) rfl (oS rfl) (Qo 4 rfl ?_)))
              refine Ql rfl underlying62 (hcv8 _ _ (by repeat (first | exact List.Mem.head _ | refine List.Mem.tail _ ?_))) ?_
              refine Qw (An 11 210 (by kernel_rfl) rfl (Hp.le_refl _) rfl (ox_sliceShC (es.length - 1) (hOa.rd (h := h9) hmea).rd rfl underlying62 BN rfl rfl (by omega) (by omega)) (Qo 14 rfl ?_))
              refine wl_storePart 2 n 2 ⟨ls[n].fr, ls[n].to - 1, Ch 1 ls[n].v 0 (es.length - 1), ov8⟩ [Ch 1 ls[n].v 0 (es.length - 1)] hOl' rfl Co rfl rfl hR8.rd.cells rfl (fun c hc => by rw [List.mem_singleton.1 hc]; exact ov8) rfl hnl' (by omega) (by rw [List.getElem_set_self]; rfl) rfl rfl (fun ml2 hOl2 => ?_)
              refine Qw (Qe (MK fun h10 l10 k10 => (MK fun h11 l11 k11 => (MK fun h12 l12 k12 => ?_))))
              have l912 := Hp.le_trans l10 (Hp.le_trans l11 l12)
              rw [List.set_set] at hOl2
              exact Aj (AA _ ⟨rs, _, rfl, l912, rfl, hOl2.rdh k12, ks_set (hks0 _ l912) ⟨_, (hOa.rdh (ms := []) (Hp.le_trans k11 l12)).sub_ (show 0 ≤ es.length - 1 by omega) (show es.length - 1 ≤ es.length by omega), fun u hu => let ⟨y, c, hy, O⟩ := hVk0 u (List.mem_of_mem_drop (List.mem_of_mem_take hu)); ⟨c, O.rdh (Hp.le_trans hy (Hp.le_trans k10 (Hp.le_trans l11 l12)))⟩⟩, by rw [List.length_set]; omega⟩ Qs)
             exact A3
            ·exact absurd hcb (by omega)
   ·obtain ⟨r, ls', rfl, lh, rfl, hRl, hKs, hlen'⟩ := hI
    obtain ⟨sl, hRs, hsl⟩ := svs_ex hRl hKs
    have hRZ := hRZ.up lh
    have hS6 := hS6.le lh
    have orr : r.oneCell' = true := hRl.rd.one
    have hN : sl.length ≤ 1000000 := by rw [hsl]; exact hlen'
    refine Ac (AW (n := 11) (bs := [true, false, false, false, false, false, false, false, false, false, false]) [true] Cd (by kernel_rfl) (by kernel_rfl) rfl rfl (Qq rfl ?_))
    unfold CD
    simp only [List.cons_append, List.nil_append]
    refine Qo 1 rfl (Qm rfl (Qw (BH 2 215 (by kernel_rfl) rfl rfl rfl rfl rfl (Hp.le_refl _) rfl (oG rfl underlying30 Bz (Seg.any hS6)) (BH 3 216 (by kernel_rfl) rfl rfl rfl rfl rfl (Hp.le_refl _) rfl (As rfl rfl) (BH 4 217 (by kernel_rfl) rfl rfl rfl rfl rfl (Hp.le_refl _) rfl (AG rfl call32 rfl (Ds (zcheck_ok Z vdo vao sl r h hRt.ok hRZ hRs hN) _)) (BH 5 218 (by kernel_rfl) rfl rfl rfl rfl rfl (Hp.le_refl _) rfl (oG rfl underlying30 Bz (Seg.any hS6)) (BH 6 219 (by kernel_rfl) rfl rfl rfl rfl rfl (Hp.le_refl _) rfl (As rfl rfl) (BH 7 220 (by kernel_rfl) rfl rfl rfl rfl rfl (Hp.le_refl _) rfl (AG rfl call31 rfl (Ds (OF Z vdo vao sl r h hRt.ok hRZ hRs hN) _)) (BH 8 221 (by kernel_rfl) rfl rfl rfl rfl rfl (Hp.le_refl _) rfl (ox_eqbC rfl underlying4 rfl rfl) (Qo 9 rfl (Qm rfl (Qw (Qo 10 rfl (Qm rfl (Qw (Qe (Ab (Ao ?_))))))))))))))))))
    exact Am rfl rfl (by simp)
end Go.Proofs.YtdnelknieikbaaaGreat
namespace Go.Proofs.YtdnelknieikbaaaGreat
open Go.Eng Go.ChangeShapes Go.WideShapes Go.ChangeAt Go.RowKit Go.Deep
section
variable {H : Type} {enc : TypeId × Value → H} {P : Program} {w : World} {base : Nat} {spare : Nat → Bool} {held : Bool}
theorem trod_intsB {t e : TypeId} {k : IntKind} {n fuel : Nat} {cs : List Value} {x : DataW H × List MemPlace} (ht : P.underlying t = some (.array n e)) (he : P.underlying e = some (.int k)) (hc : P.cellsOf e = 1) (hct : P.cellsOf t = n) (h : DataW.trod enc P w base spare held fuel t cs = some x) :
  ∃ xs : List Int, xs.length = n ∧ cs = xs.map (Value.int k) ∧ ∀ x ∈ xs, (Lit.int k x).wf = true := by
 obtain ⟨ys, m, _, _, hlen, hyl, hi⟩ := DataW.trod_array ht h
 rw [hct] at hlen
 simp only [hc, Nat.mul_one] at hi
 obtain ⟨xs, hxl, hq⟩ := HR (α := Int) (Q := fun i b => cs[i]? = some (.int k b) ∧ (Lit.int k b).wf = true) n fun i hin => by
  have h1 := hi i hin
  have hic : i < cs.length := by omega
  rw [List.getElem?_eq_getElem (show i < ys.length by omega)] at h1
  obtain ⟨b, h2, _, h3⟩ := DataW.trod_int he h1
  have h4 : ((cs.drop i).take 1)[0]? = some (Value.int k b) := by rw [h2]; rfl
  rw [List.getElem?_take_of_lt (by decide), List.getElem?_drop] at h4
  exact ⟨b, h4, h3⟩
 refine ⟨xs, hxl, ?_, fun x hx => ?_⟩
 ·refine List.ext_getElem (by simp [hlen, hxl]) fun i h1 h2 => ?_
  have h3 := (hq i (by omega)).1
  rw [List.getElem?_eq_getElem h1] at h3
  simpa using h3
 ·obtain ⟨i, hi', rfl⟩ := List.getElem_of_mem hx
  exact (hq i hi').2
end
theorem arr_ints {P : Program} {w : World} {r : Reach} {b0 : Nat} {t e : TypeId} {k : IntKind} {n : Nat} {H : Type} {enc : TypeId × Value → H} {held : Bool} {v : Value} {d : DataW H} {ps : List MemPlace} {base : Nat} {spare : Nat → Bool} (ht : P.underlying t = some (.array n e)) (he : P.underlying e = some (.int k)) (hc : P.cellsOf e = 1) (hct : P.cellsOf t = n) (hval : Value.okWide P w r b0 t v) (h : DataW.Trod enc P w base spare held t v d ps) : ∃ xs : List Int, xs.length = n ∧ v = .agg (xs.map (Value.int k)).toArray ∧ ∀ x ∈ xs, (Lit.int k x).wf = true := by
 simp only [Value.okWide, ht] at hval
 obtain ⟨cs, rfl, h2, _⟩ := hval
 obtain ⟨fuel, hf⟩ := h
 obtain ⟨xs, hl, hx, hw⟩ := trod_intsB ht he hc hct hf
 have hx : cs.toList = xs.map (Value.int k) := hx
 exact ⟨xs, hl, by rw [← hx], hw⟩
section
variable {H : Type} {enc : TypeId × Value → H} {w : World} {base : Nat} {spare : Nat → Bool} {held : Bool}
end
end Go.Proofs.YtdnelknieikbaaaGreat
namespace Go.Proofs.YtdnelknieikbaaaGreat
open Go.Proofs.Tryz
open Go.Eng Go.ChangeShapes Go.WideShapes Go.ChangeAt Go.RowKit Go.Deep
section
variable {H : Type} {enc : TypeId × Value → H} {w : World} {base : Nat} {spare : Nat → Bool} {held : Bool}
theorem open_i5 {v : Value} {r : Reach} {b0 : Nat} {d : DataW H} {ps : List MemPlace} (hval : Value.okWide Tryz.prog w r b0 67 v) (h : DataW.Trod enc Tryz.prog w base spare held 67 v d ps) : ∃ q0 q1 q2 q3 q4 : Int, v = .agg #[.int .i64 q0, .int .i64 q1, .int .i64 q2, .int .i64 q3, .int .i64 q4] ∧ Dh q0 ∧ Dh q1 ∧ Dh q2 ∧ Dh q3 ∧ Dh q4 := by
 obtain ⟨xs, hl, rfl, hw⟩ := arr_ints underlying67 underlying3 (by kernel_rfl) (by kernel_rfl) hval h
 match xs, hl with
 | [a, b, c, d, e], _ => exact ⟨a, b, c, d, e, rfl, bounds_i64 (hw a (by simp)), bounds_i64 (hw b (by simp)), bounds_i64 (hw c (by simp)), bounds_i64 (hw d (by simp)), bounds_i64 (hw e (by simp))⟩
end
end Go.Proofs.YtdnelknieikbaaaGreat
