/- Parts of the proof: Lo Eng42 Uw Xn Xo Xp Vg Vh Vi Vj Vk Va Vb Vl Rr. -/
import Derived.Test.YtdnelknieikbaaaGreatTJ
set_option linter.unusedSimpArgs false
set_option linter.unusedVariables false
namespace Go.Eng
open Go.RowKit
variable {el : TypeId} {g : Nat} {l : List Value} {c : Code} {v : Value}
def Hp.rm (m : Hp) (g : Nat) : Hp := fun k => if k = g then none else m k
theorem Hp.rm_disj (m : Hp) (g : Nat) (o : Obj) : (Hp.one g o).disj (m.rm g) := fun k => by
  unfold Hp.one Hp.rm
  by_cases h : k = g
  · exact .inr (if_pos h)
  · exact .inl (if_neg h)
theorem Hp.rm_join {m : Hp} {o : Obj} (h : m g = some o) : (Hp.one g o).join (m.rm g) = m := by
  funext k
  unfold Hp.join Hp.one Hp.rm
  by_cases e : k = g
  · subst e; rw [if_pos rfl, h]
  · rw [if_neg e, if_neg e]
def IsI (l : List Value) (k : Nat) : Prop := ∃ n, l[k]? = some (.int .i64 n)
def SimI (el : TypeId) (m m' : Hp) : Prop := ∀ g o, m g = some o → m' g = some o ∨ ∃ l l' : List Value, o = .cells l.toArray el (0, 0) ∧ m' g = some (.cells l'.toArray el (0, 0)) ∧ l'.length = l.length ∧ ∀ k, IsI l k → IsI l' k
theorem SimI.refl (el : TypeId) (m : Hp) : SimI el m m := fun _ _ h => .inl h
theorem SimI.trans {a b c : Hp} (h1 : SimI el a b) (h2 : SimI el b c) : SimI el a c := fun g o ho => by
  rcases h1 g o ho with h | ⟨l, l', rfl, h, e, hk⟩
  · exact h2 g o h
  · rcases h2 g _ h with h' | ⟨l2, l3, e2, h', e3, hk'⟩
    · exact .inr ⟨l, l', rfl, h', e, hk⟩
    · have : l' = l2 := by
        injection e2 with e2 _ _
        exact Array.toList_inj.2 e2
      subst this
      exact .inr ⟨l, l3, rfl, h', by rw [e3, e], fun k h => hk' k (hk k h)⟩
theorem SimI.put {m : Hp} (h : m g = some (.cells l.toArray el (0, 0))) (k : Nat) (n : Int) : SimI el m ((AX g el (l.set k (.int .i64 n))).join (m.rm g)) := fun g' o ho => by
  by_cases e : g' = g
  · subst e
    rw [h] at ho
    refine .inr ⟨l, l.set k (.int .i64 n), (Option.some.inj ho).symm, ?_, List.length_set, fun j ⟨x, hx⟩ => ?_⟩
    · show (AX _ _ _ : Hp).join _ _ = _
      unfold Hp.join AX Hp.one
      rw [if_pos rfl]
    · unfold IsI
      by_cases ej : k = j
      · subst ej
        have hl : k < l.length := (List.getElem?_eq_some_iff.1 hx).1
        exact ⟨n, by rw [List.getElem?_set_self hl]⟩
      · exact ⟨x, by rw [List.getElem?_set_ne ej]; exact hx⟩
  · refine .inl ?_
    show (AX _ _ _ : Hp).join _ _ = _
    unfold Hp.join AX Hp.one Hp.rm
    rw [if_neg e, if_neg e]; exact ho
theorem OwnL.sim {m0 m y : Hp} {u : Value} {c : List Int} (O : OwnL cI 1 el y u c) (hy : y.le m0) (hs : SimI el m0 m) : ∃ y' c', y'.le m ∧ OwnL cI 1 el y' u c' ∧ c'.length = c.length := by
  have O0 := O
  obtain ⟨⟨h2, h3⟩, hF⟩ := O
  rcases h3 with ⟨rfl, h4, rfl⟩ | ⟨g, cap, spare, rfl, rfl, e1, e2, e3⟩
  · exact ⟨Hp.emp, c, (fun g o h => nomatch h), O0, rfl⟩
  · have hg := hy g _ (Hp.one_self _ _)
    rcases hs g _ hg with h | ⟨l, l', e, h, el2, hk⟩
    · refine ⟨_, c, fun g' o ho => ?_, O0, rfl⟩
      unfold AX Hp.one at ho
      split at ho
      · rename_i e; subst e; rw [h]; exact ho
      · cases ho
    · have e0 : c.flatMap cI ++ spare = l := by
        injection e with e _ _
        exact Array.toList_inj.2 e
      have hlen : (c.flatMap cI ++ spare).length = c.length * 1 + spare.length := by rw [List.length_append, BL hF]
      have hI : ∀ k, k < c.length → ∃ n, l'[k]? = some (.int .i64 n) := fun k hkl => hk k ⟨c[k], by
        rw [← e0]
        have := Ey hF c k hkl 0 (.int .i64 c[k]) rfl
        rw [List.getElem?_append_left (by rw [BL hF]; omega)]
        simpa using this⟩
      have hex : ∀ k, ∃ n, k < c.length → l'[k]? = some (.int .i64 n) := fun k => by
        by_cases h : k < c.length
        · obtain ⟨n, hn⟩ := hI k h; exact ⟨n, fun _ => hn⟩
        · exact ⟨0, fun h' => absurd h' h⟩
      obtain ⟨f, hf⟩ := Classical.axiomOfChoice hex
      have hl' : l'.length = c.length + spare.length := by rw [el2, ← e0, hlen]; omega
      have hsplit : l' = ((List.range c.length).map f).flatMap cI ++ l'.drop c.length := by
        refine List.ext_getElem? fun k => ?_
        have hL : (((List.range c.length).map f).flatMap cI).length = c.length := by rw [BL hF]; simp
        by_cases h : k < c.length
        · rw [hf k h, List.getElem?_append_left (by rw [hL]; exact h)]
          have := Ey hF ((List.range c.length).map f) k (by simpa using h) 0 (.int .i64 (f k)) (by simp [cI])
          simpa using this.symm
        · rw [List.getElem?_append_right (by rw [hL]; omega), hL, List.getElem?_drop]
          congr 1; omega
      refine ⟨AX g el l', (List.range c.length).map f, fun g' o ho => ?_, ⟨⟨?_, .inr ⟨g, cap, l'.drop c.length, by simp, ?_, ?_, by simpa using e2, e3⟩⟩, hF⟩, by simp⟩
      · unfold AX Hp.one at ho
        split at ho
        · rename_i e; subst e; rw [h]; exact ho
        · cases ho
      · rw [BL hF]
      · rw [← hsplit]
      · have := e1
        rw [← hsplit, hl']
        rw [hlen] at this; omega
theorem wl_gs {e : Entry} {Q : Exit → Act → World → Prop} {s : Ay} {h : Hp} {ms ms' : List Hp} {ops : Array Oper} {l : List Oper} (g : Goes ms ms') (k : WL e ops Q l s h ms') : WL e ops Q l s h ms := fun a w ha hw => k a w ha (g _ _ _ _ _ hw)
theorem ws_gs {e : Entry} {Q : Exit → Act → World → Prop} {s : Ay} {h : Hp} {ms ms' : List Hp} (g : Goes ms ms') (k : WS e c Q s h ms') : WS e c Q s h ms := fun a w ha hw => k a w ha (g _ _ _ _ _ hw)
section
variable {e : Entry} {Q : Exit → Act → World → Prop} {ops : Array Oper} {rest : List Oper} {o : Oper} {s : Ay} {h : Hp} {ms : List Hp}
theorem wl_storeIn {t : TypeId} {x y : Operand} {z : Value} {bytes : Nat} {m0 m u0 : Hp} {c : List Int} {n : Int} (k : Nat) (O : OwnL cI 1 el u0 v c) (hu : u0.le m0) (hS : SimI el m0 m) (ho : o.op = .store t x y) (hs : Elem e.P t 1 z bytes) (hx : ev s x = some (.pointer (some ((Bl v).add (k * 1))))) (hy : ev s y = some (.int .i64 n))
    (hk : k < c.length) (hd : o.dst = none) (hg : o.guard = none)
    (K : ∀ m', SimI el m0 m' → WL e ops Q rest s h (m' :: ms)) : WL e ops Q (o :: rest) s h (m :: ms) := by
  obtain ⟨y', c', hy', O', hl⟩ := O.sim hu hS
  obtain ⟨⟨h2, h3⟩, hF⟩ := O'
  rcases h3 with ⟨rfl, h4, rfl⟩ | ⟨g, cap, spare, rfl, rfl, e1, e2, e3⟩
  · rw [h4] at hl; omega
  · have hg0 := hy' g _ (Hp.one_self _ _)
    have ej := Hp.rm_join hg0
    have hgo : Goes (m :: ms) (AX g el (c'.flatMap cI ++ spare) :: m.rm g :: ms) := by
      have := Goes.part (Hp.rm_disj m g (.cells (c'.flatMap cI ++ spare).toArray el (0, 0))) ms
      rw [ej] at this; exact this
    refine wl_gs hgo (AK 0 (k * 1) ho hs hx hy rfl rfl rfl ?_ hd hg ?_)
    · rw [List.length_append, BL hF, hl]; omega
    · exact wl_gs (Goes.join _ _ _) (K _ (hS.trans (SimI.put hg0 _ _)))
end
def isEl (el : TypeId) : Obj → Bool
  | .cells _ e _ => e == el
  | _ => false
def Hp.only (el : TypeId) (m : Hp) : Hp := fun g => match m g with | some o => if isEl el o then some o else none | none => none
def Hp.but (el : TypeId) (m : Hp) : Hp := fun g => match m g with | some o => if isEl el o then none else some o | none => none
theorem Hp.but_only (el : TypeId) (m : Hp) : (m.but el).join (m.only el) = m := by
  funext g
  unfold Hp.join Hp.but Hp.only
  cases h : m g with
  | none => rfl
  | some o => by_cases e : isEl el o = true <;> simp [e]
theorem Hp.but_disj (el : TypeId) (m : Hp) : (m.but el).disj (m.only el) := fun g => by
  unfold Hp.but Hp.only
  cases h : m g with
  | none => exact .inl rfl
  | some o => by_cases e : isEl el o = true <;> simp [e]
theorem Hp.le_only {m : Hp} (h : (AX g el l).le m) : (AX g el l).le (m.only el) := fun g' o ho => by
  have h1 := h g' o ho
  unfold AX Hp.one at ho
  split at ho
  · injection ho with ho
    unfold Hp.only
    rw [h1, ← ho]
    simp [isEl]
  · cases ho
theorem Hp.le_but {el' : TypeId} (hne : el' ≠ el) {m : Hp} (h : (AX g el' l).le m) : (AX g el' l).le (m.but el) := fun g' o ho => by
  have h1 := h g' o ho
  unfold AX Hp.one at ho
  split at ho
  · injection ho with ho
    unfold Hp.but
    rw [h1, ← ho]
    simp [isEl, hne]
  · cases ho
theorem OwnL.le_only {α : Type} {F : α → List Value} {sz : Nat} {y m : Hp} {l : List α} (O : OwnL F sz el y v l) (h : y.le m) : y.le (m.only el) := by
  obtain ⟨⟨h2, h3⟩, hF⟩ := O
  rcases h3 with ⟨rfl, h4, rfl⟩ | ⟨g, cap, spare, rfl, rfl, e1, e2, e3⟩
  · exact fun _ _ h => by cases h
  · exact Hp.le_only h
theorem OwnL.le_but {α : Type} {F : α → List Value} {sz : Nat} {el' : TypeId} (hne : el' ≠ el) {y m : Hp} {l : List α} (O : OwnL F sz el' y v l) (h : y.le m) : y.le (m.but el) := by
  obtain ⟨⟨h2, h3⟩, hF⟩ := O
  rcases h3 with ⟨rfl, h4, rfl⟩ | ⟨g, cap, spare, rfl, rfl, e1, e2, e3⟩
  · exact fun _ _ h => by cases h
  · exact Hp.le_but hne h
theorem Goes.split (el : TypeId) (m : Hp) (ms : List Hp) : Goes (m :: ms) (m.but el :: m.only el :: ms) := by
  have := Goes.part (m.but_disj el) ms
  rwa [m.but_only el] at this
theorem ws_frz {e : Entry} {Q : Exit → Act → World → Prop} {s : Ay} {h : Hp} {ms : List Hp} {m : Hp} (k : ∀ h', h.le h' → m.le h' → WS e c Q s h' ms) : WS e c Q s h (m :: ms) :=
  fun a w ha hw => k _ (Hp.le_join _ _) (Hp.join_le_right (hw.st.off m List.mem_cons_self)) a w ha (Ends.freeze hw)
theorem Goes.drp (a : Hp) (ms : List Hp) : Goes (a :: ms) ms := fun _ _ _ _ _ x => x.drop
theorem ws_drp {e : Entry} {Q : Exit → Act → World → Prop} {s : Ay} {h : Hp} {ms : List Hp} {m : Hp} (k : WS e c Q s h ms) : WS e c Q s h (m :: ms) := ws_gs (Goes.drp m ms) k
end Go.Eng
set_option maxRecDepth 100000
set_option maxHeartbeats 4000000
namespace Go.Proofs.YtdnelknieikbaaaGreat
open Go.Proofs.Tryz
open Go.Eng Go.RowKit Go.Lin Go.Sort Go.Srt
theorem frank_w (p : Int) (r c : Nat) (f : Nat → Nat → Int) (ev : Value) (h : Hp) (R : RtM p r c f) (hR : RdL cI 1 h [] ev (mat r c f)) (ms : List Hp) : Dq Tryz.prog 96 #[.agg #[.int .i64 p, .int .i64 r, .int .i64 c, ev]] h ms (.int .i64 (VF p r c f)) :=
 Ds ((R5 p r c f ev h R hR).mono fun x h' ms' ⟨_, _, F, pv, e, hE⟩ => by rw [e, MS R.pr.fld hE]) ms
theorem cols_inw {Z : Zz} {l : List SV} {n : Nat} (Fp : Lin.Fld Z.p) {k : Nat} (hn : cnt l.length ((Fj l).on k) = n) : Ind Z.p n tt n (fun t i => IH l k t i) ↔ Ind Z.p l.length ((Fj l).on k) n fun t => (Fj l).vec t k := by
 subst hn
 exact ⟨fun h => FJ (L := Df l.length ((Fj l).on k)) (v := fun t => (Fj l).vec t k) (List.Perm.refl _) h, fun h => FB (v := fun t => (Fj l).vec t k) (List.Perm.refl _) h⟩
theorem vector_w (s : SV) (k : Nat) (h : Hp) (hW : RdW h s) (hL : s.Long) (hk : k ≤ 1000) (ms : List Hp) : Dq Tryz.prog 66 #[.agg #[.int .i64 s.e.fr, .int .i64 s.e.to, s.e.v], .int .i64 k] h ms (.tuple #[s.vv k, .bool (decide (s.on k))]) := by
 refine Ds ?_ ms
 have ov := s.e.one
 have hl := hW.l.len_le
 have hL1 := hL.1
 have hL2 := hL.2
 have hle := hW.len
 refine Av func66 ntmps66 rfl rfl (fun w0 hw0 => ?_)
 simp only [A4]
 refine Ax ?_
 refine AS [_, _, _] rfl rfl (by rfl) rfl rfl rfl (fun g2 => ?_)
 refine Qm rfl (Qm rfl (Aq (AL fun h1 l1 hS => ?_)))
 have hW := hW.up l1
 have hA := Seg.all hS
 have hA0 := hA 0 _ rfl
 refine Ac (Ax (Qm rfl (Qf E0 rfl (Ql rfl underlying3 (hA0 _) (Qm rfl (Qm rfl ?_))))))
 refine AR (t := 10) rfl (fun h1 => ?_) (fun h1 => ?_)
 ·refine Qk rfl (Qk rfl (Qk rfl (Qk rfl (Qm rfl (Aq (AU rfl (Ax (Qm rfl (Qm rfl (Aq (Ao (Ae ?_))))))))))))
  exact FX rfl rfl rfl (by rw [show s.vv k = .slice none 0 0 from if_neg (fun ho => by have := ho.1; omega), decide_eq_false (fun ho : s.on k => by have := ho.1; omega)])
 ·refine Qg (As rfl rfl) rfl (Qg (oF Fd rfl) rfl (Qg (oL rfl underlying3 (hA _ _ rfl _)) rfl (Qg (Dd rfl rfl rfl) rfl (Qm rfl (Aq ?_)))))
  refine AF rfl (fun h2 => ?_) (fun h2 => ?_)
  ·refine Ac (Ad (Qm rfl (Qm rfl (Aq (Ao (Ae ?_))))))
   exact FX rfl rfl rfl (by rw [show s.vv k = .slice none 0 0 from if_neg (fun ho => by have := ho.2; omega), decide_eq_false (fun ho : s.on k => by have := ho.2; omega)])
  ·have ho : s.on k := ⟨by omega, by omega⟩
   have hix := SV.ix hL ho
   have hc := hW.cell hix
   refine Ai (Ab (Ax (Qf CY rfl (Ql rfl underlying62 (hA _ _ rfl _) (Qm rfl (Qf E0 rfl (Ql rfl underlying3 (hA0 _) (Qx (oS rfl) rfl (Qx (Ah (k - s.e.fr.toNat) hW.l.rd.any rfl underlying62 BN rfl rfl (by omega) (by omega)) rfl (Ql rfl underlying24 (hc _) (Qm rfl (Qm rfl (Aq (Ao ?_))))))))))))))
   exact FX rfl rfl rfl (by rw [show s.vv k = s.es.getD (k - s.e.fr.toNat) undef from if_pos ho, decide_eq_true ho])
end Go.Proofs.YtdnelknieikbaaaGreat
namespace Go.Proofs.YtdnelknieikbaaaGreat
open Go.Proofs.Tryz
open Go.Eng Go.RowKit Go.Lin Go.Sort Go.Srt
theorem equal_v (la lb : List Int) (va vb : Value) (h : Hp) (hA : RdL cI 1 h [] va la) (hB : RdL cI 1 h [] vb lb) (ms : List Hp) : Dq Tryz.prog 68 #[va, vb] h ms (.bool (decide (la = lb))) := by
 refine Ds ?_ ms
 have l1 := hA.len_le
 have l2 := hB.len_le
 refine Av func68 ntmps68 rfl rfl (fun w0 hw0 => ?_)
 simp only [A4]
 refine Ax (Qm rfl (Aq (Ac (Ax (Qm rfl (Qx (AJ hA.rd.any rfl underlying24 rfl) rfl (Qm rfl (Qx (AJ hB.rd.any rfl underlying24 rfl) rfl (Qm rfl (Aq ?_))))))))))
 refine AF rfl (fun hlen => ?_) (fun hlen => ?_)
 ·refine Ac (Ad (Qm rfl (Aq (Ao (Ae ?_)))))
  exact Am rfl rfl (by rw [decide_eq_false]; rintro rfl; exact hlen rfl)
 ·have hlen : la.length = lb.length := by omega
  refine Ai (Ab (Ac (Ax (Qm rfl (Qx (AJ hA.rd.any rfl underlying24 rfl) rfl (Qm rfl (Aq (Ag ?_))))))))
  refine AD (fun q s h' ms' => ∃ (k : Nat), q = la.length - k ∧ s = [(0, va), (1, vb), (12, .int .i64 la.length), (13, .int .i64 k)] ∧ h = h' ∧ ms' = [] ∧ k ≤ la.length ∧ la.take k = lb.take k)
   (la.length - 0) _ ⟨0, rfl, rfl, rfl, rfl, by omega, rfl⟩ Qs ?_
  rintro q s h' ms' ⟨k, rfl, rfl, rfl, rfl, hk, hno⟩
  refine Ax (Qm rfl (Aq (Ac ?_)))
  refine AF rfl (fun hlt => ?_) (fun hlt => ?_)
  ·have k1 : k < la.length := Bx hlt
   have k2 : k < lb.length := by omega
   refine Ai (Ab (Ac (Ag (Ax (Qm rfl (Qm rfl (Aq (Ac (BB 8 Cd (by kernel_rfl) rfl (Wm rfl (Wm rfl (AV (Ah (k) hA.rd.any rfl underlying24 A8 rfl rfl (by omega) (by omega)) rfl rfl (Wl rfl underlying3 (hA.any.cell0 k1 rfl) (Wm rfl (Wm rfl (AV (Ah (k) hB.rd.any rfl underlying24 A8 rfl rfl (by omega) (by omega)) rfl rfl (Wl rfl underlying3 (hB.any.cell0 k2 rfl) (BC (Qm rfl (Aq ?_))))))))))))))))))))
   refine AF rfl (fun hne => ?_) (fun hne => ?_)
   ·refine Ac (Ad (Qm rfl (Aq (Ao (Ap (Ae (Ae (Ap (Ae ?_)))))))))
    exact Am rfl rfl (by rw [decide_eq_false]; rintro rfl; exact hne rfl)
   ·refine Ai (Aj (Ab (Ad (Qx (oA rfl) rfl (Qm rfl (Ak ?_))))))
    refine Al (la.length - (k + 1)) _ (by omega) ⟨k + 1, rfl, rfl, rfl, rfl, by omega, ?_⟩ Qs
    rw [List.take_add_one, List.take_add_one, hno, List.getElem?_eq_getElem k1, List.getElem?_eq_getElem k2, Decidable.not_not.1 hne]
  ·refine Aw (Aa (Aa (Af (Ab (Ax (Qm rfl (Aq (Ao ?_))))))))
   exact Am rfl rfl (by rw [decide_eq_true]; rwa [List.take_of_length_le (by omega), List.take_of_length_le (by omega)] at hno)
theorem shp1_v (g : Nat) (n p : Int) (h : Hp) (hD : ∀ ms, Cell h ms ((⟨g, 0, none⟩ : Addr).add 0) (.int .i64 p)) (ms : List Hp) : Dq Tryz.prog 95 ([] ++ [Value.int .i64 n] ++ [Value.pointer (some ⟨g, 0, none⟩)]).toArray h ms (.bool (decide (n < 0 ∨ p ≤ n))) := by
 refine Ds ?_ ms
 show FnT _ _ #[.int .i64 n, .pointer (some ⟨g, 0, none⟩)] _ _ _
 refine Av func95 ntmps95 rfl rfl (fun w0 hw0 => ?_)
 simp only [A4]
 refine Ax (Qm rfl (B3 (Qm rfl (Qm rfl (Qm rfl ?_)))))
 refine AR (t := 6) rfl (fun hs => ?_) (fun hs => ?_)
 ·refine Qk rfl (Qk rfl (Qk rfl (Qk rfl (Qm rfl (Qm rfl (Aq (Ao ?_)))))))
  exact Am rfl rfl (by rw [decide_eq_true]; exact .inl hs)
 ·refine Qg (As rfl rfl) rfl (Qg (oF CG rfl) rfl (Qg (oL rfl underlying3 (hD _)) rfl (Qg (DU rfl rfl rfl) rfl (Qm rfl (Qm rfl (Aq (Ao ?_)))))))
  exact Am rfl rfl (by congr 1; rw [decide_eq_decide]; omega)
theorem shaped_v (Z : Zz) (vd va : Value) (l : List SV) (vl : Value) (h : Hp) (hRt : Z.Rt) (hR : RdZ h vd va Z) (hL : RdSs h vl l) (ms : List Hp) : Dq Tryz.prog 63 #[.agg #[.int .i64 Z.p, vd, va], vl] h ms (.bool (bl (∀ s ∈ l, s.Shp Z))) := by
 refine Ds ?_ ms
 have o1 := hR.d.rd.one
 have o2 := hR.a.rd.one
 have n1 := hRt.2.1
 refine Av func63 ntmps63 rfl rfl (fun w0 hw0 => ?_)
 simp only [A4]
 refine Ax ?_
 refine AS [_, _, _] rfl rfl (by rfl) rfl rfl rfl (fun g2 => ?_)
 refine Qm rfl (Aq (AL fun h1 l1 hS2 => ?_))
 have hR := hR.up l1
 have hL := hL.up l1
 refine Ac (Ax (Qm rfl (Qx (AJ hL.q.rd.any rfl underlying60 rfl) rfl (Qm rfl (Aq (Ag ?_))))))
 refine AD (fun q sl hh ms' => ∃ (t : Nat), q = l.length - t ∧ sl = [(2, .pointer (some ⟨g2, 0, none⟩)), (9, vl), (10, .int .i64 l.length), (11, .int .i64 t)] ∧ h1.le hh ∧ ms' = [] ∧ t ≤ l.length ∧ ∀ t' (ht : t' < l.length), t' < t → l[t'].Shp Z)
  (l.length - 0) _ ⟨0, rfl, rfl, Hp.le_refl _, rfl, by omega, fun t' _ h => by omega⟩ Qs ?_
 rintro q sl hh ms' ⟨t, rfl, rfl, lh, rfl, ht, hno⟩
 have hR := hR.up lh
 have hL := hL.up lh
 have hS2 := hS2.le lh
 refine Ax (Qm rfl (Aq (Ac ?_)))
 refine AF rfl (fun hlt => ?_) (fun hlt => ?_)
 ·have htl : t < l.length := Bx hlt
  have hmem := List.getElem_mem htl
  have hW := hL.w _ hmem
  have hle := hW.len
  have hql := hL.q.len_le
  have ov := l[t].e.one
  have hseg : ∀ ms, Seg hh ms ((Bl vl).add (t * 3)) (VZ l[t]) := fun ms => (hL.q.any (ms := ms)).seg htl
  refine Ai (Ab (Ac (Ag (Ax (Qx (Ah _ hL.q.rd.any rfl underlying60 BP rfl rfl rfl (by omega)) rfl (Qx (oG rfl underlying64 BP (hseg _)) rfl (BZ [.int .i64 0, .int .i64 0, .slice none 0 0] rfl BP rfl rfl (fun g6 => ?_))))))))
  refine Sa 0 [_, _, _] BP rfl (by simp [ov]) ?_
  refine Aq (AL fun h3 l3 hS6 => ?_)
  have hR := hR.up l3
  have hW := hW.up l3
  have hA := Seg.all (hS2.le l3)
  have hA0 := hA 0 _ rfl
  have hB := Seg.all hS6
  have hB0 := hB 0 _ rfl
  have hll := hW.l.len_le
  refine Ac (Ax (Qf E0 rfl (Ql rfl underlying3 (hB0 _) (Qm rfl (Qm rfl ?_)))))
  refine AR (t := 18) rfl (fun hs1 => ?_) (fun hs1 => ?_)
  ·refine Qk rfl (Qk rfl (Qk rfl (Qk rfl (Qk rfl (Qm rfl (Qm rfl (Qk rfl (Qk rfl (Qk rfl (Qk rfl (Qk rfl (Qk rfl (Qm rfl (Qm rfl (Qk rfl (Qk rfl (Qk rfl (Qk rfl (Qk rfl (Qk rfl (Qk rfl (Qk rfl (Qk rfl (Qk rfl (Qm rfl (Aq (AU rfl (Ax (Qm rfl (Aq (Ao (Ae (Ap (Ae (Ae (Ap (Ae ?_)))))))))))))))))))))))))))))))))))))
   exact Am rfl rfl (by rw [E6]; intro h; have := (h _ hmem).1; omega)
  ·refine Qg (oF E0 rfl) rfl (Qg (oL rfl underlying3 (hB0 _)) rfl (Qg (oF Fd rfl) rfl (Qg (oL rfl underlying3 (hB _ _ rfl _)) rfl (Qg (Dd rfl rfl rfl) rfl (Qm rfl (Qm rfl ?_))))))
   refine AR (t := 25) rfl (fun hs2 => ?_) (fun hs2 => ?_)
   ·refine Qk rfl (Qk rfl (Qk rfl (Qk rfl (Qk rfl (Qk rfl (Qm rfl (Qm rfl (Qk rfl (Qk rfl (Qk rfl (Qk rfl (Qk rfl (Qk rfl (Qk rfl (Qk rfl (Qk rfl (Qk rfl (Qm rfl (Aq (AU rfl (Ax (Qm rfl (Aq (Ao (Ae (Ap (Ae (Ae (Ap (Ae ?_))))))))))))))))))))))))))))))
    exact Am rfl rfl (by rw [E6]; intro h; have := (h _ hmem).2.1; omega)
   ·refine Qg (oF Fd rfl) rfl (Qg (oL rfl underlying3 (hB _ _ rfl _)) rfl (Qg (oF Bn rfl) rfl (Qg (oL rfl underlying24 (hA _ _ rfl _)) rfl (Qg (AJ hR.d.rd.any rfl underlying24 rfl) rfl (Qg (DU rfl rfl rfl) rfl (Qm rfl (Qm rfl ?_)))))))
    refine AR (t := 33) rfl (fun hs3 => ?_) (fun hs3 => ?_)
    ·refine Qk rfl (Qk rfl (Qk rfl (Qk rfl (Qk rfl (Qk rfl (Qk rfl (Qk rfl (Qk rfl (Qk rfl (Qm rfl (Aq (AU rfl (Ax (Qm rfl (Aq (Ao (Ae (Ap (Ae (Ae (Ap (Ae ?_))))))))))))))))))))))
     exact Am rfl rfl (by rw [E6]; intro h; have := (h _ hmem).2.2.1; omega)
    ·refine Qg (oF CY rfl) rfl (Qg (oL rfl underlying62 (hB _ _ rfl _)) rfl (Qg (AJ hW.l.rd.any rfl underlying62 rfl) rfl (Qg (oF Fd rfl) rfl (Qg (oL rfl underlying3 (hB _ _ rfl _)) rfl (Qg (oF E0 rfl) rfl (Qg (oL rfl underlying3 (hB0 _)) rfl (Qg (oS rfl) rfl (Qg (oA rfl) rfl (Qg (B4 rfl rfl rfl) rfl (Qm rfl (Aq ?_)))))))))))
     refine AF rfl (fun hs4 => ?_) (fun hs4 => ?_)
     ·refine Ac (Ad (Qm rfl (Aq (Ao (Ae (Ap (Ae (Ae (Ap (Ae ?_))))))))))
      exact Am rfl rfl (by rw [E6]; intro h; have := (h _ hmem).2.2.2.1; omega)
     ·have hlen : (l[t].vs.length : Int) = l[t].e.to - l[t].e.fr + 1 := by omega
      refine Ai (Ab (Ax (Qf CY rfl (Ql rfl underlying62 (hB _ _ rfl _) (Qx (AJ hW.l.rd.any rfl underlying62 rfl) rfl (Qm rfl (Aq (Ag ?_))))))))
      refine AD (fun q sl hh ms' => ∃ (j : Nat), q = l[t].es.length - j ∧ sl = [(2, .pointer (some ⟨g2, 0, none⟩)), (6, .pointer (some ⟨g6, 0, none⟩)), (9, vl), (10, .int .i64 l.length), (11, .int .i64 t), (46, l[t].e.v), (47, .int .i64 l[t].es.length), (48, .int .i64 j)] ∧ h3 = hh ∧ ms' = [] ∧ j ≤ l[t].es.length ∧ ∀ j', j' < j → ((l[t].vs.getD j' []).length : Int) = Z.dim (l[t].e.fr.toNat + j') ∧ ∀ x ∈ l[t].vs.getD j' [], 0 ≤ x ∧ x < Z.p)
       (l[t].es.length - 0) _ ⟨0, rfl, rfl, rfl, rfl, by omega, fun j' h => by omega⟩ Qs ?_
      rintro q sl hh ms' ⟨j, rfl, rfl, rfl, rfl, hj, hno2⟩
      refine Ax (Qm rfl (Aq (Ac ?_)))
      refine AF rfl (fun hlt2 => ?_) (fun hlt2 => ?_)
      ·have hjl : j < l[t].vs.length := by omega
       have hc := hW.cell hjl
       have hRj := hW.r j hjl
       have hk : l[t].e.fr.toNat + j < Z.dims.length := by omega
       refine Ai (Ab (Ac (Ag (Ax (Qm rfl (Qx (Ah (j) hW.l.rd.any rfl underlying62 BN rfl rfl (by omega) (by omega)) rfl (Ql rfl underlying24 (hc _) (Qm rfl (Qm rfl (B3 (Qm rfl (Qx (AJ hRj.rd.any rfl underlying24 rfl) rfl (Qf Bn rfl (Ql rfl underlying24 (hA _ _ rfl _) (Qf E0 rfl (Ql rfl underlying3 (hB0 _) (Qm rfl (Qx (oA rfl) rfl (Qx (Ah (l[t].e.fr.toNat + j) hR.d.rd.any rfl underlying24 A8 rfl rfl (by omega) (by omega)) rfl (Ql rfl underlying3 (H8 hR hk) (Qm rfl (Qm rfl ?_))))))))))))))))))))))
       refine AR (t := 64) rfl (fun h5 => ?_) (fun h5 => ?_)
       ·refine Qk rfl (Qk rfl (Qk rfl (Qm rfl (Aq (AU rfl (Ax (Qm rfl (Aq (Ao (Ap (Ae (Ae (Ap (Ap (Ae (Ae (Ap (Ae ?_))))))))))))))))))
        exact Am rfl rfl (by rw [E6]; intro h; exact h5 ((h _ hmem).2.2.2.2 j hjl).1)
       ·refine Qg (As rfl rfl) rfl (Qg (CE rfl rfl rfl) rfl (Qg (AG rfl call94 rfl (Ds (Ft (l[t].vs.getD j []) (l[t].es.getD j undef) 95 [.pointer (some ⟨g2, 0, none⟩)] (fun n => decide (n < 0 ∨ Z.p ≤ n)) h3 hRj call95 (fun b _ ms => shp1_v g2 b Z.p h3 (hA 0 _ rfl) ms)) _)) rfl (Qm rfl (Aq ?_))))
        refine BJ rfl (fun h6 => ?_) (fun h6 => ?_)
        ·refine Ac (Ad (Qm rfl (Aq (Ao (Ap (Ae (Ae (Ap (Ap (Ae (Ae (Ap (Ae ?_)))))))))))))
         exact Am rfl rfl (by rw [E6]; intro h; obtain ⟨x, hx, h7⟩ := List.any_eq_true.1 h6; have := ((h _ hmem).2.2.2.2 j hjl).2 x hx; have := of_decide_eq_true h7; omega)
        ·refine Ai (Aj (Ab (Ad (Qx (oA rfl) rfl (Qm rfl (Ak ?_))))))
         refine Al (l[t].es.length - (j + 1)) _ (by omega) ⟨j + 1, rfl, rfl, rfl, rfl, by omega, fun j' hj' => ?_⟩ Qs
         rcases (by omega : j' < j ∨ j' = j) with h | rfl
         ·exact hno2 j' h
         ·refine ⟨Decidable.not_not.1 h5, fun x hx => ?_⟩
          have := List.any_eq_false.1 h6 x hx
          have : ¬ (x < 0 ∨ Z.p ≤ x) := fun h => this (decide_eq_true h)
          omega
      ·have hs : l[t].Shp Z := ⟨by omega, by omega, by omega, hlen, fun j' hj' => hno2 j' (by omega)⟩
       refine Aw (Aa (Aa (Af (Aj (Ab (Ad (Qx (oA rfl) rfl (Qm rfl (Ak ?_)))))))))
       refine Al (l.length - (t + 1)) _ (by omega) ⟨t + 1, rfl, rfl, Hp.le_trans lh l3, rfl, by omega, fun t' ht' h => ?_⟩ Qs
       rcases (by omega : t' < t ∨ t' = t) with h | rfl
       ·exact hno t' ht' h
       ·exact hs
 ·refine Aw (Aa (Aa (Af (Ab (Ax (Qm rfl (Aq (Ao ?_))))))))
  exact Am rfl rfl (by rw [Jf]; intro s hs; obtain ⟨t', ht', rfl⟩ := List.mem_iff_getElem.1 hs; exact hno t' ht' (by omega))
end Go.Proofs.YtdnelknieikbaaaGreat
namespace Go.Proofs.YtdnelknieikbaaaGreat
open Go.Proofs.Tryz
open Go.Eng Go.RowKit Go.Lin Go.Sort Go.Srt
variable {l : List SV} {k : Nat}
def hereL (l : List SV) (k n : Nat) : List Value := (Df n ((Fj l).on k)).map fun t => (l.getD t default).vv k
theorem hereL_yes {n : Nat} (h : (Fj l).on k n = true) : hereL l k (n + 1) = hereL l k n ++ [(l.getD n default).vv k] := by
 unfold hereL
 rw [EP, h]
 simp
theorem hereL_no {n : Nat} (h : (Fj l).on k n = false) : hereL l k (n + 1) = hereL l k n := by
 unfold hereL
 rw [EP, h]
 simp
theorem hereL_len (l : List SV) (k n : Nat) : (hereL l k n).length = cnt n ((Fj l).on k) := by unfold hereL cnt; rw [List.length_map]
theorem hereL_rd {Z : Zz} (hRt : Z.Rt) (hS : ∀ s ∈ l, s.Shp Z) {h : Hp} {v : Value} (hR : RdL cV 1 h [] v (hereL l k l.length)) (hW : ∀ s ∈ l, RdW h s) : RdV h v (cnt l.length ((Fj l).on k)) (Z.zg.d k) (IH l k) := by
 refine ⟨hereL l k l.length, hereL_len l k _, hR, fun j hj => ?_⟩
 have hj' : j < (Df l.length ((Fj l).on k)).length := by rw [hereL_len] at hj; exact hj
 have hm : (Df l.length ((Fj l).on k)).getD j 0 ∈ Df l.length ((Fj l).on k) := by simp [List.getD, hj']
 obtain ⟨h1, h2⟩ := RZ hS (Nat.le_refl _) hm
 have hsh := hS _ (List.getElem_mem h1)
 have h3 := (hsh.row hRt h2).1
 have h4 := (hW _ (List.getElem_mem h1)).vv hsh.long h2
 have e : (hereL l k l.length)[j] = l[(Df l.length ((Fj l).on k)).getD j 0].vv k := by
  have e2 : (Df l.length ((Fj l).on k))[j] = (Df l.length ((Fj l).on k)).getD j 0 := by simp [List.getD, hj']
  have e5 : (hereL l k l.length)[j]? = some ((l.getD (Df l.length ((Fj l).on k))[j] default).vv k) := by
   unfold hereL
   rw [List.getElem?_map, List.getElem?_eq_getElem hj']; rfl
  rw [List.getElem?_eq_getElem hj, e2, Et h1] at e5
  exact Option.some.inj e5
 rw [e]
 have e3 := I2 (l[(Df l.length ((Fj l).on k)).getD j 0].at_ k)
 rw [h3] at e3
 rw [e3] at h4
 have e4 : vec (Z.zg.d k) (IH l k j) = vec (Z.zg.d k) fun i => (l[(Df l.length ((Fj l).on k)).getD j 0].at_ k).getD i 0 := BA fun i _ => by
  unfold IH
  rw [Et h1]
 rw [e4]
 exact h4
theorem bases_ok (Z : Zz) (vd va : Value) (l : List SV) (vl : Value) (h : Hp) (hRt : Z.Rt) (hR : RdZ h vd va Z) (hL : RdSs h vl l) (hS : ∀ s ∈ l, s.Shp Z) (hN : l.length ≤ 1000000) :
  FnT Tryz.prog 64 #[.agg #[.int .i64 Z.p, vd, va], vl] h [] (fun r _ _ => r = .bool (bl (∀ k, k < Z.dims.length → OK Z l k))) := by
 have o1 := hR.d.rd.one
 have o2 := hR.a.rd.one
 have hp := hRt.2.2.2.1
 have hbp := hp.1
 have hbp2 := hp.2.1
 have n1 := hRt.2.1
 refine Av func64 ntmps64 rfl rfl (fun w0 hw0 => ?_)
 simp only [A4]
 refine Ax ?_
 refine AS [_, _, _] rfl rfl (by rfl) rfl rfl rfl (fun g2 => ?_)
 refine Qm rfl (Aq (AL fun h1 l1 hS2 => ?_))
 have hR := hR.up l1
 have hL := hL.up l1
 have hA := Seg.all hS2
 have hA0 := hA 0 _ rfl
 refine Ac (Ax (Qf Bn rfl (Ql rfl underlying24 (hA _ _ rfl _) (Qx (AJ hR.d.rd.any rfl underlying24 rfl) rfl (Qm rfl (Aq (Ag ?_)))))))
 refine AD (fun q sl hh ms' => ∃ (k : Nat), q = Z.dims.length - k ∧ sl = [(1, vl), (2, .pointer (some ⟨g2, 0, none⟩)), (13, vd), (14, .int .i64 Z.dims.length), (15, .int .i64 k)] ∧ h1.le hh ∧ ms' = [] ∧ k ≤ Z.dims.length ∧ ∀ k', k' < k → OK Z l k')
  (Z.dims.length - 0) _ ⟨0, rfl, rfl, Hp.le_refl _, rfl, by omega, fun k' h => by omega⟩ Qs ?_
 rintro q sl hh ms' ⟨k, rfl, rfl, lh, rfl, hk, hno⟩
 have hR := hR.up lh
 have hL := hL.up lh
 have hS2 := hS2.le lh
 refine Ax (Qm rfl (Aq (Ac ?_)))
 refine AF rfl (fun hlt => ?_) (fun hlt => ?_)
 ·have hkl : k < Z.dims.length := by omega
  have hd := Z.d_le hRt k
  have hdk : ∀ ms, Cell hh ms ((Bl vd).add (k * 1)) (.int .i64 (Z.zg.d k)) := fun ms => by
   rw [Z.zg_d hRt k]
   exact H8 hR hkl
  refine Ai (Ab (Ac (Ag (Ax (Qm rfl (Qx (Ah (k) hR.d.rd.any rfl underlying24 A8 rfl rfl (by omega) (by omega)) rfl (Ql rfl underlying3 (hdk _) (Qm rfl (Qm rfl (B3 (Qm rfl (Aq (Ac (Ax (Qm rfl (Qx (AJ hL.q.rd.any rfl underlying60 rfl) rfl (Qm rfl (Aq (Ag (BX ?_))))))))))))))))))))
  refine AD (fun q sl h2 ms' => ∃ (i : Nat) (vo : Value) (mo : Hp), q = l.length - i ∧ sl = [(1, vl), (2, .pointer (some ⟨g2, 0, none⟩)), (13, vd), (14, .int .i64 Z.dims.length), (15, .int .i64 k), (5, .int .i64 k), (6, .int .i64 (Z.zg.d k)), (7, vo), (20, vl), (21, .int .i64 l.length), (22, .int .i64 i)] ∧ hh.le h2 ∧ ms' = [mo] ∧ i ≤ l.length ∧ OwnL cV 1 24 mo vo (hereL l k i))
   (l.length - 0) _ ⟨0, _, _, rfl, rfl, Hp.le_refl _, rfl, by omega, OwnL.nil BK⟩ Qs ?_
  rintro q sl h2 ms' ⟨i, vo, mo, rfl, rfl, lh2, rfl, hi, hOx⟩
  have hR := hR.up lh2
  have hL := hL.up lh2
  have hS2 := hS2.le lh2
  refine Ax (Qm rfl (Aq (Ac ?_)))
  refine AF rfl (fun hlt2 => ?_) (fun hlt2 => ?_)
  ·have hil : i < l.length := Bx hlt2
   have hmem : l[i] ∈ l := List.getElem_mem hil
   have hsh := hS _ hmem
   have ov := l[i].e.one
   have hseg : ∀ ms, Seg h2 ms ((Bl vl).add (i * 3)) (VZ l[i]) := fun ms => (hL.q.any (ms := ms)).seg hil
   have hon := IX hS hil k
   have hln := hereL_len l k i
   have hcl := QK i ((Fj l).on k)
   refine Ai (Ab (Ac (Ag (Ax (Qx (Ah _ hL.q.rd.any rfl underlying60 BP rfl rfl rfl (by omega)) rfl (Qx (oG rfl underlying64 BP (hseg _)) rfl (BZ [.int .i64 0, .int .i64 0, .slice none 0 0] rfl BP rfl rfl (fun g9 => ?_))))))))
   refine Sa 0 [_, _, _] BP rfl (by simp [ov]) ?_
   refine Aq (AL fun h3 l3 hS9 => ?_)
   have hW := (hL.w _ hmem).up l3
   have hvo := hW.vv_one hsh.long k
   refine Ax (Qx (oG rfl underlying64 BP (Seg.any hS9)) rfl (Qm rfl (Qx (AG rfl call66 rfl (vector_w l[i] k h3 hW hsh.long (by omega) _)) rfl (Qm rfl (Qm rfl (Qm rfl (Qm rfl (Qm rfl (B3 (Qm rfl (Aq ?_)))))))))))
   refine AF rfl (fun hc => ?_) (fun hc => ?_)
   ·have hRv := hW.vv hsh.long hc
    rw [decide_eq_true hc] at hon
    have e1 := hereL_yes hon
    rw [Et hil] at e1
    refine Ad (Qm rfl (Qm rfl (AB [_] rfl underlying62 BN rfl ((RdL.rd ‹_›).cells) rfl rfl (by omega) rfl rfl rfl (fun g35 => ?_))))
    refine Ba 1 hOx (RdL.one BK (x := l[i].vv k) (List.Mem.head _) rfl) rfl underlying62 BN rfl (by omega) rfl rfl rfl (Cj hvo) (by simp only [List.length_singleton]; omega) (by simp only [List.length_singleton]; omega) rfl rfl rfl (fun xe2 mx2 hOx2 => ?_)
    refine Qm rfl (Ak (Aj (Ab (Ad (Qx (oA rfl) rfl (Qm rfl (Ak (A5 ?_))))))))
    refine Al (l.length - (i + 1)) _ (by omega) ⟨i + 1, xe2, mx2, rfl, rfl, Hp.le_trans lh2 l3, rfl, by omega, by rw [e1]; exact hOx2⟩ Qs
   ·rw [decide_eq_false hc] at hon
    refine Ai (Aj (Ab (Ad (Qx (oA rfl) rfl (Qm rfl (Ak ?_))))))
    refine Al (l.length - (i + 1)) _ (by omega) ⟨i + 1, vo, mo, rfl, rfl, Hp.le_trans lh2 l3, rfl, by omega, by rw [hereL_no hon]; exact hOx⟩ Qs
  ·obtain rfl : i = l.length := by omega
   refine Bg hOx fun h3 l3 hRx => ?_
   have hL := hL.up l3
   have hA := Seg.all (hS2.le l3)
   have hA0 := hA 0 _ rfl
   have hRV := hereL_rd hRt hS hRx hL.w
   have hln := hereL_len l k l.length
   refine Aw (Aa (Aa (Af (Ab (Ax (Qm rfl (Qx (AJ hRx.rd.any rfl underlying62 rfl) rfl (Qm rfl (Qm rfl (Qm rfl ?_))))))))))
   refine AR (t := 42) rfl (fun hc => ?_) (fun hc => ?_)
   ·refine Qk rfl (Qk rfl (Qk rfl (Qk rfl (Qk rfl (Qk rfl (Qk rfl (Qk rfl (Qm rfl (Aq (AU rfl (Ax (Qm rfl (Aq (Ao (Ap (Ae (Ae (Ap (Ae ?_)))))))))))))))))))
    exact Am rfl rfl (by rw [E6]; intro h; have := (h k hkl).1; omega)
   ·have hce : cnt l.length ((Fj l).on k) = Z.zg.d k := by omega
    refine Qg (oF CG rfl) rfl (Qg (oL rfl underlying3 (hA0 _)) rfl (Qg (As rfl rfl) rfl (Qg (As rfl rfl) rfl (Ce rfl rfl rfl rfl ?_))))
    refine Qc call97 rfl (Bi Z.p (Z.zg.d k) (cnt l.length ((Fj l).on k)) (IH l k) vo h3 ⟨by omega, by omega⟩ (by omega) (by omega) hRV) (fun x h4 ms4 l4 hF => ?_)
    obtain ⟨rfl, xe, m4, rfl, rfl, hO4⟩ := hF
    refine AH hO4 fun h5 l5 hRm => ?_
    have RM : RtM Z.p (Z.zg.d k) (cnt l.length ((Fj l).on k)) (fun i j => IH l k j i) := ⟨hp, by omega, by omega, fun a ha b hb => Tj hRt hS hb (by omega)⟩
    have RE : UO Z.p (Z.zg.d k) (Z.zg.d k) (fun i j => IH l k j i) := by have := RM.en; rwa [hce] at this
    refine Qg (AG rfl call96 rfl (frank_w Z.p _ _ (fun i j => IH l k j i) xe h5 RM hRm _)) rfl (Qg (As rfl rfl) rfl (Qg (B4 rfl rfl rfl) rfl (Qm rfl (Aq ?_))))
    refine AF rfl (fun hr => ?_) (fun hr => ?_)
    ·refine Ac (Ad (Qm rfl (Aq (Ao (Ap (Ae (Ae (Ap (Ae ?_)))))))))
     exact Am rfl rfl (by rw [E6]; intro h; have h1 := (h k hkl).2; rw [← cols_inw hp.fld hce] at h1; have h2 := (PY hp.fld RE).2 h1; rw [hce] at hr; exact hr (by omega))
    ·have hs : OK Z l k := ⟨hce, by rw [← cols_inw hp.fld hce]; exact (PY hp.fld RE).1 (by rw [hce] at hr; omega)⟩
     refine Ai (Aj (Ab (Ad (Qx (oA rfl) rfl (Qm rfl (Ak ?_))))))
     refine Al (Z.dims.length - (k + 1)) _ (by omega) ⟨k + 1, rfl, rfl, Hp.le_trans lh (Hp.le_trans lh2 (Hp.le_trans l3 l5)), rfl, by omega, fun k' h => ?_⟩ Qs
     rcases (by omega : k' < k ∨ k' = k) with h | rfl
     ·exact hno k' h
     ·exact hs
 ·refine Aw (Aa (Aa (Af (Ab (Ax (Qm rfl (Aq (Ao ?_))))))))
  exact Am rfl rfl (by rw [Jf]; exact fun k' h => hno k' (by omega))
end Go.Proofs.YtdnelknieikbaaaGreat
namespace Go.Proofs.YtdnelknieikbaaaGreat
open Go.Proofs.Tryz
open Go.Eng Go.RowKit Go.Lin Go.Sort Go.Srt
theorem vec_eq_iff {n : Nat} {f : Nat → Int} {l : List Int} (hl : l.length = n) : vec n f = l ↔ ∀ i, i < n → f i = l.getD i 0 := by
 constructor
 ·rintro rfl i hi
  rw [Gw (by rw [AQ]; exact hi), EE hi]
 ·intro h
  have e := I2 l
  rw [hl] at e
  rw [e]
  exact BA h
theorem zcheck_ok (Z : Zz) (vd va : Value) (l : List SV) (vl : Value) (h : Hp) (hO : Z.Ok) (hR : RdZ h vd va Z) (hL : RdSs h vl l) (hN : l.length ≤ 1000000) : FnT Tryz.prog 32 #[.agg #[.int .i64 Z.p, vd, va], vl] h [] (fun r _ _ => r = .bool (bl (Vo Z l))) := by
 have o1 := hR.d.rd.one
 have o2 := hR.a.rd.one
 refine Av func32 ntmps32 rfl rfl (fun w0 hw0 => ?_)
 simp only [A4]
 refine Ax ?_
 refine AS [_, _, _] rfl rfl (by rfl) rfl rfl rfl (fun g2 => ?_)
 refine Qm rfl (Aq (AL fun h1 l1 hS2 => ?_))
 have hR := hR.up l1
 have hL := hL.up l1
 have hA := Seg.all hS2
 have hA0 := hA 0 _ rfl
 refine Ac (Ax (Qx (oG rfl underlying30 Bz (Seg.any hS2)) rfl (Qx (AG rfl call35 rfl (Ds (FT Z vd va _ hO hR) _)) rfl (Qm rfl (Qm rfl ?_)))))
 refine CO (t := 19) rfl (fun hb => ?_) (fun hb => ?_)
 ·have hb : ¬ Z.Rt := by simpa using hb
  refine Qk rfl (Qk rfl (Qk rfl (Qk rfl (Qm rfl (Qm rfl (Qk rfl (Qk rfl (Qk rfl (Qk rfl (Qm rfl (Aq (AU rfl (Ax (Qm rfl (Aq (Ao (Ae ?_)))))))))))))))))
  exact Am rfl rfl (by rw [E6]; exact fun h => hb h.1)
 ·have hRt : Z.Rt := by simpa using hb
  have n1 := hRt.1
  have n2 := hRt.2.1
  have hna := Z.nars hRt
  refine Qg (oG rfl underlying30 Bz (Seg.any hS2)) rfl (Qg (As rfl rfl) rfl (Qg (AG rfl call63 rfl (shaped_v Z vd va l vl h1 hRt hR hL _)) rfl (Qg (CP rfl rfl) rfl (Qm rfl (Qm rfl ?_)))))
  refine CO (t := 25) rfl (fun hb2 => ?_) (fun hb2 => ?_)
  ·refine Qk rfl (Qk rfl (Qk rfl (Qk rfl (Qm rfl (Aq (AU rfl (Ax (Qm rfl (Aq (Ao (Ae ?_)))))))))))
   exact Am rfl rfl (by rw [E6]; intro h; rw [Jf h.2.1] at hb2; simp at hb2)
  ·have hS : ∀ s ∈ l, s.Shp Z := bl_iff.1 (by simpa using hb2)
   refine Qg (oG rfl underlying30 Bz (Seg.any hS2)) rfl (Qg (As rfl rfl) rfl (Qg (AG rfl call64 rfl (Ds (bases_ok Z vd va l vl h1 hRt hR hL hS hN) _)) rfl (Qg (CP rfl rfl) rfl (Qm rfl (Aq ?_)))))
   refine BJ rfl (fun hb3 => ?_) (fun hb3 => ?_)
   ·refine Ac (Ad (Qm rfl (Aq (Ao (Ae ?_)))))
    exact Am rfl rfl (by rw [E6]; intro h; rw [Jf ((HA hRt hS).1 h.2.2).1] at hb3; simp at hb3)
   ·have hB : ∀ k, k < Z.dims.length → OK Z l k := bl_iff.1 (by simpa using hb3)
    refine Ai (Ab (Ac (Ax (Qf BQ rfl (Ql rfl underlying28 (hA _ _ rfl _) (Qx (AJ hR.a.rd.any rfl underlying28 rfl) rfl (Qm rfl (Aq (Ag ?_)))))))))
    refine AD (fun q sl hh ms' => ∃ (k : Nat), q = Z.ars.length - k ∧ sl = [(1, vl), (2, .pointer (some ⟨g2, 0, none⟩)), (32, va), (33, .int .i64 Z.ars.length), (34, .int .i64 k)] ∧ h1.le hh ∧ ms' = [] ∧ k ≤ Z.ars.length ∧ ∀ k', k' < k → ∀ t (ht : t < l.length), Ll Z k' l[t])
     (Z.ars.length - 0) _ ⟨0, rfl, rfl, Hp.le_refl _, rfl, by omega, fun k' h => by omega⟩ Qs ?_
    rintro q sl hh ms' ⟨k, rfl, rfl, lh, rfl, hk, harr⟩
    have hR := hR.up lh
    have hL := hL.up lh
    have hS2 := hS2.le lh
    refine Ax (Qm rfl (Aq (Ac ?_)))
    refine AF rfl (fun hlt => ?_) (fun hlt => ?_)
    ·have hka : k < Z.ars.length := by omega
     have hamem := List.getElem_mem hka
     have oav := (hR.e _ hamem).rd.one
     refine Ai (Ab (Ac (Ag (Ax (Qm rfl (Qx (Ah _ hR.a.rd.any rfl underlying28 Cr rfl rfl rfl (by omega)) rfl (Qx (oG rfl underlying45 Cr (hR.a.any.seg hka)) rfl (BZ [.bool false, .int .i64 0, .int .i64 0, .int .i64 0, .slice none 0 0] rfl Cr rfl rfl (fun g6 => Qm rfl ?_)))))))))
     refine Sa 0 [_, _, _, _, _] Cr rfl (by simp [oav]) ?_
     refine Aq (AL fun h3 l3 hS6 => ?_)
     have hR := hR.up l3
     have hL := hL.up l3
     have hS2 := hS2.le l3
     obtain ⟨f1, f2, f3, f4, f5⟩ := Z.arrow hRt hka
     obtain ⟨es, et⟩ := Z.zg_src hka
     have hsrc : Z.zg.src k ≤ 1000 := by rcases Z.zg.src_tgt k with ⟨e, _, _⟩ | ⟨e, _, _⟩ <;> omega
     have htgt : Z.zg.tgt k ≤ 1000 := by rcases Z.zg.src_tgt k with ⟨_, e, _⟩ | ⟨_, e, _⟩ <;> omega
     have hen : ∀ ms, Dq Tryz.prog 65 #[.agg #[.int .i64 Z.p, vd, va], .int .i64 k] h3 ms (.tuple #[.int .i64 (Z.zg.src k), .int .i64 (Z.zg.tgt k)]) := fun ms => by
      rw [es, et]
      exact UP Z vd va k h3 hR hka ms
     refine Ax (Qx (oG rfl underlying30 Bz (Seg.any hS2)) rfl (Qm rfl (Qx (AG rfl call65 rfl (hen _)) rfl (Qm rfl (Qm rfl (Qm rfl (Qm rfl (Qm rfl (B3 (Qm rfl (Qx (AJ hL.q.rd.any rfl underlying60 rfl) rfl (Qm rfl (Aq (Ag ?_))))))))))))))
     refine AD (fun q sl h4 ms' => ∃ (t : Nat), q = l.length - t ∧ sl = [(1, vl), (2, .pointer (some ⟨g2, 0, none⟩)), (32, va), (33, .int .i64 Z.ars.length), (34, .int .i64 k), (6, .pointer (some ⟨g6, 0, none⟩)), (7, .int .i64 (Z.zg.src k)), (8, .int .i64 (Z.zg.tgt k)), (45, vl), (46, .int .i64 l.length), (47, .int .i64 t)] ∧ h3.le h4 ∧ ms' = [] ∧ t ≤ l.length ∧ ∀ t' (ht : t' < l.length), t' < t → Ll Z k l[t'])
      (l.length - 0) _ ⟨0, rfl, rfl, Hp.le_refl _, rfl, by omega, fun t' _ h => by omega⟩ Qs ?_
     rintro q sl h4 ms' ⟨t, rfl, rfl, lh4, rfl, ht, harr2⟩
     have hR := hR.up lh4
     have hL := hL.up lh4
     have hS6 := hS6.le lh4
     refine Ax (Qm rfl (Aq (Ac ?_)))
     refine AF rfl (fun hlt2 => ?_) (fun hlt2 => ?_)
     ·have htl : t < l.length := Bx hlt2
      have hmem := List.getElem_mem htl
      have hsh := hS _ hmem
      have ov := l[t].e.one
      have hseg : ∀ ms, Seg h4 ms ((Bl vl).add (t * 3)) (VZ l[t]) := fun ms => (hL.q.any (ms := ms)).seg htl
      refine Ai (Ab (Ac (Ag (Ax (Qx (Ah _ hL.q.rd.any rfl underlying60 BP rfl rfl rfl (by omega)) rfl (Qx (oG rfl underlying64 BP (hseg _)) rfl (BZ [.int .i64 0, .int .i64 0, .slice none 0 0] rfl BP rfl rfl (fun g10 => ?_))))))))
      refine Sa 0 [_, _, _] BP rfl (by simp [ov]) ?_
      refine Aq (AL fun h5 l5 hS10 => ?_)
      have hR := hR.up l5
      have hL := hL.up l5
      have hS6 := hS6.le l5
      have hW := hL.w _ hmem
      have oa := hW.vv_one hsh.long (Z.zg.src k)
      have ob := hW.vv_one hsh.long (Z.zg.tgt k)
      refine Ax (Qx (oG rfl underlying64 BP (Seg.any hS10)) rfl (Qm rfl (Qx (AG rfl call66 rfl (vector_w l[t] (Z.zg.src k) h5 hW hsh.long hsrc _)) rfl (Qm rfl (Qm rfl (Qm rfl (Qm rfl (Qm rfl (Aq (Ac (Ax (Qm rfl (Qm rfl (Aq ?_))))))))))))))
      refine BJ rfl (fun hc => ?_) (fun hc => ?_)
      ·have hc : ¬ l[t].on (Z.zg.src k) := by simpa using hc
       refine Aw (Aa (Af (Ab (Ad (Qx (oA rfl) rfl (Qm rfl (Ak ?_)))))))
       refine Al (l.length - (t + 1)) _ (by omega) ⟨t + 1, rfl, rfl, Hp.le_trans lh4 l5, rfl, by omega, fun t' ht' h => ?_⟩ Qs
       rcases (by omega : t' < t ∨ t' = t) with h | rfl
       ·exact harr2 t' ht' h
       ·exact fun ho => absurd ho hc
      ·have hc : l[t].on (Z.zg.src k) := by simpa using hc
       obtain ⟨e1, e2⟩ := hsh.row hRt hc
       have hV := hW.vv hsh.long hc
       have ew := I2 (l[t].at_ (Z.zg.src k))
       rw [e1] at ew
       rw [ew] at hV
       have hwb : ∀ j, j < Z.zg.d (Z.zg.src k) → 0 ≤ (l[t].at_ (Z.zg.src k)).getD j 0 ∧ (l[t].at_ (Z.zg.src k)).getD j 0 < Z.p := fun j hj => by
        have hj' : j < (l[t].at_ (Z.zg.src k)).length := by omega
        rw [Gw hj']
        exact e2 _ (List.getElem_mem hj')
       have hM := hR.e _ hamem
       rw [f4] at hM
       have hsg : ∀ ms, Seg h5 ms ((⟨g6, 0, none⟩ : Addr).add 1) [.int .i64 Z.p, .int .i64 (Z.zg.d (Z.zg.tgt k)), .int .i64 (Z.zg.d (Z.zg.src k)), Z.ars[k].v] := fun ms i u hu => by
        rw [A6, ← f1, ← f2, ← f3] at *
        refine (hS6 (1 + i) u ?_).any
        rw [Nat.add_comm]
        exact hu
       refine Ai (Ab (Ax (Qx (oG rfl underlying64 BP (Seg.any hS10)) rfl (Qm rfl (Qx (AG rfl call66 rfl (vector_w l[t] (Z.zg.tgt k) h5 hW hsh.long htgt _)) rfl (Qm rfl (Qm rfl (Qm rfl (Qm rfl (Qm rfl (B3 (Qf Ca rfl (Qx (oG rfl underlying42 AI (hsg _)) rfl (Qm rfl (Qc call67 rfl (IG Z.p _ _ (Z.zg.mat k) (fun j => (l[t].at_ (Z.zg.src k)).getD j 0) Z.ars[k].v (l[t].vv (Z.zg.src k)) h5 f5 hwb hM hV) (fun x h6 ms6 l6 hF => ?_))))))))))))))))
       obtain ⟨l6', mx, rfl, hOx⟩ := hF
       refine AH hOx fun h7 l7 hRx => ?_
       have hW := hW.up (Hp.le_trans l6' l7)
       have hR := hR.up (Hp.le_trans l6' l7)
       have l57 := Hp.le_trans l5 (Hp.le_trans l6' l7)
       have evl := AQ (Z.zg.d (Z.zg.tgt k)) (D2 Z.p (Z.zg.d (Z.zg.src k)) (Z.zg.mat k) fun j => (l[t].at_ (Z.zg.src k)).getD j 0)
       by_cases hto : l[t].on (Z.zg.tgt k)
       ·have hV2 := hW.vv hsh.long hto
        have hl2 := (hsh.row hRt hto).1
        have key := vec_eq_iff (f := D2 Z.p (Z.zg.d (Z.zg.src k)) (Z.zg.mat k) fun j => (l[t].at_ (Z.zg.src k)).getD j 0) hl2
        rw [decide_eq_true hto]
        refine Qm rfl (B3 (Qm rfl (Qm rfl (Qg (As rfl rfl) rfl (Qg (As rfl rfl) rfl (Qg (AG rfl call68 rfl (equal_v _ _ _ _ h7 hRx hV2 _)) rfl (Qg (CP rfl rfl) rfl (Qm rfl (Qm rfl ?_)))))))))
        refine CO (t := 76) rfl (fun hq => ?_) (fun hq => ?_)
        ·refine Qk rfl (Qk rfl (Qk rfl (LQ rfl rfl rfl rfl rfl rfl (LQ rfl rfl rfl rfl rfl rfl (LQ rfl rfl rfl rfl rfl rfl (Qk rfl (Qm rfl (Aq (AU rfl (Ax (Qm rfl (Aq (Ao (Ap (Ae (Ae (Ap (Ap (Ae (Ae (Ap (Ae ?_))))))))))))))))))))))
         exact Am rfl rfl (by rw [E6]; intro h; have h1 := ((HA hRt hS).1 h.2.2).2 k hka t htl hc; simp only [if_pos hto] at h1; rw [decide_eq_true (key.2 h1)] at hq; simp at hq)
        ·have hq : _ = _ := of_decide_eq_true (by simpa using hq)
         refine Qg (As rfl rfl) rfl (Qg (CP rfl rfl) rfl (Qg (As rfl rfl) rfl (Qk rfl (Qk rfl (Qk rfl (Qg (JJ rfl rfl rfl) rfl (Qm rfl (Aq (Bb rfl (Ai (Aj (Ab (Ad (Qx (oA rfl) rfl (Qm rfl (Ak ?_))))))))))))))))
         refine Al (l.length - (t + 1)) _ (by omega) ⟨t + 1, rfl, rfl, Hp.le_trans lh4 l57, rfl, by omega, fun t' ht' h => ?_⟩ Qs
         rcases (by omega : t' < t ∨ t' = t) with h | rfl
         ·exact harr2 t' ht' h
         ·intro _ i hi
          rw [if_pos hto]
          exact key.1 hq i hi
       ·rw [decide_eq_false hto]
        refine Qm rfl (B3 (Qm rfl (Qm rfl (Qk rfl (Qk rfl (Qk rfl (Qk rfl (Qm rfl (Qm rfl (Qg (As rfl rfl) rfl (Qg (CP rfl rfl) rfl (Qg (As rfl rfl) rfl (Qg (As rfl rfl) rfl (Qg (AG rfl call69 rfl (UZ _ _ h7 hRx _)) rfl (Qg (CP rfl rfl) rfl (Qg (Jv rfl rfl rfl) rfl (Qm rfl (Aq ?_))))))))))))))))))
        refine BJ rfl (fun hq => ?_) (fun hq => ?_)
        ·refine Ac (Ad (Qm rfl (Aq (Ao (Ap (Ae (Ae (Ap (Ap (Ae (Ae (Ap (Ae ?_)))))))))))))
         exact Am rfl rfl (by rw [E6]; intro h; have h1 := ((HA hRt hS).1 h.2.2).2 k hka t htl hc; simp only [if_neg hto] at h1; rw [decide_eq_true (fun x hx => by obtain ⟨i, hi, rfl⟩ := mem_vec.1 hx; exact h1 i hi)] at hq; simp at hq)
        ·have hq : ∀ x ∈ vec (Z.zg.d (Z.zg.tgt k)) (D2 Z.p (Z.zg.d (Z.zg.src k)) (Z.zg.mat k) fun j => (l[t].at_ (Z.zg.src k)).getD j 0), x = 0 := of_decide_eq_true (by simpa only [Bool.not_eq_false'] using hq)
         refine Ai (Aj (Ab (Ad (Qx (oA rfl) rfl (Qm rfl (Ak ?_))))))
         refine Al (l.length - (t + 1)) _ (by omega) ⟨t + 1, rfl, rfl, Hp.le_trans lh4 l57, rfl, by omega, fun t' ht' h => ?_⟩ Qs
         rcases (by omega : t' < t ∨ t' = t) with h | rfl
         ·exact harr2 t' ht' h
         ·intro _ i hi
          rw [if_neg hto]
          exact hq _ (mem_vec.2 ⟨i, hi, rfl⟩)
     ·refine Aw (Aa (Aa (Af (Aj (Ab (Ad (Qx (oA rfl) rfl (Qm rfl (Ak ?_)))))))))
      refine Al (Z.ars.length - (k + 1)) _ (by omega) ⟨k + 1, rfl, rfl, Hp.le_trans lh (Hp.le_trans l3 lh4), rfl, by omega, fun k' h t' ht' => ?_⟩ Qs
      rcases (by omega : k' < k ∨ k' = k) with h | rfl
      ·exact harr k' h t' ht'
      ·exact harr2 t' ht' (by omega)
    ·refine Aw (Aa (Aa (Af (Ab (Ax (Qm rfl (Aq (Ao ?_))))))))
     exact Am rfl rfl (by rw [Jf]; exact ⟨hRt, hS, (HA hRt hS).2 ⟨hB, fun k' hk' t ht => harr k' (by omega) t ht⟩⟩)
end Go.Proofs.YtdnelknieikbaaaGreat
set_option maxHeartbeats 2000000
namespace Go.Proofs.YtdnelknieikbaaaGreat
open Go.Proofs.Tryz
open Go.Eng Go.RowKit Go.Lin Go.Sort Go.Srt
def Zz.Same (Z Z' : Zz) : Prop := Z.p = Z'.p ∧ Z.dims = Z'.dims ∧ Z.ars.map Ar.core = Z'.ars.map Ar.core
theorem PA {l l' : List Ar} {k : Nat} (hk : k < l.length) (hk' : k < l'.length) (he : (l.take k).map Ar.core = (l'.take k).map Ar.core) (h1 : l[k].b = l'[k].b) (h2 : l[k].M = l'[k].M) : (l.take (k + 1)).map Ar.core = (l'.take (k + 1)).map Ar.core := by
 rw [List.take_succ_eq_append_getElem hk, List.take_succ_eq_append_getElem hk', List.map_append, List.map_append, he]
 show _ ++ [(l[k].b, l[k].M)] = _ ++ [(l'[k].b, l'[k].M)]
 rw [h1, h2]
theorem Oz (Z Z' : Zz) (vd va vd' va' : Value) (h : Hp) (hR : RdZ h vd va Z) (hR' : RdZ h vd' va' Z') (ms : List Hp) : Dq Tryz.prog 27 #[.agg #[.int .i64 Z.p, vd, va], .agg #[.int .i64 Z'.p, vd', va']] h ms (.bool (bl (Z.Same Z'))) := by
 refine Ds ?_ ms
 have o1 := hR.d.rd.one
 have o2 := hR.a.rd.one
 have o3 := hR'.d.rd.one
 have o4 := hR'.a.rd.one
 refine Av func27 ntmps27 rfl rfl (fun w0 hw0 => ?_)
 simp only [A4]
 refine Ax ?_
 refine AS [_, _, _] rfl rfl (by rfl) rfl rfl rfl (fun g2 => ?_)
 refine AS [_, _, _] rfl rfl (by rfl) rfl rfl rfl (fun g3 => ?_)
 refine Qm rfl (Aq (AL fun h1 l1 hS3 => (AL fun h2 l2 hS2 => ?_)))
 have hS3 := hS3.le l2
 have hR := hR.up (Hp.le_trans l1 l2)
 have hR' := hR'.up (Hp.le_trans l1 l2)
 have hA := Seg.all hS2
 have hA0 := hA 0 _ rfl
 have hB := Seg.all hS3
 have hB0 := hB 0 _ rfl
 have hl := hR.a.len_le
 refine Ax (Qf Bn rfl (Ql rfl underlying24 (hA _ _ rfl _) (Qf Bn rfl (Ql rfl underlying24 (hB _ _ rfl _) (Qx (AG rfl call54 rfl (SA Z.dims Z'.dims vd vd' h2 hR.d hR'.d _)) rfl (Qm rfl (Aq (Ac (Ax (Qf CG rfl (Ql rfl underlying3 (hA0 _) (Qf CG rfl (Ql rfl underlying3 (hB0 _) (Qm rfl (Qm rfl ?_)))))))))))))))
 refine AR (t := 18) rfl (fun hs1 => ?_) (fun hs1 => ?_)
 ·refine Qk rfl (Qk rfl (Qm rfl (Qm rfl (Qk rfl (Qk rfl (Qk rfl (Qk rfl (Qk rfl (Qk rfl (Qk rfl (Qm rfl (Aq (AU rfl (Ax (Qm rfl (Aq (Ao (Ae ?_))))))))))))))))))
  exact Am rfl rfl (by rw [E6]; exact fun e => hs1 e.1)
 ·refine Qg (As rfl rfl) rfl (Qg (CP rfl rfl) rfl (Qm rfl (Qm rfl ?_)))
  refine CO (t := 22) rfl (fun hs2 => ?_) (fun hs2 => ?_)
  ·refine Qk rfl (Qk rfl (Qk rfl (Qk rfl (Qk rfl (Qk rfl (Qk rfl (Qm rfl (Aq (AU rfl (Ax (Qm rfl (Aq (Ao (Ae ?_))))))))))))))
   exact Am rfl rfl (by rw [E6]; intro e; rw [decide_eq_true e.2.1] at hs2; simp at hs2)
  ·have hs2 : Z.dims = Z'.dims := of_decide_eq_true (by simpa only [Bool.not_eq_false'] using hs2)
   refine Qg (oF BQ rfl) rfl (Qg (oL rfl underlying28 (hA _ _ rfl _)) rfl (Qg (AJ hR.a.rd.any rfl underlying28 rfl) rfl (Qg (oF BQ rfl) rfl (Qg (oL rfl underlying28 (hB _ _ rfl _)) rfl (Qg (AJ hR'.a.rd.any rfl underlying28 rfl) rfl (Qg (B4 rfl rfl rfl) rfl (Qm rfl (Aq ?_))))))))
   refine AF rfl (fun hs3 => ?_) (fun hs3 => ?_)
   ·refine Ac (Ad (Qm rfl (Aq (Ao (Ae ?_)))))
    exact Am rfl rfl (by rw [E6]; intro e; have := congrArg List.length e.2.2; rw [List.length_map, List.length_map] at this; exact hs3 (by rw [this]))
   ·have hlen : Z.ars.length = Z'.ars.length := by omega
    refine Ai (Ab (Ac (Ax (Qm rfl (Aq (Ag ?_))))))
    refine AD (fun q sl hh ms' => ∃ (k : Nat), q = Z.ars.length - k ∧ sl = [(2, .pointer (some ⟨g2, 0, none⟩)), (3, .pointer (some ⟨g3, 0, none⟩)), (6, .int .i64 k)] ∧ h2 = hh ∧ ms' = [] ∧ k ≤ Z.ars.length ∧ (Z.ars.take k).map Ar.core = (Z'.ars.take k).map Ar.core)
     (Z.ars.length - 0) _ ⟨0, rfl, rfl, rfl, rfl, by omega, rfl⟩ Qs ?_
    rintro q sl hh ms' ⟨k, rfl, rfl, rfl, rfl, hk, he⟩
    refine Ac (Ax (Qm rfl (Qf BQ rfl (Ql rfl underlying28 (hA _ _ rfl _) (Qx (AJ hR.a.rd.any rfl underlying28 rfl) rfl (Qm rfl (Aq ?_)))))))
    refine AF rfl (fun hlt => ?_) (fun hlt => ?_)
    ·have hka : k < Z.ars.length := Bx hlt
     have hkb : k < Z'.ars.length := by omega
     have hsv := UA Z.ars[k].M Z'.ars[k].M Z.ars[k].v Z'.ars[k].v h2 (hR.e _ (List.getElem_mem hka)) (hR'.e _ (List.getElem_mem hkb))
     refine Ai (Ab (Ac (Ag (Ac (BB 12 Cd (by kernel_rfl) rfl (Wf BQ rfl (Wl rfl underlying28 (hA _ _ rfl _) (Wm rfl (AV (Ah (k) hR.a.rd.any rfl underlying28 Cr rfl rfl (by omega) (by omega)) rfl rfl (Wf Ca rfl (AV (oG rfl underlying42 AI (FQ hR hka)) rfl rfl (Wf BQ rfl (Wl rfl underlying28 (hB _ _ rfl _) (Wm rfl (AV (Ah (k) hR'.a.rd.any rfl underlying28 Cr rfl rfl (by omega) (by omega)) rfl rfl (Wf Ca rfl (AV (oG rfl underlying42 AI (FQ hR' hkb)) rfl rfl (BC (Qx (AG rfl call55 rfl (hsv _)) rfl (Qm rfl (Aq (Ac (BB 12 Cd (by kernel_rfl) rfl (Wf BQ rfl (Wl rfl underlying28 (hA _ _ rfl _) (Wm rfl (AV (Ah (k) hR.a.rd.any rfl underlying28 Cr rfl rfl (by omega) (by omega)) rfl rfl (Wf EK rfl (Wl rfl underlying4 (hR.a.any.cell hka rfl) (Wf BQ rfl (Wl rfl underlying28 (hB _ _ rfl _) (Wm rfl (AV (Ah (k) hR'.a.rd.any rfl underlying28 Cr rfl rfl (by omega) (by omega)) rfl rfl (Wf EK rfl (Wl rfl underlying4 (hR'.a.any.cell hkb rfl) (BC (Qx (UQ rfl underlying4 rfl rfl) rfl (Qm rfl ?_))))))))))))))))))))))))))))))))))))))
     refine CO (t := 64) rfl (fun hs4 => ?_) (fun hs4 => ?_)
     ·refine Qk rfl (Qk rfl (Qm rfl (Aq (AU rfl (Ax (Qm rfl (Aq (Ao (Ap (Ae (Ae (Ap (Ae ?_)))))))))))))
      exact Am rfl rfl (by rw [E6]; intro e; have h1 := congrArg (fun l => l[k]?) e.2.2; simp only [List.getElem?_map, List.getElem?_eq_getElem hka, List.getElem?_eq_getElem hkb, Option.map_some, Option.some.injEq] at h1; have h2 : Z.ars[k].b = Z'.ars[k].b := congrArg Prod.fst h1; rw [h2] at hs4; simp at hs4)
     ·have hs4 : Z.ars[k].b = Z'.ars[k].b := by simpa using hs4
      refine Qg (As rfl rfl) rfl (Qg (CP rfl rfl) rfl (Qm rfl (Aq ?_)))
      refine BJ rfl (fun hs5 => ?_) (fun hs5 => ?_)
      ·refine Ac (Ad (Qm rfl (Aq (Ao (Ap (Ae (Ae (Ap (Ae ?_)))))))))
       exact Am rfl rfl (by rw [E6]; intro e; have h1 := congrArg (fun l => l[k]?) e.2.2; simp only [List.getElem?_map, List.getElem?_eq_getElem hka, List.getElem?_eq_getElem hkb, Option.map_some, Option.some.injEq] at h1; have h2 : Z.ars[k].M = Z'.ars[k].M := congrArg Prod.snd h1; rw [decide_eq_true h2] at hs5; simp at hs5)
      ·have hs5 : Z.ars[k].M = Z'.ars[k].M := of_decide_eq_true (by simpa only [Bool.not_eq_false'] using hs5)
       refine Ai (Aj (Ab (Ad (Qm rfl (Qx (oA rfl) rfl (Qm rfl (Ak ?_)))))))
       refine Al (Z.ars.length - (k + 1)) _ (by omega) ⟨k + 1, rfl, rfl, rfl, rfl, by omega, PA hka hkb he hs4 hs5⟩ Qs
    ·obtain rfl : k = Z.ars.length := by omega
     rw [List.take_length, hlen, List.take_length] at he
     refine Aw (Aa (Aa (Af (Ab (Ax (Qm rfl (Aq (Ao ?_))))))))
     exact Am rfl rfl (by rw [Jf]; exact ⟨Decidable.not_not.1 hs1, hs2, he⟩)
end Go.Proofs.YtdnelknieikbaaaGreat
namespace Go.Proofs.YtdnelknieikbaaaGreat
open Go.Eng Go.RowKit Go.Lin Go.Sort Go.Srt
def Ar.flip (a : Ar) : Ar := ⟨!a.b, a.M, a.v⟩
def Zz.rev (Z : Zz) : Zz := ⟨Z.p, Z.dims.reverse, Z.ars.reverse.map Ar.flip⟩
end Go.Proofs.YtdnelknieikbaaaGreat
namespace Go.Proofs.YtdnelknieikbaaaGreat
open Go.Proofs.Tryz
open Go.Eng Go.RowKit Go.Lin Go.Sort Go.Srt
def Vq (n : Nat) (A : List Ar) (k : Nat) : List Value := [.int .i64 ((n : Int) - 1 - k), .agg (cA (A.getD (n - 1 - k) default)).toArray]
theorem Nx {A : List Ar} {k : Nat} (hk : k < A.length) : A.getD k default = A[k] := by simp [List.getD, hk]
theorem Pv (g n : Nat) (v : Value) (A : List Ar) (h : Hp) (hG : Seg h [] ⟨g, 0, none⟩ [v]) (hR : RdL cA 5 h [] v A) (hn : A.length = n) (hn2 : n ≤ 1000000) : Wh Tryz.prog 85 [.pointer (some ⟨g, 0, none⟩)] h n (Vq n A) := by
 intro lp X h1 ms hl hY h0
 show FnT _ _ #[.func (.yield lp) #[] #[], .pointer (some ⟨g, 0, none⟩)] _ _ _
 have hG := hG.le hl
 have hR := hR.up hl
 have hRn : ∀ h', h1.le h' → Rd h' [] v 5 n (A.flatMap cA) := fun h' l => by
  have := (hR.up l).rd
  rwa [hn] at this
 refine Av func85 ntmps85 rfl rfl (fun w0 hw0 => ?_)
 simp only [A4]
 refine Ac (B8 (Ct (oL rfl underlying28 ((hG.at0 rfl).any)) rfl rfl rfl (Ct (AJ (hRn _ (Hp.le_refl _)).any rfl underlying28 rfl) rfl rfl rfl (Ct (oS rfl) rfl rfl rfl (Ct (EX rfl rfl) rfl rfl rfl (DD (Ab (Ag ?_))))))))
 refine AD (fun q s hh ms' => ∃ (k : Nat), q = n - k ∧ s = [(0, .func (.yield lp) #[] #[]), (1, .pointer (some ⟨g, 0, none⟩)), (3, .int .i64 ((n : Int) - 1 - k))] ∧ h1.le hh ∧ k ≤ n ∧ X k hh ms')
  (n - 0) [(0, .func (.yield lp) #[] #[]), (1, .pointer (some ⟨g, 0, none⟩)), (3, .int .i64 ((n : Int) - 1))] ⟨0, rfl, by rw [show ((n : Int) - 1 - (0 : Nat)) = (n : Int) - 1 by omega], Hp.le_refl _, by omega, h0⟩ Qs ?_
 rintro q s hh ms' ⟨k, rfl, rfl, lh, hk, hX⟩
 refine Ac (Ac (B8 (Ct (As rfl rfl) rfl rfl rfl (Ct (DU rfl rfl rfl) rfl rfl rfl (DD (Ab ?_))))))
 refine AF rfl (fun hlt => ?_) (fun hlt => ?_)
 ·have hkn : k < n := by omega
  have hG2 := hG.le lh
  have hR2 := hR.up lh
  have hi : n - 1 - k < A.length := by omega
  have hc : ∀ ms, Seg hh ms ((Bl v).add ((n - 1 - k) * 5)) (cA (A.getD (n - 1 - k) default)) := fun ms => by
   rw [Nx hi]; exact (hR2.any (ms := ms)).seg hi
  refine Ai (Ab (Ac (Ag (Ac (B8 (Ct (As rfl rfl) rfl rfl rfl (Ct (As rfl rfl) rfl rfl rfl (Ct (oL rfl underlying28 ((hG2.at0 rfl).any)) rfl rfl rfl (Ct (As rfl rfl) rfl rfl rfl (Ct (Ah (n - 1 - k) (hRn _ lh).any rfl underlying28 Cr rfl rfl (by omega) (by omega)) rfl rfl rfl (Ct (oG rfl underlying45 Cr (hc _)) rfl rfl rfl (IF rfl rfl rfl (hY k hh ms' hkn lh hX) rfl rfl rfl (fun r h2 ms2 l2 hr => ?_)))))))))))))
  obtain ⟨rfl, hX2⟩ := hr
  refine Ct (CP rfl rfl) rfl rfl rfl (DD (Ab (Bb rfl (Ai (Aj (Ab (B8 (Ct (As rfl rfl) rfl rfl rfl (Ct (oS rfl) rfl rfl rfl (Ct (EX rfl rfl) rfl rfl rfl (DD ?_)))))))))))
  refine Al (n - (k + 1)) [(0, .func (.yield lp) #[] #[]), (1, .pointer (some ⟨g, 0, none⟩)), (3, .int .i64 ((n : Int) - 1 - k - 1))] (by omega) ⟨k + 1, rfl, by rw [show ((n : Int) - 1 - k - 1) = (n : Int) - 1 - (k + 1 : Nat) by omega], Hp.le_trans lh l2, by omega, hX2⟩ Qs
 ·obtain rfl : k = n := by omega
  refine Aw (Aa (Aa (Af ?_)))
  exact B6 rfl (hX)
theorem LO (v : Value) (n : Nat) (cs : List Value) (h : Hp) (hR : Rd h [] v 5 n cs) : FnT Tryz.prog 53 #[v] h [] (fun r h' ms' => h = h' ∧ ∃ g, r = .func (.func 85) #[] #[.pointer (some ⟨g, 0, none⟩)] ∧ ms' = [AX g 28 [v]]) := by
 refine Av func53 ntmps53 rfl rfl (fun w0 hw0 => ?_)
 simp only [A4]
 refine Ax (AS [_] rfl rfl (Rd.cells ‹_›) rfl rfl rfl (fun g1 => Qm rfl (B3 (Qx (CE rfl rfl rfl) rfl (Qm rfl (Aq (Ao ?_)))))))
 exact Am rfl rfl (⟨rfl, _, rfl, rfl⟩)
end Go.Proofs.YtdnelknieikbaaaGreat
set_option maxHeartbeats 4000000
namespace Go.Proofs.YtdnelknieikbaaaGreat
open Go.Proofs.Tryz
open Go.Eng Go.RowKit Go.Lin Go.Sort Go.Srt
theorem P8 {g i : Nat} {el : TypeId} {x : Value} {l : List Value} {h : Hp} {ms : List Hp} (hm : ms[i]? = some (AX g el (x :: l))) : Seg h ms ((⟨g, 0, none⟩ : Addr).add 1) l := fun j u hu => by
 rw [A6]
 exact Cell.blk i hm (by rw [Nat.add_comm]; exact hu)
def JT (Z : Zz) (g2 g3 : Nat) (vdo : Value) (md : Hp) (k : Nat) (ms : List Hp) : Prop := ∃ (va : Value) (ma mB : Hp) (A : List Ar), ms = [ma, mB, AX g3 30 [.int .i64 Z.p, vdo, va], md, AX g2 30 [.int .i64 0, .slice none 0 0, .slice none 0 0]] ∧ OwnL cA 5 45 ma va A ∧ A.map Ar.core = (Z.rev.ars.take k).map Ar.core ∧ BagE A mB
theorem Oo {Z : Zz} {k : Nat} (hk : k < Z.ars.length) : Z.rev.ars.take (k + 1) = Z.rev.ars.take k ++ [(Z.ars[Z.ars.length - 1 - k]'(by omega)).flip] := by
 have hl : Z.rev.ars.length = Z.ars.length := by show (Z.ars.reverse.map _).length = _; simp
 rw [List.take_succ_eq_append_getElem (by omega)]
 congr 2
 show (Z.ars.reverse.map Ar.flip)[k]'(by simp; exact hk) = _
 rw [List.getElem_map, List.getElem_reverse]
theorem T8 {Z : Zz} (hR : Z.Rt) {k : Nat} (hk : k < Z.ars.length) : (Z.ars[k]).M.e.length ≤ 1000000 := by
 obtain ⟨q1, q2, q3, q4⟩ := hR.2.2.2.2.2 k hk
 have h1 := Zz.dim_lt hR ((Z.ars[k]).src k)
 have h2 := Zz.dim_lt hR ((Z.ars[k]).tgt k)
 rw [← q3] at h1
 rw [← q4] at h2
 have h3 := q1.2.2.1
 have h4 := Int.mul_le_mul h2.2 h1.2 h1.1 (by decide)
 omega
theorem I2 (l : List Int) : vec l.length (fun i => l.getD i 0) = l := List.ext_getElem (by simp [vec]) fun i h1 h2 => by simp [vec, List.getD, h2]
theorem Td (l : List Int) : vec l.length (fun i => l.getD (l.length - 1 - i) 0) = l.reverse := List.ext_getElem (by simp [vec]) fun i h1 h2 => by
 have h3 : i < l.length := by simpa using h2
 have : l.length - 1 - i < l.length := by omega
 simp [vec, List.getD, this, List.getElem_reverse]
theorem G1 (Z : Zz) (vd va : Value) (h : Hp) (hRt : Z.Rt) (hR : RdZ h vd va Z) : FnT Tryz.prog 26 #[.agg #[.int .i64 Z.p, vd, va]] h [] (fun r h' ms' => h.le h' ∧ ∃ (vdo vao : Value) (md ma mB : Hp) (A : List Ar), ms' = [ma, md, mB] ∧ r = .agg #[.int .i64 Z.p, vdo, vao] ∧ OwnL cI 1 3 md vdo Z.dims.reverse ∧ OwnL cA 5 45 ma vao A ∧ A.map Ar.core = Z.rev.ars.map Ar.core ∧ BagE A mB) := by
 have o1 := hR.d.rd.one
 have o2 := hR.a.rd.one
 have n1 := hRt.1
 have n2 := hRt.2.1
 have hn := Z.nars hRt
 refine Gd func26 ntmps26 rfl rfl (fun w0 hw0 => ?_)
 simp only [A4]
 refine Ax ?_
 refine AS [_, _, _] rfl rfl (by rfl) rfl rfl rfl (fun g1 => ?_)
 refine BZ [.int .i64 0, .slice none 0 0, .slice none 0 0] rfl Bz rfl rfl (fun g2 => Aq (By 1 rfl fun h1 l1 hS => ?_))
 have hR := hR.up l1
 have hA := Seg.all hS
 have hA0 := hA 0 _ rfl
 refine Ac (Ax (Qx (oG rfl underlying30 Bz (Seg.any hS)) rfl (Qx (AG rfl call35 rfl (Ds (FT Z vd va _ hRt.ok hR) _)) rfl (Qm rfl (Aq ?_)))))
 refine BJ rfl (fun hb => ?_) (fun hb => ?_)
 ·exact absurd hRt (by simpa using hb)
 ·refine Ai (Ab ?_)
  refine Bv (fun sl hh ms' => ∃ (g3 : Nat) (vdc : Value) (mc : Hp), sl = [(1, .pointer (some ⟨g1, 0, none⟩)), (2, .pointer (some ⟨g2, 0, none⟩)), (3, .pointer (some ⟨g3, 0, none⟩))] ∧ h1 = hh ∧ ms' = [AX g3 30 [.int .i64 Z.p, vdc, .slice none 0 0], mc, AX g2 30 [.int .i64 0, .slice none 0 0, .slice none 0 0]] ∧ OwnL cI 1 3 mc vdc Z.dims) ?_ (fun s h ms hI => ?_)
  ·refine AW (n := 8) (bs := [true, true, true, true, false, false, false, false]) [true, true, true, true] Cd (by kernel_rfl) (by kernel_rfl) rfl rfl (QF CG rfl (QL rfl underlying3 (hA0 _) (QF Bn rfl (QL rfl underlying24 (hA _ _ rfl _) ?_))))
   unfold CD
   simp only [List.cons_append, List.nil_append]
   refine A2 [4, 6] (by kernel_rfl) rfl ?_
   refine Az rfl ?_ ?_
   ·refine Qc call51 rfl (DS Z.dims vd _ hR.d (by omega)) (fun vdc h2 ms2 l2 hF => ?_)
    obtain ⟨rfl, mc, rfl, hOc⟩ := hF
    have oc : vdc.oneCell' = true := (hOc.rd (h := h1) (ms := [mc]) (List.Mem.head _)).rd.one
    refine Qw ?_
    refine An 5 15 (by kernel_rfl) rfl (Hp.le_refl _) rfl (AT Sr [.int .i64 0, .slice none 0 0, .slice none 0 0] [(0, _), (1, _)] [_, _, _] rfl Bz rfl rfl (by repeat (first | exact trivial | refine ⟨⟨rfl, rfl, rfl⟩, ?_⟩ | refine ⟨⟨((hOc.rd (h := h1) (ms := [mc]) (List.Mem.head _)).rd).cells, rfl, rfl⟩, ?_⟩)) rfl) ?_
    refine Qo 6 rfl (BZ [.int .i64 0, .slice none 0 0, .slice none 0 0] rfl Bz rfl rfl (fun g3 => Qw (Qo 7 rfl ?_)))
    refine Sa 0 [_, _, _] Bz rfl (by simp [o1, o2, oc]) ?_
    refine Qw (Qe ?_)
    exact AA _ ⟨_, vdc, mc, rfl, rfl, rfl, hOc⟩ Qs
   refine Az rfl ?_ ?_
   ·refine BZ [.int .i64 0, .slice none 0 0, .slice none 0 0] rfl Bz rfl rfl (fun g3 => Qw (Qo 4 rfl (Qc call51 rfl (DS Z.dims vd _ hR.d (by omega)) (fun vdc h2 ms2 l2 hF => ?_))))
    obtain ⟨rfl, mc, rfl, hOc⟩ := hF
    have oc : vdc.oneCell' = true := (hOc.rd (h := h1) (ms := [mc]) (List.Mem.head _)).rd.one
    refine Qw ?_
    refine An 5 15 (by kernel_rfl) rfl (Hp.le_refl _) rfl (AT Sr [.int .i64 0, .slice none 0 0, .slice none 0 0] [(0, _), (1, _)] [_, _, _] rfl Bz rfl rfl (by repeat (first | exact trivial | refine ⟨⟨rfl, rfl, rfl⟩, ?_⟩ | refine ⟨⟨((hOc.rd (h := h1) (ms := [mc]) (List.Mem.head _)).rd).cells, rfl, rfl⟩, ?_⟩)) rfl) ?_
    refine Qo 7 rfl ?_
    refine Sa 1 [_, _, _] Bz rfl (by simp [o1, o2, oc]) ?_
    refine Qw (Qe ?_)
    exact A9 (AA _ ⟨_, vdc, mc, rfl, rfl, rfl, hOc⟩ Qs)
   exact A3
  ·obtain ⟨g3, vdc, mc, rfl, rfl, rfl, hOc⟩ := hI
   rw [← I2 Z.dims] at hOc
   refine Ax (Qf Bn rfl (Ql rfl underlying24 (Cell.blk 0 (k := 1) rfl rfl) (Fe (Bs (pre := [mc]) rfl call52 rfl (IY Z.dims.length (fun i => Z.dims.getD i 0) vdc mc h1 (by omega) hOc) rfl rfl rfl rfl (fun x2 h2 ms2 l2 hF => ?_)))))
   obtain ⟨rfl, md, rfl, hOd⟩ := hF
   rw [Td Z.dims] at hOd
   have od : vdc.oneCell' = true := (hOd.rd (h := h1) (ms := [md]) (List.Mem.head _)).rd.one
   refine Aq (Ac (Ax (Qf BQ rfl (Ql rfl underlying28 (hA _ _ rfl _) (Qc call53 rfl (LO va Z.ars.length _ h1 hR.a.rd) (fun vf h10 ms10 l10 hF => ?_))))))
   obtain ⟨rfl, gb, rfl, rfl⟩ := hF
   refine Aq (Ag (AL fun h2 l2 hGb => ?_))
   have hR := hR.up l2
   have hit := Pv gb Z.ars.length va Z.ars h2 hGb hR.a rfl (by omega)
   refine Ea (ms' := [AX g3 30 [.int .i64 Z.p, vdc, .slice none 0 0], md, AX g2 30 [.int .i64 0, .slice none 0 0, .slice none 0 0]]) (List.Perm.swap _ _ _) (BX (BX ?_))
   refine Fk (fun kk hh ms => JT Z g2 g3 vdc md kk ms) (fun kk s1 hh ms => ∃ (hk : Z.ars.length - 1 - kk < Z.ars.length) (g5 : Nat) (ms0 : List Hp), s1 = [(1, .pointer (some ⟨g1, 0, none⟩)), (2, .pointer (some ⟨g2, 0, none⟩)), (3, .pointer (some ⟨g3, 0, none⟩)), (5, .pointer (some ⟨g5, 0, none⟩))] ∧ ms = AX g5 45 (cA (Z.ars[Z.ars.length - 1 - kk])) :: ms0 ∧ JT Z g2 g3 vdc md kk ms0) rfl call85 hit (fun k => rfl) rfl ?_ ?_ ?_ ?_
   ·exact ⟨_, _, _, [], rfl, OwnL.nil Fm, rfl, BagE.nil⟩
   ·rintro w1 kk hh ms1 hkk lh hJ
    have hk : Z.ars.length - 1 - kk < Z.ars.length := by omega
    have oe := (hR.e _ (List.getElem_mem hk)).rd.one
    have eA : Vq Z.ars.length Z.ars kk = [.int .i64 ((Z.ars.length : Int) - 1 - kk), .agg #[.bool (Z.ars[Z.ars.length - 1 - kk]).b, .int .i64 (Z.ars[Z.ars.length - 1 - kk]).M.p, .int .i64 (Z.ars[Z.ars.length - 1 - kk]).M.rows, .int .i64 (Z.ars[Z.ars.length - 1 - kk]).M.cols, (Z.ars[Z.ars.length - 1 - kk]).v]] := by unfold Vq; rw [Nx hk]; rfl
    rw [eA]
    refine BV (by kernel_rfl) (BZ [.bool false, .int .i64 0, .int .i64 0, .int .i64 0, .slice none 0 0] rfl Cr rfl rfl (fun g5 => ?_))
    refine Sa 0 [_, _, _, _, _] Cr rfl (by simp [oe]) ?_
    refine Ak ?_
    exact AA _ ⟨hk, g5, ms1, rfl, rfl, hJ⟩ Qs
   ·rintro w1 kk s1 hh ms1 hkk lh ⟨hk, g5, ms0, rfl, rfl, vao, ma, mB, A, rfl, hOa, hAc, hB⟩
    have hR2 := hR.up lh
    have oe := (hR.e _ (List.getElem_mem hk)).rd.one
    have oa : vao.oneCell' = true := (hOa.rd (h := h) (ms := [ma]) (List.Mem.head _)).rd.one
    have hAl : A.length ≤ 100 := by
     have h1 := congrArg List.length hAc
     have h2 : Z.rev.ars.length = Z.ars.length := by show (Z.ars.reverse.map _).length = _; simp
     rw [List.length_map, List.length_map, List.length_take] at h1; omega
    refine EV (DW (BV (by kernel_rfl) (Qf Ca rfl (Qf Bc rfl ?_))))
    refine Ql rfl underlying24 (by (rw [A6]; exact Cell.blk 0 rfl rfl)) ?_
    refine Qc call51 rfl (DS _ _ hh (hR2.e _ (List.getElem_mem hk)) (T8 hRt hk)) (fun vc h3 ms3 l3 hF => ?_)
    obtain ⟨rfl, mc, rfl, hOc⟩ := hF
    have oc : vc.oneCell' = true := (hOc.rd (h := h) (ms := [mc]) (List.Mem.head _)).rd.one
    refine Qf Ca rfl (Qf Bc rfl ?_)
    refine AK 1 4 rfl BN rfl rfl oc rfl (A6 _ _ _) ((by decide : 4 < 5)) rfl rfl ?_
    refine Ak (CK (BV (by kernel_rfl) (Qf BQ rfl (Ql rfl underlying28 (Cell.blk 4 (k := 2) rfl rfl) (Qf EK rfl (Ql rfl underlying4 (Cell.blk 1 (k := 0) rfl rfl) (Qm rfl (Qf Ca rfl (Qx (oG rfl underlying42 AI (P8 (i := 1) rfl)) rfl ?_)))))))))
    refine Qx (AT Pa [.bool false, .int .i64 0, .int .i64 0, .int .i64 0, .slice none 0 0] [(0, _), (1, _)] [_, _, _, _, _] rfl Cr rfl rfl (by repeat (first | exact trivial | refine ⟨⟨rfl, rfl, rfl⟩, ?_⟩)) rfl) rfl ?_
    refine AB [_, _, _, _, _] rfl underlying28 Cr rfl (by rfl) rfl rfl (by omega) rfl rfl rfl (fun g38 => ?_)
    refine Ba 3 hOa (RdL.one Fm (x := ⟨!(Z.ars[Z.ars.length - 1 - kk]).b, (Z.ars[Z.ars.length - 1 - kk]).M, vc⟩) (List.Mem.head _) rfl) rfl underlying28 Cr rfl (by omega) rfl rfl rfl (Kc oc) (by simp only [List.length_singleton]; omega) (by simp only [List.length_singleton]; omega) rfl rfl rfl (fun va2 ma2 hOa2 => ?_)
    have ova2 : va2.oneCell' = true := (hOa2.rd (h := h) (ms := [ma2]) (List.Mem.head _)).rd.one
    refine Qf BQ rfl ?_
    refine AK 5 _ rfl Tm rfl rfl (by assumption) rfl rfl (by (simp; done)) rfl rfl ?_
    refine Ak (Aj (A5 (AP 1 rfl (CF (ms' := [mB, mc, ma2, AX g3 30 [.int .i64 Z.p, vdc, va2], md, AX g2 30 [.int .i64 0, .slice none 0 0, .slice none 0 0]]) (K5 _ _ _ |>.trans (List.Perm.refl _) |> fun p => (p.append_right [AX g3 30 [.int .i64 Z.p, vdc, va2], md, AX g2 30 [.int .i64 0, .slice none 0 0, .slice none 0 0]])) (Ck fun hap => ?_)))))
    have hd12 : mB.disj mc := (List.pairwise_cons.1 hap).1 _ List.mem_cons_self
    refine Cq (A9 ?_)
    refine AA [] ⟨va2, ma2, mB.join mc, A ++ [⟨!(Z.ars[Z.ars.length - 1 - kk]).b, (Z.ars[Z.ars.length - 1 - kk]).M, vc⟩], rfl, hOa2, ?_, hB.snoc hOc hd12⟩ trivial
    rw [Oo hkk, List.map_append, List.map_append, hAc]
    rfl
   ·intro D hh ms1 lh hJ
    obtain ⟨vao, ma, mB, A, rfl, hOa, hAc, hB⟩ := hJ
    have ova : vao.oneCell' = true := (hOa.rd (h := h) (ms := [ma]) (List.Mem.head _)).rd.one
    have hrl : Z.rev.ars.take Z.ars.length = Z.rev.ars := List.take_of_length_le (by show (Z.ars.reverse.map _).length ≤ _; simp)
    rw [hrl] at hAc
    refine Aj (Ab (Ax (Qx (oG rfl underlying30 Bz (Seg.blk 2 rfl)) rfl ?_)))
    refine Sa 4 [_, _, _] Bz rfl (by simp [od, ova]) ?_
    refine Aq (Ao (AP 2 rfl (CF (ms' := [ma, md, mB, AX g2 30 [.int .i64 Z.p, vdc, vao], Mk D]) (List.Perm.cons _ (List.Perm.swap _ _ _)) (In 4 (.inr rfl) rfl ?_))))
    exact Cl (vs := [_, _, _]) 3 rfl rfl underlying30 rfl Bz rfl rfl (⟨Hp.le_trans l1 (Hp.le_trans l2 lh), vdc, vao, md, ma, mB, A, rfl, rfl, hOd, hOa, hAc, hB⟩)
end Go.Proofs.YtdnelknieikbaaaGreat
namespace Go.Proofs.YtdnelknieikbaaaGreat
open Go.Proofs.Tryz
open Go.Eng Go.RowKit Go.Lin Go.Sort Go.Srt
section
variable {Z Z' : Zz}
theorem Ga {vd va vd' va' : Value} {h : Hp} (hR : RdZ h vd va Z) (hR' : RdZ h vd' va' Z') (hs : Z.Same Z') (ms : List Hp) : Dq Tryz.prog 27 #[.agg #[.int .i64 Z.p, vd, va], .agg #[.int .i64 Z'.p, vd', va']] h ms (.bool true) := by
 have := Oz Z Z' vd va vd' va' h hR hR' ms
 rwa [Jf hs] at this
theorem I8 {p : Int} {ds : List Int} {A : List Ar} {vdo vao : Value} {md ma mB h : Hp} (hOd : OwnL cI 1 3 md vdo ds) (kd : md.le h) (hOa : OwnL cA 5 45 ma vao A) (ka : ma.le h) (B : BagE A mB) (kB : mB.le h) : RdZ h vdo vao ⟨p, ds, A⟩ := by
 refine ⟨hOd.rdh kd, hOa.rdh ka, fun a ha => ?_⟩
 obtain ⟨k, hk, rfl⟩ := List.mem_iff_getElem.1 ha
 obtain ⟨y, hy, O⟩ := B.all k hk
 have e : A.getD k default = A[k] := by simp [List.getD, hk]
 rw [e] at O
 exact O.rdh (Hp.le_trans hy kB)
end
end Go.Proofs.YtdnelknieikbaaaGreat
namespace Go.Proofs.YtdnelknieikbaaaGreat
open Go.Proofs.Tryz
open Go.Eng Go.RowKit Go.Lin Go.Sort Go.Srt
variable {h : Hp}
def RdK (h mI : Hp) (s : StE) : Prop := ∃ es, RdL cV 1 h [] s.v es ∧ ∀ k (hk : k < es.length), ∃ y c, y.le mI ∧ OwnL cI 1 3 y es[k] c
theorem RdK.up {h' mI : Hp} {s : StE} (R : RdK h mI s) (l : h.le h') : RdK h' mI s := by
 obtain ⟨es, h1, h2⟩ := R
 exact ⟨es, h1.up l, h2⟩
theorem strands_parts {Z : Zz} {N : Nat} {S : Nat → SM} {e : Nat → StE} {L : List Nat} {mB : Hp} (B : Bag N (fun l x => StV Z.zg.d (S l).g (e l) (S l).fr (S l).to (S l).v x) mB) (hp : L.Perm (List.range N)) (hb : (mB.but 3).le h) : ∀ s ∈ L.map e, RdK h (mB.only 3) s := fun s hs => by
 obtain ⟨k, hk, rfl⟩ := List.mem_map.1 hs
 obtain ⟨x, hx, e1, e2, es, ma, mb, h0, rfl, h1, h2, h3, h4, h5⟩ := B.all k (List.mem_range.1 (hp.mem_iff.1 hk))
 have l1 : ma.le mB := Hp.le_trans (Hp.le_trans Hp.le_joinl (Hp.le_joinr h1)) hx
 have l2 : mb.le mB := Hp.le_trans (Hp.le_trans (Hp.le_joinr h2) (Hp.le_joinr h1)) hx
 refine ⟨es, h3.rdh (Hp.le_trans (h3.le_but (by decide) l1) hb), fun j hj => ?_⟩
 obtain ⟨y, hy, O⟩ := Bag.all h5 j hj
 rw [Ev hj] at O
 exact ⟨y, _, O.le_only (Hp.le_trans hy l2), O⟩
theorem zcheck_k {Z : Zz} {vd va vl : Value} {l : List SV} (hR : RdZ h vd va Z) (hL : RdSs h vl l) (hN : l.length ≤ 1000000) (hC : Vo Z l) (ms : List Hp) : Dq Tryz.prog 32 #[.agg #[.int .i64 Z.p, vd, va], vl] h ms (.bool true) := by
 have := Ds (zcheck_ok Z vd va l vl h hC.1.ok hR hL hN) ms
 rwa [Jf hC] at this
theorem lkeeps_ok (x : Pl) (vd vs : Value) (h : Hp) (hx : x.Ok) (hR : RdP h vd vs x) : FnT Tryz.prog 12 #[.agg #[.int .u8 x.p, vd, .int .u16 x.back, vs, .bool x.thin]] h [] (fun r _ _ => r = .bool true) := by
 have o1 := hR.d.rd.one
 have o2 := hR.s.rd.one
 refine Av func12 ntmps12 rfl rfl (fun w0 hw0 => ?_)
 simp only [A4]
 refine Ax ?_
 refine AS [_, _, _, _, _] rfl rfl (by rfl) rfl rfl rfl (fun g1 => ?_)
 refine Qm rfl (B3 (Qx (AG rfl call14 rfl (GW _ _)) rfl (Qm rfl (Aq (AL fun h1 l1 hS1 => ?_)))))
 have hR := hR.up l1
 refine Bv (fun sl hh ms' => ∃ (g4 g5 : Nat) (Z W : Zz) (vz vza vw vwa : Value), sl = [(3, .bool true), (4, .pointer (some ⟨g4, 0, none⟩)), (5, .pointer (some ⟨g5, 0, none⟩))] ∧ h1.le hh ∧ ms' = [AX g5 30 [.int .i64 x.P, vw, vwa], AX g4 30 [.int .i64 x.P, vz, vza]] ∧ RdZ hh vz vza Z ∧ RdZ hh vw vwa W ∧ Z.p = x.P ∧ Z.dims = x.dims ∧ Z.ars.map Ar.core = x.core ∧ W.p = x.P ∧ W.dims = x.dims ∧ W.ars.map Ar.core = x.core) ?_ (fun s h ms hI => ?_)
 ·refine AW (n := 8) (bs := [true, false, true, false, false, false, false, false]) [true, false, true] Cd (by kernel_rfl) (by kernel_rfl) rfl rfl (Qp rfl (oG rfl underlying26 ST (Seg.any hS1)) (Qp rfl (oG rfl underlying26 ST (Seg.any hS1)) ?_))
  unfold CD
  simp only [List.cons_append, List.nil_append]
  refine A2 [1, 4, 5] (by kernel_rfl) rfl ?_
  refine Az rfl ?_ ?_
  ·refine Qc call15 rfl (Kf x vd vs _ hx hR) (fun rz h3 ms3 l3 hF => ?_)
   obtain ⟨l3', vdo, vao, md, ma, mB, A, rfl, rfl, hOd, hOa, hAc, hB⟩ := hF
   refine A7 fun h4 l4 k4 => (A7 fun h5 l5 k5 => (A7 fun h6 l6 k6 => ?_))
   have hRZ : RdZ h6 vdo vao ⟨x.P, x.dims, A⟩ := I8 hOd (Hp.le_trans k5 l6) hOa (Hp.le_trans k4 (Hp.le_trans l5 l6)) hB k6
   have l26 := Hp.le_trans l3 (Hp.le_trans l4 (Hp.le_trans l5 l6))
   have hR := hR.up l26
   have o3 := hRZ.d.rd.one
   have o4 := hRZ.a.rd.one
   refine Qa (A2 [3, 4, 5] (by kernel_rfl) rfl ?_)
   refine Az rfl ?_ ?_
   ·refine Qc call15 rfl (Kf x vd vs _ hx hR) (fun rw_ h7 ms7 l7 hF => ?_)
    obtain ⟨l7', vdw, vaw, mdw, maw, mBw, arw, rfl, rfl, hOdw, hOaw, hAw, hBw⟩ := hF
    refine A7 fun h8 l8 k8 => (A7 fun h9 l9 k9 => (A7 fun h10 l10 k10 => ?_))
    have hRW : RdZ h10 vdw vaw ⟨x.P, x.dims, arw⟩ := I8 hOdw (Hp.le_trans k9 l10) hOaw (Hp.le_trans k8 (Hp.le_trans l9 l10)) hBw k10
    have l610 := Hp.le_trans l7 (Hp.le_trans l8 (Hp.le_trans l9 l10))
    have hcur := Hp.le_trans l26 l610
    have hRZ := hRZ.up l610
    have o5 := hRW.d.rd.one
    have o6 := hRW.a.rd.one
    refine Qa (A2 [4, 5] (by kernel_rfl) rfl ?_)
    refine Az rfl ?_ ?_
    ·refine BZ [.int .i64 0, .slice none 0 0, .slice none 0 0] rfl Bz rfl rfl (fun g4 => Qa (Qo 5 rfl (BZ [.int .i64 0, .slice none 0 0, .slice none 0 0] rfl Bz rfl rfl (fun g5 => Qa (Qo 6 rfl ?_)))))
     refine Sa 1 [_, _, _] Bz rfl (by simp [o3, o4, o5, o6]) ?_
     refine Qa (Qo 7 rfl ?_)
     refine Sa 0 [_, _, _] Bz rfl (by simp [o3, o4, o5, o6]) ?_
     refine Qa (Qe ?_)
     exact AA _ ⟨_, _, ⟨x.P, x.dims, A⟩, ⟨x.P, x.dims, arw⟩, _, _, _, _, rfl, Hp.le_trans l26 l610, rfl, hRZ, hRW, rfl, rfl, hAc, rfl, rfl, hAw⟩ Qs
    refine Az rfl ?_ ?_
    ·refine BZ [.int .i64 0, .slice none 0 0, .slice none 0 0] rfl Bz rfl rfl (fun g5 => Qa (Qo 4 rfl (BZ [.int .i64 0, .slice none 0 0, .slice none 0 0] rfl Bz rfl rfl (fun g4 => Qa (Qo 6 rfl ?_)))))
     refine Sa 0 [_, _, _] Bz rfl (by simp [o3, o4, o5, o6]) ?_
     refine Qa (Qo 7 rfl ?_)
     refine Sa 1 [_, _, _] Bz rfl (by simp [o3, o4, o5, o6]) ?_
     refine Qa (Qe ?_)
     refine A9 ?_; exact AA _ ⟨_, _, ⟨x.P, x.dims, A⟩, ⟨x.P, x.dims, arw⟩, _, _, _, _, rfl, Hp.le_trans l26 l610, rfl, hRZ, hRW, rfl, rfl, hAc, rfl, rfl, hAw⟩ Qs
    exact A3
   refine Az rfl ?_ ?_
   ·refine BZ [.int .i64 0, .slice none 0 0, .slice none 0 0] rfl Bz rfl rfl (fun g4 => Qa (A2 [3, 5] (by kernel_rfl) rfl ?_))
    refine Az rfl ?_ ?_
    ·refine Qc call15 rfl (Kf x vd vs _ hx hR) (fun rw_ h7 ms7 l7 hF => ?_)
     obtain ⟨l7', vdw, vaw, mdw, maw, mBw, arw, rfl, rfl, hOdw, hOaw, hAw, hBw⟩ := hF
     refine A7 fun h8 l8 k8 => (A7 fun h9 l9 k9 => (A7 fun h10 l10 k10 => ?_))
     have hRW : RdZ h10 vdw vaw ⟨x.P, x.dims, arw⟩ := I8 hOdw (Hp.le_trans k9 l10) hOaw (Hp.le_trans k8 (Hp.le_trans l9 l10)) hBw k10
     have l610 := Hp.le_trans l7 (Hp.le_trans l8 (Hp.le_trans l9 l10))
     have hcur := Hp.le_trans l26 l610
     have hRZ := hRZ.up l610
     have o5 := hRW.d.rd.one
     have o6 := hRW.a.rd.one
     refine Qa (Qo 5 rfl (BZ [.int .i64 0, .slice none 0 0, .slice none 0 0] rfl Bz rfl rfl (fun g5 => Qa (Qo 6 rfl ?_))))
     refine Sa 1 [_, _, _] Bz rfl (by simp [o3, o4, o5, o6]) ?_
     refine Qa (Qo 7 rfl ?_)
     refine Sa 0 [_, _, _] Bz rfl (by simp [o3, o4, o5, o6]) ?_
     refine Qa (Qe ?_)
     exact AA _ ⟨_, _, ⟨x.P, x.dims, A⟩, ⟨x.P, x.dims, arw⟩, _, _, _, _, rfl, Hp.le_trans l26 l610, rfl, hRZ, hRW, rfl, rfl, hAc, rfl, rfl, hAw⟩ Qs
    refine Az rfl ?_ ?_
    ·refine BZ [.int .i64 0, .slice none 0 0, .slice none 0 0] rfl Bz rfl rfl (fun g5 => Qa (Qo 3 rfl (Qc call15 rfl (Kf x vd vs _ hx hR) (fun rw_ h7 ms7 l7 hF => ?_))))
     obtain ⟨l7', vdw, vaw, mdw, maw, mBw, arw, rfl, rfl, hOdw, hOaw, hAw, hBw⟩ := hF
     refine A7 fun h8 l8 k8 => (A7 fun h9 l9 k9 => (A7 fun h10 l10 k10 => ?_))
     have hRW : RdZ h10 vdw vaw ⟨x.P, x.dims, arw⟩ := I8 hOdw (Hp.le_trans k9 l10) hOaw (Hp.le_trans k8 (Hp.le_trans l9 l10)) hBw k10
     have l610 := Hp.le_trans l7 (Hp.le_trans l8 (Hp.le_trans l9 l10))
     have hcur := Hp.le_trans l26 l610
     have hRZ := hRZ.up l610
     have o5 := hRW.d.rd.one
     have o6 := hRW.a.rd.one
     refine Qa (Qo 6 rfl ?_)
     refine Sa 1 [_, _, _] Bz rfl (by simp [o3, o4, o5, o6]) ?_
     refine Qa (Qo 7 rfl ?_)
     refine Sa 0 [_, _, _] Bz rfl (by simp [o3, o4, o5, o6]) ?_
     refine Qa (Qe ?_)
     exact AA _ ⟨_, _, ⟨x.P, x.dims, A⟩, ⟨x.P, x.dims, arw⟩, _, _, _, _, rfl, Hp.le_trans l26 l610, rfl, hRZ, hRW, rfl, rfl, hAc, rfl, rfl, hAw⟩ Qs
    exact A3
   refine Az rfl ?_ ?_
   ·refine BZ [.int .i64 0, .slice none 0 0, .slice none 0 0] rfl Bz rfl rfl (fun g5 => Qa (A2 [3, 4] (by kernel_rfl) rfl ?_))
    refine Az rfl ?_ ?_
    ·refine Qc call15 rfl (Kf x vd vs _ hx hR) (fun rw_ h7 ms7 l7 hF => ?_)
     obtain ⟨l7', vdw, vaw, mdw, maw, mBw, arw, rfl, rfl, hOdw, hOaw, hAw, hBw⟩ := hF
     refine A7 fun h8 l8 k8 => (A7 fun h9 l9 k9 => (A7 fun h10 l10 k10 => ?_))
     have hRW : RdZ h10 vdw vaw ⟨x.P, x.dims, arw⟩ := I8 hOdw (Hp.le_trans k9 l10) hOaw (Hp.le_trans k8 (Hp.le_trans l9 l10)) hBw k10
     have l610 := Hp.le_trans l7 (Hp.le_trans l8 (Hp.le_trans l9 l10))
     have hcur := Hp.le_trans l26 l610
     have hRZ := hRZ.up l610
     have o5 := hRW.d.rd.one
     have o6 := hRW.a.rd.one
     refine Qa (Qo 4 rfl (BZ [.int .i64 0, .slice none 0 0, .slice none 0 0] rfl Bz rfl rfl (fun g4 => Qa (Qo 6 rfl ?_))))
     refine Sa 0 [_, _, _] Bz rfl (by simp [o3, o4, o5, o6]) ?_
     refine Qa (Qo 7 rfl ?_)
     refine Sa 1 [_, _, _] Bz rfl (by simp [o3, o4, o5, o6]) ?_
     refine Qa (Qe ?_)
     refine A9 ?_; exact AA _ ⟨_, _, ⟨x.P, x.dims, A⟩, ⟨x.P, x.dims, arw⟩, _, _, _, _, rfl, Hp.le_trans l26 l610, rfl, hRZ, hRW, rfl, rfl, hAc, rfl, rfl, hAw⟩ Qs
    refine Az rfl ?_ ?_
    ·refine BZ [.int .i64 0, .slice none 0 0, .slice none 0 0] rfl Bz rfl rfl (fun g4 => Qa (Qo 3 rfl (Qc call15 rfl (Kf x vd vs _ hx hR) (fun rw_ h7 ms7 l7 hF => ?_))))
     obtain ⟨l7', vdw, vaw, mdw, maw, mBw, arw, rfl, rfl, hOdw, hOaw, hAw, hBw⟩ := hF
     refine A7 fun h8 l8 k8 => (A7 fun h9 l9 k9 => (A7 fun h10 l10 k10 => ?_))
     have hRW : RdZ h10 vdw vaw ⟨x.P, x.dims, arw⟩ := I8 hOdw (Hp.le_trans k9 l10) hOaw (Hp.le_trans k8 (Hp.le_trans l9 l10)) hBw k10
     have l610 := Hp.le_trans l7 (Hp.le_trans l8 (Hp.le_trans l9 l10))
     have hcur := Hp.le_trans l26 l610
     have hRZ := hRZ.up l610
     have o5 := hRW.d.rd.one
     have o6 := hRW.a.rd.one
     refine Qa (Qo 6 rfl ?_)
     refine Sa 0 [_, _, _] Bz rfl (by simp [o3, o4, o5, o6]) ?_
     refine Qa (Qo 7 rfl ?_)
     refine Sa 1 [_, _, _] Bz rfl (by simp [o3, o4, o5, o6]) ?_
     refine Qa (Qe ?_)
     refine A9 ?_; exact AA _ ⟨_, _, ⟨x.P, x.dims, A⟩, ⟨x.P, x.dims, arw⟩, _, _, _, _, rfl, Hp.le_trans l26 l610, rfl, hRZ, hRW, rfl, rfl, hAc, rfl, rfl, hAw⟩ Qs
    exact A3
   exact A3
  refine Az rfl ?_ ?_
  ·refine BZ [.int .i64 0, .slice none 0 0, .slice none 0 0] rfl Bz rfl rfl (fun g4 => Qw (A2 [1, 5] (by kernel_rfl) rfl ?_))
   refine Az rfl ?_ ?_
   ·refine Qc call15 rfl (Kf x vd vs _ hx hR) (fun rz h3 ms3 l3 hF => ?_)
    obtain ⟨l3', vdo, vao, md, ma, mB, A, rfl, rfl, hOd, hOa, hAc, hB⟩ := hF
    refine A7 fun h4 l4 k4 => (A7 fun h5 l5 k5 => (A7 fun h6 l6 k6 => ?_))
    have hRZ : RdZ h6 vdo vao ⟨x.P, x.dims, A⟩ := I8 hOd (Hp.le_trans k5 l6) hOa (Hp.le_trans k4 (Hp.le_trans l5 l6)) hB k6
    have l26 := Hp.le_trans l3 (Hp.le_trans l4 (Hp.le_trans l5 l6))
    have hR := hR.up l26
    have o3 := hRZ.d.rd.one
    have o4 := hRZ.a.rd.one
    refine Qa (A2 [3, 5] (by kernel_rfl) rfl ?_)
    refine Az rfl ?_ ?_
    ·refine Qc call15 rfl (Kf x vd vs _ hx hR) (fun rw_ h7 ms7 l7 hF => ?_)
     obtain ⟨l7', vdw, vaw, mdw, maw, mBw, arw, rfl, rfl, hOdw, hOaw, hAw, hBw⟩ := hF
     refine A7 fun h8 l8 k8 => (A7 fun h9 l9 k9 => (A7 fun h10 l10 k10 => ?_))
     have hRW : RdZ h10 vdw vaw ⟨x.P, x.dims, arw⟩ := I8 hOdw (Hp.le_trans k9 l10) hOaw (Hp.le_trans k8 (Hp.le_trans l9 l10)) hBw k10
     have l610 := Hp.le_trans l7 (Hp.le_trans l8 (Hp.le_trans l9 l10))
     have hcur := Hp.le_trans l26 l610
     have hRZ := hRZ.up l610
     have o5 := hRW.d.rd.one
     have o6 := hRW.a.rd.one
     refine Qa (Qo 5 rfl (BZ [.int .i64 0, .slice none 0 0, .slice none 0 0] rfl Bz rfl rfl (fun g5 => Qa (Qo 6 rfl ?_))))
     refine Sa 1 [_, _, _] Bz rfl (by simp [o3, o4, o5, o6]) ?_
     refine Qa (Qo 7 rfl ?_)
     refine Sa 0 [_, _, _] Bz rfl (by simp [o3, o4, o5, o6]) ?_
     refine Qa (Qe ?_)
     exact AA _ ⟨_, _, ⟨x.P, x.dims, A⟩, ⟨x.P, x.dims, arw⟩, _, _, _, _, rfl, Hp.le_trans l26 l610, rfl, hRZ, hRW, rfl, rfl, hAc, rfl, rfl, hAw⟩ Qs
    refine Az rfl ?_ ?_
    ·refine BZ [.int .i64 0, .slice none 0 0, .slice none 0 0] rfl Bz rfl rfl (fun g5 => Qa (Qo 3 rfl (Qc call15 rfl (Kf x vd vs _ hx hR) (fun rw_ h7 ms7 l7 hF => ?_))))
     obtain ⟨l7', vdw, vaw, mdw, maw, mBw, arw, rfl, rfl, hOdw, hOaw, hAw, hBw⟩ := hF
     refine A7 fun h8 l8 k8 => (A7 fun h9 l9 k9 => (A7 fun h10 l10 k10 => ?_))
     have hRW : RdZ h10 vdw vaw ⟨x.P, x.dims, arw⟩ := I8 hOdw (Hp.le_trans k9 l10) hOaw (Hp.le_trans k8 (Hp.le_trans l9 l10)) hBw k10
     have l610 := Hp.le_trans l7 (Hp.le_trans l8 (Hp.le_trans l9 l10))
     have hcur := Hp.le_trans l26 l610
     have hRZ := hRZ.up l610
     have o5 := hRW.d.rd.one
     have o6 := hRW.a.rd.one
     refine Qa (Qo 6 rfl ?_)
     refine Sa 1 [_, _, _] Bz rfl (by simp [o3, o4, o5, o6]) ?_
     refine Qa (Qo 7 rfl ?_)
     refine Sa 0 [_, _, _] Bz rfl (by simp [o3, o4, o5, o6]) ?_
     refine Qa (Qe ?_)
     exact AA _ ⟨_, _, ⟨x.P, x.dims, A⟩, ⟨x.P, x.dims, arw⟩, _, _, _, _, rfl, Hp.le_trans l26 l610, rfl, hRZ, hRW, rfl, rfl, hAc, rfl, rfl, hAw⟩ Qs
    exact A3
   refine Az rfl ?_ ?_
   ·refine BZ [.int .i64 0, .slice none 0 0, .slice none 0 0] rfl Bz rfl rfl (fun g5 => Qw (Qo 1 rfl (Qc call15 rfl (Kf x vd vs _ hx hR) (fun rz h3 ms3 l3 hF => ?_))))
    obtain ⟨l3', vdo, vao, md, ma, mB, A, rfl, rfl, hOd, hOa, hAc, hB⟩ := hF
    refine A7 fun h4 l4 k4 => (A7 fun h5 l5 k5 => (A7 fun h6 l6 k6 => ?_))
    have hRZ : RdZ h6 vdo vao ⟨x.P, x.dims, A⟩ := I8 hOd (Hp.le_trans k5 l6) hOa (Hp.le_trans k4 (Hp.le_trans l5 l6)) hB k6
    have l26 := Hp.le_trans l3 (Hp.le_trans l4 (Hp.le_trans l5 l6))
    have hR := hR.up l26
    have o3 := hRZ.d.rd.one
    have o4 := hRZ.a.rd.one
    refine Qa (Qo 3 rfl (Qc call15 rfl (Kf x vd vs _ hx hR) (fun rw_ h7 ms7 l7 hF => ?_)))
    obtain ⟨l7', vdw, vaw, mdw, maw, mBw, arw, rfl, rfl, hOdw, hOaw, hAw, hBw⟩ := hF
    refine A7 fun h8 l8 k8 => (A7 fun h9 l9 k9 => (A7 fun h10 l10 k10 => ?_))
    have hRW : RdZ h10 vdw vaw ⟨x.P, x.dims, arw⟩ := I8 hOdw (Hp.le_trans k9 l10) hOaw (Hp.le_trans k8 (Hp.le_trans l9 l10)) hBw k10
    have l610 := Hp.le_trans l7 (Hp.le_trans l8 (Hp.le_trans l9 l10))
    have hcur := Hp.le_trans l26 l610
    have hRZ := hRZ.up l610
    have o5 := hRW.d.rd.one
    have o6 := hRW.a.rd.one
    refine Qa (Qo 6 rfl ?_)
    refine Sa 1 [_, _, _] Bz rfl (by simp [o3, o4, o5, o6]) ?_
    refine Qa (Qo 7 rfl ?_)
    refine Sa 0 [_, _, _] Bz rfl (by simp [o3, o4, o5, o6]) ?_
    refine Qa (Qe ?_)
    exact AA _ ⟨_, _, ⟨x.P, x.dims, A⟩, ⟨x.P, x.dims, arw⟩, _, _, _, _, rfl, Hp.le_trans l26 l610, rfl, hRZ, hRW, rfl, rfl, hAc, rfl, rfl, hAw⟩ Qs
   exact A3
  refine Az rfl ?_ ?_
  ·refine BZ [.int .i64 0, .slice none 0 0, .slice none 0 0] rfl Bz rfl rfl (fun g5 => Qw (A2 [1, 4] (by kernel_rfl) rfl ?_))
   refine Az rfl ?_ ?_
   ·refine Qc call15 rfl (Kf x vd vs _ hx hR) (fun rz h3 ms3 l3 hF => ?_)
    obtain ⟨l3', vdo, vao, md, ma, mB, A, rfl, rfl, hOd, hOa, hAc, hB⟩ := hF
    refine A7 fun h4 l4 k4 => (A7 fun h5 l5 k5 => (A7 fun h6 l6 k6 => ?_))
    have hRZ : RdZ h6 vdo vao ⟨x.P, x.dims, A⟩ := I8 hOd (Hp.le_trans k5 l6) hOa (Hp.le_trans k4 (Hp.le_trans l5 l6)) hB k6
    have l26 := Hp.le_trans l3 (Hp.le_trans l4 (Hp.le_trans l5 l6))
    have hR := hR.up l26
    have o3 := hRZ.d.rd.one
    have o4 := hRZ.a.rd.one
    refine Qa (A2 [3, 4] (by kernel_rfl) rfl ?_)
    refine Az rfl ?_ ?_
    ·refine Qc call15 rfl (Kf x vd vs _ hx hR) (fun rw_ h7 ms7 l7 hF => ?_)
     obtain ⟨l7', vdw, vaw, mdw, maw, mBw, arw, rfl, rfl, hOdw, hOaw, hAw, hBw⟩ := hF
     refine A7 fun h8 l8 k8 => (A7 fun h9 l9 k9 => (A7 fun h10 l10 k10 => ?_))
     have hRW : RdZ h10 vdw vaw ⟨x.P, x.dims, arw⟩ := I8 hOdw (Hp.le_trans k9 l10) hOaw (Hp.le_trans k8 (Hp.le_trans l9 l10)) hBw k10
     have l610 := Hp.le_trans l7 (Hp.le_trans l8 (Hp.le_trans l9 l10))
     have hcur := Hp.le_trans l26 l610
     have hRZ := hRZ.up l610
     have o5 := hRW.d.rd.one
     have o6 := hRW.a.rd.one
     refine Qa (Qo 4 rfl (BZ [.int .i64 0, .slice none 0 0, .slice none 0 0] rfl Bz rfl rfl (fun g4 => Qa (Qo 6 rfl ?_))))
     refine Sa 0 [_, _, _] Bz rfl (by simp [o3, o4, o5, o6]) ?_
     refine Qa (Qo 7 rfl ?_)
     refine Sa 1 [_, _, _] Bz rfl (by simp [o3, o4, o5, o6]) ?_
     refine Qa (Qe ?_)
     refine A9 ?_; exact AA _ ⟨_, _, ⟨x.P, x.dims, A⟩, ⟨x.P, x.dims, arw⟩, _, _, _, _, rfl, Hp.le_trans l26 l610, rfl, hRZ, hRW, rfl, rfl, hAc, rfl, rfl, hAw⟩ Qs
    refine Az rfl ?_ ?_
    ·refine BZ [.int .i64 0, .slice none 0 0, .slice none 0 0] rfl Bz rfl rfl (fun g4 => Qa (Qo 3 rfl (Qc call15 rfl (Kf x vd vs _ hx hR) (fun rw_ h7 ms7 l7 hF => ?_))))
     obtain ⟨l7', vdw, vaw, mdw, maw, mBw, arw, rfl, rfl, hOdw, hOaw, hAw, hBw⟩ := hF
     refine A7 fun h8 l8 k8 => (A7 fun h9 l9 k9 => (A7 fun h10 l10 k10 => ?_))
     have hRW : RdZ h10 vdw vaw ⟨x.P, x.dims, arw⟩ := I8 hOdw (Hp.le_trans k9 l10) hOaw (Hp.le_trans k8 (Hp.le_trans l9 l10)) hBw k10
     have l610 := Hp.le_trans l7 (Hp.le_trans l8 (Hp.le_trans l9 l10))
     have hcur := Hp.le_trans l26 l610
     have hRZ := hRZ.up l610
     have o5 := hRW.d.rd.one
     have o6 := hRW.a.rd.one
     refine Qa (Qo 6 rfl ?_)
     refine Sa 0 [_, _, _] Bz rfl (by simp [o3, o4, o5, o6]) ?_
     refine Qa (Qo 7 rfl ?_)
     refine Sa 1 [_, _, _] Bz rfl (by simp [o3, o4, o5, o6]) ?_
     refine Qa (Qe ?_)
     refine A9 ?_; exact AA _ ⟨_, _, ⟨x.P, x.dims, A⟩, ⟨x.P, x.dims, arw⟩, _, _, _, _, rfl, Hp.le_trans l26 l610, rfl, hRZ, hRW, rfl, rfl, hAc, rfl, rfl, hAw⟩ Qs
    exact A3
   refine Az rfl ?_ ?_
   ·refine BZ [.int .i64 0, .slice none 0 0, .slice none 0 0] rfl Bz rfl rfl (fun g4 => Qw (Qo 1 rfl (Qc call15 rfl (Kf x vd vs _ hx hR) (fun rz h3 ms3 l3 hF => ?_))))
    obtain ⟨l3', vdo, vao, md, ma, mB, A, rfl, rfl, hOd, hOa, hAc, hB⟩ := hF
    refine A7 fun h4 l4 k4 => (A7 fun h5 l5 k5 => (A7 fun h6 l6 k6 => ?_))
    have hRZ : RdZ h6 vdo vao ⟨x.P, x.dims, A⟩ := I8 hOd (Hp.le_trans k5 l6) hOa (Hp.le_trans k4 (Hp.le_trans l5 l6)) hB k6
    have l26 := Hp.le_trans l3 (Hp.le_trans l4 (Hp.le_trans l5 l6))
    have hR := hR.up l26
    have o3 := hRZ.d.rd.one
    have o4 := hRZ.a.rd.one
    refine Qa (Qo 3 rfl (Qc call15 rfl (Kf x vd vs _ hx hR) (fun rw_ h7 ms7 l7 hF => ?_)))
    obtain ⟨l7', vdw, vaw, mdw, maw, mBw, arw, rfl, rfl, hOdw, hOaw, hAw, hBw⟩ := hF
    refine A7 fun h8 l8 k8 => (A7 fun h9 l9 k9 => (A7 fun h10 l10 k10 => ?_))
    have hRW : RdZ h10 vdw vaw ⟨x.P, x.dims, arw⟩ := I8 hOdw (Hp.le_trans k9 l10) hOaw (Hp.le_trans k8 (Hp.le_trans l9 l10)) hBw k10
    have l610 := Hp.le_trans l7 (Hp.le_trans l8 (Hp.le_trans l9 l10))
    have hcur := Hp.le_trans l26 l610
    have hRZ := hRZ.up l610
    have o5 := hRW.d.rd.one
    have o6 := hRW.a.rd.one
    refine Qa (Qo 6 rfl ?_)
    refine Sa 0 [_, _, _] Bz rfl (by simp [o3, o4, o5, o6]) ?_
    refine Qa (Qo 7 rfl ?_)
    refine Sa 1 [_, _, _] Bz rfl (by simp [o3, o4, o5, o6]) ?_
    refine Qa (Qe ?_)
    refine A9 ?_; exact AA _ ⟨_, _, ⟨x.P, x.dims, A⟩, ⟨x.P, x.dims, arw⟩, _, _, _, _, rfl, Hp.le_trans l26 l610, rfl, hRZ, hRW, rfl, rfl, hAc, rfl, rfl, hAw⟩ Qs
   exact A3
  exact A3
 ·obtain ⟨g4, g5, Z, W, vz, vza, vw, vwa, rfl, l2', rfl, hRZ, hRW, z1, z2, z3, w1, w2, w3⟩ := hI
  refine AL fun h3 l3 hS5 => (AL fun h4 l4 hS4 => ?_)
  have l34 := Hp.le_trans l3 l4
  have hRZ := hRZ.up l34
  have hRW := hRW.up l34
  have hS5 := hS5.le l4
  have hRtZ : Z.Rt := x.rt z1 z2 z3
  have hSm0 : Z.Same W := ⟨z1.trans w1.symm, z2.trans w2.symm, z3.trans w3.symm⟩
  have hZp : x.P = Z.p := z1.symm
  have hWp : x.P = W.p := w1.symm
  rw [hZp] at hS4
  rw [hWp] at hS5
  have o3 := hRZ.d.rd.one
  have o4 := hRZ.a.rd.one
  have o5 := hRW.d.rd.one
  have o6 := hRW.a.rd.one
  refine Ax (Qx (oG rfl underlying30 Bz (Seg.any hS4)) rfl (Qc call30 rfl (strands_ok Z vz vza h4 hRtZ.ok hRtZ hRZ) (fun rs h7 ms7 l7 hF => ?_)))
  obtain ⟨l7', N, S, e, L, ml, mL, rfl, hN, hOl, hBg, hp, hV, hbd, hsrt⟩ := hF
  refine A7 fun h8 l8 k8 => ?_
  have l48 := Hp.le_trans l7 l8
  have hRl : RdL cS 3 h8 [] rs (L.map e) := hOl.rdh k8
  have hlen : L.length ≤ 20400 := by rw [hp.length_eq, List.length_range]; omega
  have hRZ := hRZ.up l48
  have hRW := hRW.up l48
  have hS4 := hS4.le l48
  have hS5 := hS5.le l48
  have hck : Dq Tryz.prog 32 #[.agg #[.int .i64 Z.p, vz, vza], rs] h8 [mL] (.bool true) := CN fun h' l hm => by
   obtain ⟨ls, hle, hRs, hCk⟩ := strands_sv hRtZ hOl (Hp.le_trans k8 l) hBg (hm _ (List.Mem.head _)) hp hV hbd
   exact zcheck_k (hRZ.up l) hRs (by have := congrArg List.length hle; simp only [List.length_map] at this; omega) hCk []
  refine Qm rfl (B3 (Qx (oG rfl underlying30 Bz (Seg.any hS4)) rfl (Qm rfl (Qx (AG rfl call32 rfl (hck)) rfl (Aq (ws_gs (Goes.split 3 mL []) (ws_frz fun h9 l9 k9 => ?_)))))))
  have hK := strands_parts hBg hp k9
  have hRl := hRl.up l9
  have hRZ := hRZ.up l9
  have hRW := hRW.up l9
  have hS4 := hS4.le l9
  have hS5 := hS5.le l9
  generalize hmI : mL.only 3 = mI at hK
  generalize hls : L.map e = ls at hK hRl
  have hlen : ls.length ≤ 20400 := by rw [← hls, List.length_map]; exact hlen
  refine Ac (Ax (Qm rfl (Qx (AJ hRl.rd.any rfl underlying60 rfl) rfl (Qm rfl (Aq (Ag ?_))))))
  refine AD (fun q sl hh ms' => ∃ (a : Nat) (m : Hp), q = ls.length - a ∧ sl = [(3, .bool true), (4, .pointer (some ⟨g4, 0, none⟩)), (5, .pointer (some ⟨g5, 0, none⟩)), (27, rs), (28, .int .i64 ls.length), (29, .int .i64 a)] ∧ h9.le hh ∧ ms' = [m] ∧ a ≤ ls.length ∧ SimI 3 mI m)
   (ls.length - 0) _ ⟨0, mI, rfl, rfl, Hp.le_refl _, rfl, by omega, SimI.refl _ _⟩ Qs ?_
  rintro q sl hh ms' ⟨a, m, rfl, rfl, lh, rfl, ha, hSim⟩
  have hRl := hRl.up lh
  refine Ax (Qm rfl (Aq (Ac ?_)))
  refine AF rfl (fun hlt => ?_) (fun hlt => ?_)
  ·have hal : a < ls.length := Bx hlt
   obtain ⟨es, hes, hev⟩ := (hK _ (List.getElem_mem hal)).up lh
   have hseg : ∀ ms, Seg hh ms ((Bl rs).add (a * 3)) (cS ls[a]) := fun ms => (hRl.any (ms := ms)).seg hal
   have oe := hes.rd.one
   refine Ai (Ab (Ac (Ag (Ax (Qx (Ah (a) hRl.rd.any rfl underlying60 BP rfl rfl (by omega) (by omega)) rfl (Qx (oG rfl underlying64 BP (hseg _)) rfl (BZ [.int .i64 0, .int .i64 0, .slice none 0 0] rfl BP rfl rfl (fun g8 => ?_))))))))
   refine Sa 0 [_, _, _] BP rfl (by simp [oe]) ?_
   refine Aq (AL fun h10 l10 hS8 => ?_)
   have hA8 := Seg.all hS8
   have hes := hes.up l10
   refine Ax (Qf CY rfl (Ql rfl underlying62 (hA8 _ _ rfl _) (Qx (AJ hes.rd.any rfl underlying62 rfl) rfl (Qm rfl (Aq (Ag ?_))))))
   refine AD (fun q sl h11 ms' => ∃ (b : Nat) (m : Hp), q = es.length - b ∧ sl = [(3, .bool true), (4, .pointer (some ⟨g4, 0, none⟩)), (5, .pointer (some ⟨g5, 0, none⟩)), (27, rs), (28, .int .i64 ls.length), (29, .int .i64 a), (34, ls[a].v), (35, .int .i64 es.length), (36, .int .i64 b)] ∧ h10 = h11 ∧ ms' = [m] ∧ b ≤ es.length ∧ SimI 3 mI m)
    (es.length - 0) _ ⟨0, m, rfl, rfl, rfl, rfl, by omega, hSim⟩ Qs ?_
   rintro q sl h11 ms' ⟨b, m, rfl, rfl, rfl, rfl, hb, hSim⟩
   refine Ax (Qm rfl (Aq (Ac ?_)))
   refine AF rfl (fun hlt2 => ?_) (fun hlt2 => ?_)
   ·have hbl : b < es.length := Bx hlt2
    obtain ⟨y, c, hy, hOy⟩ := hev b hbl
    have hcl := (hOy.rd (h := h10) (ms := [y]) (List.Mem.head _)).len_le
    have hel := hes.len_le
    have hcu : ∀ ms, Cell h10 ms ((Bl ls[a].v).add (b * 1)) es[b] := fun ms => (hes.any (ms := ms)).cell0 hbl rfl
    have ou : es[b].oneCell' = true := (hOy.rd (h := h10) (ms := [y]) (List.Mem.head _)).rd.one
    refine Ai (Ab (Ac (Ag (Ax (Qx (Ah (b) hes.rd.any rfl underlying62 BN rfl rfl (by omega) (by omega)) rfl (Ql rfl underlying24 (hcu _) (Qm rfl (B3 (Qm rfl (Qx (CH (hOy.rd (h := h10) (ms := [y]) (List.Mem.head _)).rd rfl underlying24 rfl) rfl (Qm rfl (Aq (Ag ?_)))))))))))))
    refine AD (fun q sl h12 ms' => ∃ (d : Nat) (m : Hp), q = c.length - d ∧ sl = [(3, .bool true), (4, .pointer (some ⟨g4, 0, none⟩)), (5, .pointer (some ⟨g5, 0, none⟩)), (10, es[b]), (27, rs), (28, .int .i64 ls.length), (29, .int .i64 a), (34, ls[a].v), (35, .int .i64 es.length), (36, .int .i64 b), (41, .int .i64 c.length), (42, .int .i64 d)] ∧ h10 = h12 ∧ ms' = [m] ∧ d ≤ c.length ∧ SimI 3 mI m)
     (c.length - 0) _ ⟨0, m, rfl, rfl, rfl, rfl, by omega, hSim⟩ Qs ?_
    rintro q sl h12 ms' ⟨d, m, rfl, rfl, rfl, rfl, hd, hSim⟩
    refine Ax (Qm rfl (Aq (Ac ?_)))
    refine AF rfl (fun hlt3 => ?_) (fun hlt3 => ?_)
    ·have hdl : d < c.length := Bx hlt3
     refine Ai (Ab (Ac (Ag (Ax (Qm rfl (Qm rfl (IA (Qm rfl (Qm rfl (Qx (Bo (d) (hOy.rd (h := h10) (ms := [y]) (List.Mem.head _)).rd rfl underlying24 A8 rfl rfl (by omega) (by omega)) rfl (wl_storeIn d hOy hy hSim rfl A8 rfl rfl hdl rfl rfl (fun m' hS' => Ak (Aj (Ab (Ad (Qx (oA rfl) rfl (Qm rfl (Ak ?_))))))))))))))))))
     exact Al (c.length - (d + 1)) _ (by omega) ⟨d + 1, m', rfl, rfl, rfl, rfl, by omega, hS'⟩ Qs
    ·refine Aw (Aa (Aa (Af (Aj (Ab (Ad (Qx (oA rfl) rfl (Qm rfl (Ak ?_)))))))))
     exact Al (es.length - (b + 1)) _ (by omega) ⟨b + 1, m, rfl, rfl, rfl, rfl, by omega, hSim⟩ Qs
   ·refine Aw (Aa (Aa (Af (Aj (Ab (Ad (Qx (oA rfl) rfl (Qm rfl (Ak ?_)))))))))
    exact Al (ls.length - (a + 1)) _ (by omega) ⟨a + 1, m, rfl, rfl, Hp.le_trans lh l10, rfl, by omega, hSim⟩ Qs
  ·have hRZ := hRZ.up lh
   have hRW := hRW.up lh
   have hS4 := hS4.le lh
   have hS5 := hS5.le lh
   refine Aw (Aa (Aa (Af (Ab (Ax (Qx (oG rfl underlying30 Bz (Seg.any hS4)) rfl (Qc call26 rfl (G1 Z vz vza _ hRtZ hRZ) (fun rt h13 ms13 l13 hF => ?_))))))))
   obtain ⟨l13', vdt, vat, mdt, mat_, mBt, arT, rfl, rfl, hOdt, hOat, hAt, hBt⟩ := hF
   refine AH hOat fun h14 l14 hRat => ?_
   have odt : vdt.oneCell' = true := (hOdt.rd (h := h14) (ms := [mdt]) (List.Mem.head _)).rd.one
   have oat := hRat.rd.one
   refine BZ [.int .i64 0, .slice none 0 0, .slice none 0 0] rfl Bz rfl rfl (fun g12 => ?_)
   refine Sa 0 [_, _, _] Bz rfl (by simp [odt, oat]) ?_
   refine Aq (AL fun h15 l15 hS12 => ?_)
   have hcur := Hp.le_trans l13 (Hp.le_trans l14 l15)
   have hRZ := hRZ.up hcur
   have hRW := hRW.up hcur
   have hS4 := hS4.le hcur
   have hS5 := hS5.le hcur
   have hRat := hRat.up l15
   have hAtE := hBt.all
   have hA12 := Seg.all hS12
   have hdl0 := (hOdt.rd (h := h14) (ms := [mdt]) (List.Mem.head _)).len_le
   have hal0 := hRat.len_le
   obtain ⟨D, hD⟩ : ∃ D, Z.dims.reverse = D := ⟨_, rfl⟩
   rw [hD] at hOdt hdl0
   refine Ac (Ax (Qf Bn rfl (Ql rfl underlying24 (hA12 _ _ rfl _) (Qx (CH (hOdt.rd (h := h14) (ms := [mdt]) (List.Mem.head _)).rd rfl underlying24 rfl) rfl (Qm rfl (Aq (Ag ?_)))))))
   refine AD (fun q sl hh ms' => ∃ (a : Nat) (md : Hp) (D' : List Int), q = D.length - a ∧ sl = [(3, .bool true), (4, .pointer (some ⟨g4, 0, none⟩)), (5, .pointer (some ⟨g5, 0, none⟩)), (12, .pointer (some ⟨g12, 0, none⟩)), (55, .int .i64 D.length), (56, .int .i64 a)] ∧ h15 = hh ∧ ms' = [md, mBt, m] ∧ a ≤ D.length ∧ OwnL cI 1 3 md vdt D' ∧ D'.length = D.length)
    (D.length - 0) _ ⟨0, mdt, D, rfl, rfl, rfl, rfl, by omega, hOdt, rfl⟩ Qs ?_
   rintro q sl hh ms' ⟨a, md, D', rfl, rfl, rfl, rfl, ha, hOd, hDl⟩
   refine Ax (Qm rfl (Aq (Ac ?_)))
   refine AF rfl (fun hlt4 => ?_) (fun hlt4 => ?_)
   ·have hal : a < D'.length := by omega
    refine Ai (Ab (Ac (Ag (Ax (Qm rfl (Qm rfl (IA (Qf Bn rfl (Ql rfl underlying24 (hA12 _ _ rfl _) (Qm rfl (Qx (Bo (a) (hOd.rd (h := h14) (ms := [md]) (List.Mem.head _)).rd rfl underlying24 A8 rfl rfl (by omega) (by omega)) rfl (Bu 0 a hOd rfl A8 rfl rfl rfl hal rfl rfl (fun md' hOd' => Ak (Aj (Ab (Ad (Qx (oA rfl) rfl (Qm rfl (Ak ?_)))))))))))))))))))
    exact Al (D.length - (a + 1)) _ (by omega) ⟨a + 1, md', _, rfl, rfl, rfl, rfl, by omega, hOd', by rw [List.length_set]; exact hDl⟩ Qs
   ·refine Aw (Aa (Aa (Af (Ab (ws_drp (Ac (Ax (Qf BQ rfl (Ql rfl underlying28 (hA12 _ _ rfl _) (Qx (AJ hRat.rd.any rfl underlying28 rfl) rfl (Qm rfl (Aq (Ag ?_)))))))))))))
    refine AD (fun q sl hh ms' => ∃ (a : Nat) (mm : Hp), q = arT.length - a ∧ sl = [(3, .bool true), (4, .pointer (some ⟨g4, 0, none⟩)), (5, .pointer (some ⟨g5, 0, none⟩)), (65, vat), (66, .int .i64 arT.length), (67, .int .i64 a)] ∧ h15.le hh ∧ ms' = [mm, m] ∧ a ≤ arT.length ∧ SimI 3 mBt mm)
     (arT.length - 0) _ ⟨0, mBt, rfl, rfl, Hp.le_refl _, rfl, by omega, SimI.refl _ _⟩ Qs ?_
    rintro q sl hh ms' ⟨a, mm, rfl, rfl, lq, rfl, ha, hSm⟩
    have hRat := hRat.up lq
    refine Ax (Qm rfl (Aq (Ac ?_)))
    refine AF rfl (fun hlt5 => ?_) (fun hlt5 => ?_)
    ·have hal : a < arT.length := Bx hlt5
     obtain ⟨y, hy, hOy⟩ := hAtE a hal
     have eat : arT.getD a default = arT[a] := by simp [List.getD, hal]
     rw [eat] at hOy
     have hseg : ∀ ms, Seg hh ms ((Bl vat).add (a * 5)) (cA arT[a]) := fun ms => (hRat.any (ms := ms)).seg hal
     have oy : arT[a].v.oneCell' = true := (hOy.rd (h := h14) (ms := [y]) (List.Mem.head _)).rd.one
     have hcl := (hOy.rd (h := h14) (ms := [y]) (List.Mem.head _)).len_le
     refine Ai (Ab (Ac (Ag (Ax (Qx (Ah (a) hRat.rd.any rfl underlying28 Cr rfl rfl (by omega) (by omega)) rfl (Qx (oG rfl underlying45 Cr (hseg _)) rfl (BZ [.bool false, .int .i64 0, .int .i64 0, .int .i64 0, .slice none 0 0] rfl Cr rfl rfl (fun g15 => ?_))))))))
     refine Sa 0 [_, _, _, _, _] Cr rfl (by simp [oy]) ?_
     refine Aq (AL fun h16 l16 hS15 => ?_)
     have hA15 := Seg.all hS15
     have hc4 : ∀ ms, Cell h16 ms (((⟨g15, 0, none⟩ : Addr).add 1).add 3) arT[a].v := fun ms => hA15 4 _ rfl ms
     refine Ax (Qf Ca rfl (Qf Bc rfl (Ql rfl underlying24 (hc4 _) (Qx (CH (hOy.rd (h := h14) (ms := [y]) (List.Mem.head _)).rd rfl underlying24 rfl) rfl (Qm rfl (Aq (Ag ?_)))))))
     refine AD (fun q sl h17 ms' => ∃ (b : Nat) (mm : Hp), q = arT[a].M.e.length - b ∧ sl = [(3, .bool true), (4, .pointer (some ⟨g4, 0, none⟩)), (5, .pointer (some ⟨g5, 0, none⟩)), (15, .pointer (some ⟨g15, 0, none⟩)), (65, vat), (66, .int .i64 arT.length), (67, .int .i64 a), (74, .int .i64 arT[a].M.e.length), (75, .int .i64 b)] ∧ h16 = h17 ∧ ms' = [mm, m] ∧ b ≤ arT[a].M.e.length ∧ SimI 3 mBt mm)
      (arT[a].M.e.length - 0) _ ⟨0, mm, rfl, rfl, rfl, rfl, by omega, hSm⟩ Qs ?_
     rintro q sl h17 ms' ⟨b, mm, rfl, rfl, rfl, rfl, hb, hSm⟩
     refine Ax (Qm rfl (Aq (Ac ?_)))
     refine AF rfl (fun hlt6 => ?_) (fun hlt6 => ?_)
     ·have hbl : b < arT[a].M.e.length := Bx hlt6
      refine Ai (Ab (Ac (Ag (Ax (Qm rfl (Qm rfl (IA (Qf Ca rfl (Qf Bc rfl (Ql rfl underlying24 (hc4 _) (Qm rfl (Qx (Bo (b) (hOy.rd (h := h14) (ms := [y]) (List.Mem.head _)).rd rfl underlying24 A8 rfl rfl (by omega) (by omega)) rfl (wl_storeIn b hOy hy hSm rfl A8 rfl rfl hbl rfl rfl (fun mm' hSm' => Ak (Aj (Ab (Ad (Qx (oA rfl) rfl (Qm rfl (Ak ?_))))))))))))))))))))
      exact Al (arT[a].M.e.length - (b + 1)) _ (by omega) ⟨b + 1, mm', rfl, rfl, rfl, rfl, by omega, hSm'⟩ Qs
     ·refine Aw (Aa (Aa (Af (Aj (Ab (Ad (Qx (oA rfl) rfl (Qm rfl (Ak ?_)))))))))
      exact Al (arT.length - (a + 1)) _ (by omega) ⟨a + 1, mm, rfl, rfl, Hp.le_trans lq l16, rfl, by omega, hSm⟩ Qs
    ·refine Aw (Aa (Aa (Af (Ab (ws_drp (ws_drp ?_))))))
     have hRZ := hRZ.up lq
     have hRW := hRW.up lq
     have hS4 := hS4.le lq
     have hS5 := hS5.le lq
     refine Ac (AW (n := 13) (bs := [true, false, false, false, false, false, false, false, false, false, false, false, false]) [true] Cd (by kernel_rfl) (by kernel_rfl) rfl rfl (Qq rfl ?_))
     unfold CD
     simp only [List.cons_append, List.nil_append]
     refine Qo 1 rfl (Qm rfl (Qw (BH 2 87 (by kernel_rfl) rfl rfl rfl rfl rfl (Hp.le_refl _) rfl (oG rfl underlying30 Bz (Seg.any hS4)) (BH 3 88 (by kernel_rfl) rfl rfl rfl rfl rfl (Hp.le_refl _) rfl (oG rfl underlying30 Bz (Seg.any hS5)) (BH 4 89 (by kernel_rfl) rfl rfl rfl rfl rfl (Hp.le_refl _) rfl (AG rfl call27 rfl (Ga hRZ hRW hSm0 _)) (Qo 5 rfl (Qm rfl (Qw (Qo 6 rfl (Qm rfl (Qw (BH 7 92 (by kernel_rfl) rfl rfl rfl rfl rfl (Hp.le_refl _) rfl (oG rfl underlying30 Bz (Seg.any hS4)) (BH 8 93 (by kernel_rfl) rfl rfl rfl rfl rfl (Hp.le_refl _) rfl (oG rfl underlying30 Bz (Seg.any hS4)) (Qo 9 rfl (Ce rfl rfl rfl rfl (Qc call30 rfl (strands_ok Z vz vza _ hRtZ.ok hRtZ hRZ) (fun De h20 ms20 l20 hF => ?_)))))))))))))))))
     obtain ⟨l20', N2, S2, e2, L2, ml2, mL2, rfl, hN2, hOl2, hBg2, hp2, hV2, hbd2, hsrt2⟩ := hF
     refine A7 fun h21 l21 k21 => (A7 fun h22 l22 k22 => ?_)
     obtain ⟨ls2, hle2, hRs2, hCk2⟩ := strands_sv hRtZ hOl2 (Hp.le_trans k21 l22) hBg2 k22 hp2 hV2 hbd2
     have hlen2 : ls2.length ≤ 1000000 := by have := congrArg List.length hle2; have := hp2.length_eq; simp only [List.length_map, List.length_range] at *; omega
     have hcur := Hp.le_trans l20 (Hp.le_trans l21 l22)
     have hRZ := hRZ.up hcur
     refine Qa (Qo 10 rfl (Qg (AG rfl call31 rfl (IV hRZ hRs2 hlen2 hCk2 _)) rfl (Qa (Qo 11 rfl (Qm rfl (Qa (Qo 12 rfl (Qm rfl (Qa (Qe (Ab (Ao ?_))))))))))))
     exact Am rfl rfl rfl
end Go.Proofs.YtdnelknieikbaaaGreat
