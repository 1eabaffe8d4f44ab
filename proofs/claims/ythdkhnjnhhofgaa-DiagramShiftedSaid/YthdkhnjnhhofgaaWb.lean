/- Walks: the diagram's closures, lists of births. -/
import Derived.Test.YthdkhnjnhhofgaaWa
set_option linter.unusedSimpArgs false
set_option linter.unusedVariables false
set_option maxRecDepth 100000
namespace Go.Proofs.Ythdkhnjnhhofgaa
open Go.Eng Go.RowKit

theorem filteredI_ok (l : List Int) (vl : Value) (cf : FuncId) (cs : List Value) (p : Int → Bool) (h : Hp) (hR : RdL cI 1 h [] vl l) (hl : l.length ≤ 1000000000)
    (hc : ∀ xs w, (callFunc cf xs).run Try.prog w = .ok (.enter cf xs) w)
    (hp : ∀ b ∈ l, ∀ ms, FnV Try.prog cf ([] ++ [Value.int .i64 b] ++ cs).toArray h ms (.bool (p b))) :
    FnT Try.prog 35 #[vl, .func (.func cf) #[] cs.toArray] h [] (fun r h' ms' => h = h' ∧ ∃ m, ms' = [m] ∧ OwnL cI 1 3 m r (l.filter p)) := by
  refine fn_enter Try.func35 Try.ntmps35 rfl rfl (fun w0 hw0 => ?_)
  simp only [argS]
  refine ws_seq ?_
  refine ws_region ?_
  refine wl_x (ox_assign rfl rfl) rfl rfl rfl ?_
  refine wl_nil ?_
  refine nx_then ?_
  refine ws_seq ?_
  refine ws_region ?_
  refine wl_x (ox_assign rfl rfl) rfl rfl rfl ?_
  refine wl_nil ?_
  refine nx_then ?_
  refine ws_seq ?_
  refine ws_seq ?_
  refine ws_region ?_
  refine wl_x (ox_move rfl rfl) rfl rfl rfl ?_
  first | refine wl_x (ox_len (ty := 23) rfl Try.underlying23 rfl) rfl rfl rfl ?_ | refine wl_x (ox_lenR hR.rd.any rfl Try.underlying23 rfl) rfl rfl rfl ?_
  refine wl_x (ox_move rfl rfl) rfl rfl rfl ?_
  refine wl_nil ?_
  refine nx_then ?_
  refine ws_block ?_
  refine ws_emp ?_
  refine ws_loop (fun n s h' ms' => ∃ (k : Nat) (v : Value) (m : Hp), n = l.length - k ∧ s = [(1, .func (.func cf) #[] cs.toArray), (8, vl), (9, .int .i64 l.length), (10, .int .i64 k), (5, v)] ∧ h = h' ∧ ms' = [m] ∧ k ≤ l.length ∧ OwnL cI 1 3 m v ((l.take k).filter p))
    (l.length - 0) _ ⟨0, _, _, rfl, rfl, rfl, rfl, by omega, OwnL.nil cI_len⟩ (by repeat (first | exact trivial | refine ⟨rfl, ?_⟩)) ?_
  rintro n s h' ms' ⟨k, v, m, rfl, rfl, rfl, rfl, hk, hO⟩
  have hO2 := hO.own.1
  refine ws_seq ?_
  refine ws_region ?_
  refine wl_x (ox_lss rfl rfl rfl) rfl rfl rfl ?_
  refine wl_nil ?_
  refine nx_then ?_
  refine ws_seq ?_
  refine ws_if rfl (fun hlt => ?_) (fun hlt => ?_)
  · skip
    have hlt' : k < l.length := by omega
    have hmem : l[k] ∈ l := List.getElem_mem hlt'
    have hts := take_succ_filter l p k hlt'
    refine ws_skip ?_
    refine nx_then ?_
    refine ws_seq ?_
    refine ws_block ?_
    refine ws_seq ?_
    refine ws_region ?_
    first | refine wl_x (ox_index _ rfl Try.underlying23 el3 rfl rfl rfl (by omega)) rfl rfl rfl ?_ | refine wl_x (ox_indexR _ hR.rd.any rfl Try.underlying23 el3 rfl rfl rfl (by omega)) rfl rfl rfl ?_
    refine wl_x (ox_load rfl Try.underlying3 rfl rfl (by first | exact hR.any.cell0 hlt' rfl)) rfl rfl rfl ?_
    refine wl_x (ox_assign rfl rfl) rfl rfl rfl ?_
    refine wl_nil ?_
    refine nx_then ?_
    refine ws_seq ?_
    refine ws_region ?_
    refine wl_x (ox_move rfl rfl) rfl rfl rfl ?_
    refine wl_x (ox_move rfl rfl) rfl rfl rfl ?_
    refine wl_x (ox_callv rfl rfl hc rfl (hp _ hmem _)) rfl rfl rfl ?_
    refine wl_nil ?_
    refine nx_then ?_
    refine ws_cond rfl (fun hpk => ?_) (fun hpk => ?_)
    · skip
      refine ws_region ?_
      refine wl_x (ox_move rfl rfl) rfl rfl rfl ?_
      refine wl_x (ox_move rfl rfl) rfl rfl rfl ?_
      refine wl_buildSlice1 [_] rfl Try.underlying23 el3 rfl (by first | rfl | exact Rd.cells ‹_› | exact (RdL.rd ‹_›).cells) rfl rfl (by omega) rfl rfl rfl (fun g19 => ?_)
      have hfl : ((l.take k).filter p).length ≤ k := Nat.le_trans (List.length_filter_le _ _) (by rw [List.length_take]; omega)
      refine wl_appendL 1 hO (RdL.one cI_len (List.Mem.head _) rfl) rfl Try.underlying23 el3 rfl (by omega) rfl rfl rfl cI_one (by simp; omega) (by simp; omega) rfl rfl rfl (fun v' m' hO' => ?_)
      refine wl_x (ox_assign rfl rfl) rfl rfl rfl ?_
      refine wl_nil ?_
      refine nx_block ?_
      refine nx_then ?_
      refine ws_region ?_
      refine wl_x (ox_add rfl rfl rfl (by omega)) rfl rfl rfl ?_
      refine wl_x (ox_move rfl rfl) rfl rfl rfl ?_
      refine wl_nil ?_
      refine nx_drop ?_
      refine nx_round (l.length - (k + 1)) _ (by omega) ⟨k + 1, v', m', rfl, rfl, rfl, rfl, by omega, by rw [hts, if_pos hpk]; exact hO'⟩ (by repeat (first | exact trivial | refine ⟨rfl, ?_⟩))
    · skip
      refine ws_skip ?_
      refine nx_block ?_
      refine nx_then ?_
      refine ws_region ?_
      refine wl_x (ox_add rfl rfl rfl (by omega)) rfl rfl rfl ?_
      refine wl_x (ox_move rfl rfl) rfl rfl rfl ?_
      refine wl_nil ?_
      refine nx_round (l.length - (k + 1)) _ (by omega) ⟨k + 1, v, m, rfl, rfl, rfl, rfl, by omega, by rw [hts, if_neg (by simp [hpk]), List.append_nil]; exact hO⟩ (by repeat (first | exact trivial | refine ⟨rfl, ?_⟩))
  · skip
    refine ws_exit ?_
    refine nx_then_exit ?_
    refine nx_then_exit ?_
    refine nx_block_exit ?_
    refine nx_then ?_
    refine ws_seq ?_
    refine ws_region ?_
    refine wl_x (ox_move rfl rfl) rfl rfl rfl ?_
    refine wl_x (ox_assign rfl rfl) rfl rfl rfl ?_
    refine wl_nil ?_
    refine nx_then ?_
    refine ws_ret ?_
    have hkl : l.take k = l := List.take_of_length_le (by omega)
    rw [hkl] at hO
    exact nx_ret1 rfl rfl (⟨rfl, m, rfl, hO⟩)

/-- Open, of a dimension. -/
def Br.openIn (dim : Int) (b : Br) : Bool := decide (b.dim = dim) && b.opn
def Br.finIn (dim : Int) (b : Br) : Bool := decide (b.dim = dim) && !b.opn && b.cnt
theorem openIn_ok (b : Br) (gd : Nat) (dim : Int) (h : Hp) (hD : ∀ ms, Cell h ms ⟨gd, 0, none⟩ (.int .i64 dim)) (ms : List Hp) : FnV Try.prog 27 ([] ++ [Value.agg (cBr b).toArray] ++ [Value.pointer (some ⟨gd, 0, none⟩)]).toArray h ms (.bool (b.openIn dim)) := by
  refine fun w hw => (?_ : FnV _ _ _ h [] _) w (hw.weaken (Hp.le_refl _) (List.nil_sublist _))
  refine FnT.toV ?_
  show FnT _ _ #[.agg (cBr b).toArray, .pointer (some ⟨gd, 0, none⟩)] _ _ _
  refine fn_enter Try.func27 Try.ntmps27 rfl rfl (fun w0 hw0 => ?_)
  simp only [argS]
  refine ws_seq ?_
  refine ws_region ?_
  refine wl_box [_, _, _, _, _, _] rfl rfl (by first | rfl | exact Rd.cells ‹_› | exact (RdL.rd ‹_›).cells) rfl rfl rfl (fun g2 => ?_)
  refine wl_x (ox_assign rfl rfl) rfl rfl rfl ?_
  refine wl_nil ?_
  refine nx_then ?_
  refine ws_seq ?_
  refine ws_region ?_
  refine wl_x (ox_fieldF fd40_0 rfl rfl) rfl rfl rfl ?_
  refine wl_x (ox_load rfl Try.underlying3 rfl rfl (by first | exact Cell.blk 0 rfl rfl | exact Cell.blk 1 rfl rfl | exact Cell.blk 2 rfl rfl | exact Cell.blk 3 rfl rfl | exact Cell.blk 4 rfl rfl | exact hD _)) rfl rfl rfl ?_
  refine wl_x (ox_load rfl Try.underlying3 rfl rfl (by first | exact hD _)) rfl rfl rfl ?_
  refine wl_x (ox_eqi rfl rfl rfl) rfl rfl rfl ?_
  refine wl_x (ox_move rfl rfl) rfl rfl rfl ?_
  refine wl_split (t := 8) rfl (fun hs => ?_) (fun hs => ?_)
  · skip
    refine wl_gx (ox_fieldF fd40_3 rfl rfl) rfl rfl rfl rfl rfl rfl ?_
    refine wl_gx (ox_load rfl Try.underlying4 rfl rfl (by first | exact Cell.blk 0 rfl rfl | exact Cell.blk 1 rfl rfl | exact Cell.blk 2 rfl rfl | exact Cell.blk 3 rfl rfl | exact Cell.blk 4 rfl rfl | exact hD _)) rfl rfl rfl rfl rfl rfl ?_
    refine wl_x (ox_pick_t rfl rfl rfl) rfl rfl rfl ?_
    refine wl_x (ox_assign rfl rfl) rfl rfl rfl ?_
    refine wl_nil ?_
    refine nx_then ?_
    refine ws_ret ?_
    exact nx_ret1 rfl rfl (by simp [Br.openIn, hs])
  · skip
    refine wl_skip rfl rfl rfl rfl rfl rfl rfl ?_
    refine wl_skip rfl rfl rfl rfl rfl rfl rfl ?_
    refine wl_x (ox_pick_f rfl rfl rfl) rfl rfl rfl ?_
    refine wl_x (ox_assign rfl rfl) rfl rfl rfl ?_
    refine wl_nil ?_
    refine nx_then ?_
    refine ws_ret ?_
    exact nx_ret1 rfl rfl (by simp [Br.openIn, hs])
theorem finIn_ok (b : Br) (gd : Nat) (dim : Int) (h : Hp) (hD : ∀ ms, Cell h ms ⟨gd, 0, none⟩ (.int .i64 dim)) (ms : List Hp) : FnV Try.prog 30 ([] ++ [Value.agg (cBr b).toArray] ++ [Value.pointer (some ⟨gd, 0, none⟩)]).toArray h ms (.bool (b.finIn dim)) := by
  refine fun w hw => (?_ : FnV _ _ _ h [] _) w (hw.weaken (Hp.le_refl _) (List.nil_sublist _))
  refine FnT.toV ?_
  show FnT _ _ #[.agg (cBr b).toArray, .pointer (some ⟨gd, 0, none⟩)] _ _ _
  refine fn_enter Try.func30 Try.ntmps30 rfl rfl (fun w0 hw0 => ?_)
  simp only [argS]
  refine ws_seq ?_
  refine ws_region ?_
  refine wl_box [_, _, _, _, _, _] rfl rfl (by first | rfl | exact Rd.cells ‹_› | exact (RdL.rd ‹_›).cells) rfl rfl rfl (fun g2 => ?_)
  refine wl_x (ox_assign rfl rfl) rfl rfl rfl ?_
  refine wl_nil ?_
  refine nx_then ?_
  refine ws_seq ?_
  refine ws_region ?_
  refine wl_x (ox_fieldF fd40_0 rfl rfl) rfl rfl rfl ?_
  refine wl_x (ox_load rfl Try.underlying3 rfl rfl (by first | exact Cell.blk 0 rfl rfl | exact Cell.blk 1 rfl rfl | exact Cell.blk 2 rfl rfl | exact Cell.blk 3 rfl rfl | exact Cell.blk 4 rfl rfl | exact hD _)) rfl rfl rfl ?_
  refine wl_x (ox_load rfl Try.underlying3 rfl rfl (by first | exact hD _)) rfl rfl rfl ?_
  refine wl_x (ox_eqi rfl rfl rfl) rfl rfl rfl ?_
  refine wl_x (ox_move rfl rfl) rfl rfl rfl ?_
  refine wl_split (t := 8) rfl (fun hs => ?_) (fun hs => ?_)
  · skip
    refine wl_gx (ox_fieldF fd40_3 rfl rfl) rfl rfl rfl rfl rfl rfl ?_
    refine wl_gx (ox_load rfl Try.underlying4 rfl rfl (by first | exact Cell.blk 0 rfl rfl | exact Cell.blk 1 rfl rfl | exact Cell.blk 2 rfl rfl | exact Cell.blk 3 rfl rfl | exact Cell.blk 4 rfl rfl | exact hD _)) rfl rfl rfl rfl rfl rfl ?_
    refine wl_gx (ox_not rfl rfl) rfl rfl rfl rfl rfl rfl ?_
    refine wl_x (ox_pick_t rfl rfl rfl) rfl rfl rfl ?_
    refine wl_x (ox_move rfl rfl) rfl rfl rfl ?_
    refine wl_splitb (t := 13) rfl (fun hs2 => ?_) (fun hs2 => ?_)
    · skip
      refine wl_gx (ox_loadG rfl Try.underlying40 rfl el40 rfl rfl (by first | exact Seg.blk 0 rfl | exact Seg.blk 1 rfl | exact Seg.blk 2 rfl | exact Seg.blk 3 rfl | exact Seg.blk 4 rfl | exact RdL.seg ‹_› (by omega))) rfl rfl rfl rfl rfl rfl ?_
      refine wl_gx (ox_call rfl Try.call31 rfl (counts_ok _ _ _)) rfl rfl rfl rfl rfl rfl ?_
      refine wl_x (ox_pick_t rfl rfl rfl) rfl rfl rfl ?_
      refine wl_x (ox_assign rfl rfl) rfl rfl rfl ?_
      refine wl_nil ?_
      refine nx_then ?_
      refine ws_ret ?_
      exact nx_ret1 rfl rfl (by simp [Br.finIn, hs] at hs2 ⊢; simp [hs2])
    · skip
      refine wl_skip rfl rfl rfl rfl rfl rfl rfl ?_
      refine wl_skip rfl rfl rfl rfl rfl rfl rfl ?_
      refine wl_x (ox_pick_f rfl rfl rfl) rfl rfl rfl ?_
      refine wl_x (ox_assign rfl rfl) rfl rfl rfl ?_
      refine wl_nil ?_
      refine nx_then ?_
      refine ws_ret ?_
      exact nx_ret1 rfl rfl (by simp [Br.finIn, hs] at hs2 ⊢; simp [hs2])
  · skip
    refine wl_skip rfl rfl rfl rfl rfl rfl rfl ?_
    refine wl_skip rfl rfl rfl rfl rfl rfl rfl ?_
    refine wl_skip rfl rfl rfl rfl rfl rfl rfl ?_
    refine wl_x (ox_pick_f rfl rfl rfl) rfl rfl rfl ?_
    refine wl_x (ox_move rfl rfl) rfl rfl rfl ?_
    refine wl_skip rfl rfl rfl rfl rfl rfl rfl ?_
    refine wl_skip rfl rfl rfl rfl rfl rfl rfl ?_
    refine wl_x (ox_pick_f rfl rfl rfl) rfl rfl rfl ?_
    refine wl_x (ox_assign rfl rfl) rfl rfl rfl ?_
    refine wl_nil ?_
    refine nx_then ?_
    refine ws_ret ?_
    exact nx_ret1 rfl rfl (by simp [Br.finIn, hs])
theorem geqL_ok (b : Int) (gd : Nat) (m : Int) (h : Hp) (hD : ∀ ms, Cell h ms ⟨gd, 0, none⟩ (.int .i64 m)) (ms : List Hp) : FnV Try.prog 36 ([] ++ [Value.int .i64 b] ++ [Value.pointer (some ⟨gd, 0, none⟩)]).toArray h ms (.bool (decide (m ≤ b))) := by
  refine fun w hw => (?_ : FnV _ _ _ h [] _) w (hw.weaken (Hp.le_refl _) (List.nil_sublist _))
  refine FnT.toV ?_
  show FnT _ _ #[.int .i64 b, .pointer (some ⟨gd, 0, none⟩)] _ _ _
  refine fn_enter Try.func36 Try.ntmps36 rfl rfl (fun w0 hw0 => ?_)
  simp only [argS]
  refine ws_seq ?_
  refine ws_region ?_
  refine wl_x (ox_assign rfl rfl) rfl rfl rfl ?_
  refine wl_nil ?_
  refine nx_then ?_
  refine ws_seq ?_
  refine ws_region ?_
  refine wl_x (ox_move rfl rfl) rfl rfl rfl ?_
  refine wl_x (ox_load rfl Try.underlying3 rfl rfl (by first | exact hD _)) rfl rfl rfl ?_
  refine wl_x (ox_geq rfl rfl rfl) rfl rfl rfl ?_
  refine wl_x (ox_assign rfl rfl) rfl rfl rfl ?_
  refine wl_nil ?_
  refine nx_then ?_
  refine ws_ret ?_
  exact nx_ret1 rfl rfl (rfl)
end Go.Proofs.Ythdkhnjnhhofgaa
