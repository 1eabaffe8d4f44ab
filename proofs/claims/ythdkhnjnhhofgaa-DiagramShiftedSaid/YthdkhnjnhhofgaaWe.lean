/- Walks: a possible cost. -/
import Derived.Test.YthdkhnjnhhofgaaWd
import Derived.Test.YthdkhnjnhhofgaaKm
set_option linter.unusedSimpArgs false
set_option linter.unusedVariables false
set_option maxRecDepth 100000
namespace Go.Proofs.Ythdkhnjnhhofgaa
open Go.Eng Go.RowKit Go.Kuhn

def fitsD (la lb : List Br) (cost : Int) (i k : Nat) : Bool :=
  if h : i < la.length ∧ k < lb.length then decide ((la[i]'h.1).apart (lb[k]'h.2) ≤ cost)
  else if h : i < la.length then decide (la[i].len ≤ cost)
  else if h : k < lb.length then decide (lb[k].len ≤ cost) else true

theorem fits_ok (la lb : List Br) (va vb : Value) (ga gb gc : Nat) (cost : Int) (h : Hp) (hRa : RdL cBr 6 h [] va la) (hRb : RdL cBr 6 h [] vb lb) (hla : la.length ≤ 1000000) (hlb : lb.length ≤ 1000000) (hA : ∀ b ∈ la, BOk b) (hB : ∀ b ∈ lb, BOk b)
    (ca : Cell h [] ⟨ga, 0, none⟩ va) (cb : Cell h [] ⟨gb, 0, none⟩ vb) (cc : Cell h [] ⟨gc, 0, none⟩ (.int .i64 cost)) (i k : Nat) {i' k' : Int} (ei : i' = i) (ek : k' = k) (ms : List Hp) :
    FnV Try.prog 48 ([] ++ [Value.int .i64 i', .int .i64 k'] ++ [Value.pointer (some ⟨ga, 0, none⟩), .pointer (some ⟨gb, 0, none⟩), .pointer (some ⟨gc, 0, none⟩)]).toArray h ms (.bool (fitsD la lb cost i k)) := by
  subst ei ek
  refine fun w hw => (?_ : FnV _ _ _ h [] _) w (hw.weaken (Hp.le_refl _) (List.nil_sublist _))
  refine FnT.toV ?_
  show FnT _ _ #[.int .i64 (i : Int), .int .i64 (k : Int), .pointer (some ⟨ga, 0, none⟩), .pointer (some ⟨gb, 0, none⟩), .pointer (some ⟨gc, 0, none⟩)] _ _ _
  refine fn_enter Try.func48 Try.ntmps48 rfl rfl (fun w0 hw0 => ?_)
  simp only [argS]
  refine ws_seq ?_
  refine ws_region ?_
  refine wl_x (ox_assign rfl rfl) rfl rfl rfl ?_
  refine wl_nil ?_
  refine nx_then ?_
  refine ws_seq ?_
  refine ws_block ?_
  refine ws_seq ?_
  refine ws_region ?_
  refine wl_x (ox_move rfl rfl) rfl rfl rfl ?_
  refine wl_x (ox_load rfl Try.underlying25 rfl rfl (by first | exact ca | exact cb | exact cc)) rfl rfl rfl ?_
  first | refine wl_x (ox_len (ty := 25) rfl Try.underlying25 rfl) rfl rfl rfl ?_ | refine wl_x (ox_lenR hRa.rd rfl Try.underlying25 rfl) rfl rfl rfl ?_ | refine wl_x (ox_lenR hRb.rd rfl Try.underlying25 rfl) rfl rfl rfl ?_
  refine wl_x (ox_lss rfl rfl rfl) rfl rfl rfl ?_
  refine wl_x (ox_move rfl rfl) rfl rfl rfl ?_
  refine wl_split (t := 13) rfl (fun h1 => ?_) (fun h1 => ?_)
  · skip
    refine wl_gx (ox_move rfl rfl) rfl rfl rfl rfl rfl rfl ?_
    refine wl_gx (ox_load rfl Try.underlying25 rfl rfl (by first | exact ca | exact cb | exact cc)) rfl rfl rfl rfl rfl rfl ?_
    first | refine wl_gx (ox_len (ty := 25) rfl Try.underlying25 rfl) rfl rfl rfl rfl rfl rfl ?_ | refine wl_gx (ox_lenR hRa.rd rfl Try.underlying25 rfl) rfl rfl rfl rfl rfl rfl ?_ | refine wl_gx (ox_lenR hRb.rd rfl Try.underlying25 rfl) rfl rfl rfl rfl rfl rfl ?_
    refine wl_gx (ox_lss rfl rfl rfl) rfl rfl rfl rfl rfl rfl ?_
    refine wl_x (ox_pick_t rfl rfl rfl) rfl rfl rfl ?_
    refine wl_x (ox_assign rfl rfl) rfl rfl rfl ?_
    refine wl_nil ?_
    refine nx_then ?_
    refine ws_if rfl (fun h2 => ?_) (fun h2 => ?_)
    · skip
      have h1' : i < la.length := by omega
      have h2' : k < lb.length := by omega
      refine ws_seq ?_
      refine ws_draw 10 fol (by kernel_rfl) rfl ?_
      simp only [List.take_succ_cons, List.take_zero, List.drop_succ_cons, List.drop_zero, List.take_nil, List.drop_nil]
      refine wr_x (ox_load rfl Try.underlying25 rfl rfl (by first | exact ca | exact cb | exact cc)) rfl rfl ?_
      refine wr_x (ox_move rfl rfl) rfl rfl ?_
      first | refine wr_x (ox_index i rfl Try.underlying25 el40 rfl rfl (by omega) (by omega)) rfl rfl ?_ | refine wr_x (ox_indexR i hRa.rd rfl Try.underlying25 el40 rfl rfl (by omega) (by omega)) rfl rfl ?_ | refine wr_x (ox_indexR i hRb.rd rfl Try.underlying25 el40 rfl rfl (by omega) (by omega)) rfl rfl ?_
      refine wr_x (ox_loadG rfl Try.underlying40 rfl el40 rfl rfl (by first | exact hRa.seg h1' | exact hRb.seg h2')) rfl rfl ?_
      refine wr_x (ox_load rfl Try.underlying25 rfl rfl (by first | exact ca | exact cb | exact cc)) rfl rfl ?_
      refine wr_x (ox_move rfl rfl) rfl rfl ?_
      first | refine wr_x (ox_index k rfl Try.underlying25 el40 rfl rfl (by omega) (by omega)) rfl rfl ?_ | refine wr_x (ox_indexR k hRa.rd rfl Try.underlying25 el40 rfl rfl (by omega) (by omega)) rfl rfl ?_ | refine wr_x (ox_indexR k hRb.rd rfl Try.underlying25 el40 rfl rfl (by omega) (by omega)) rfl rfl ?_
      refine wr_x (ox_loadG rfl Try.underlying40 rfl el40 rfl rfl (by first | exact hRa.seg h1' | exact hRb.seg h2')) rfl rfl ?_
      refine wr_x (ox_call rfl Try.call33 rfl (apart_ok _ _ (hA _ (List.getElem_mem h1')) (hB _ (List.getElem_mem h2')) _ _)) rfl rfl ?_
      refine wr_x (ox_load rfl Try.underlying3 rfl rfl (by first | exact ca | exact cb | exact cc)) rfl rfl ?_
      refine wr_nil ?_
      refine wl_x (ox_leq rfl rfl rfl) rfl rfl rfl ?_
      refine wl_x (ox_assign rfl rfl) rfl rfl rfl ?_
      refine wl_nil ?_
      refine nx_then ?_
      refine ws_ret ?_
      refine nx_block_ret ?_
      refine nx_then_ret ?_
      exact nx_ret1 rfl rfl (by unfold fitsD; rw [dif_pos ⟨h1', h2'⟩])
    · skip
      have h1' : i < la.length := by omega
      refine ws_seq ?_
      refine ws_region ?_
      refine wl_x (ox_move rfl rfl) rfl rfl rfl ?_
      refine wl_x (ox_load rfl Try.underlying25 rfl rfl (by first | exact ca | exact cb | exact cc)) rfl rfl rfl ?_
      first | refine wl_x (ox_len (ty := 25) rfl Try.underlying25 rfl) rfl rfl rfl ?_ | refine wl_x (ox_lenR hRa.rd rfl Try.underlying25 rfl) rfl rfl rfl ?_ | refine wl_x (ox_lenR hRb.rd rfl Try.underlying25 rfl) rfl rfl rfl ?_
      refine wl_x (ox_lss rfl rfl rfl) rfl rfl rfl ?_
      refine wl_x (ox_assign rfl rfl) rfl rfl rfl ?_
      refine wl_nil ?_
      refine nx_then ?_
      refine ws_if rfl (fun hc => ?_) (fun hc => absurd (h1) hc)
      refine ws_seq ?_
      refine ws_draw 6 fol (by kernel_rfl) rfl ?_
      simp only [List.take_succ_cons, List.take_zero, List.drop_succ_cons, List.drop_zero, List.take_nil, List.drop_nil]
      refine wr_x (ox_load rfl Try.underlying25 rfl rfl (by first | exact ca | exact cb | exact cc)) rfl rfl ?_
      refine wr_x (ox_move rfl rfl) rfl rfl ?_
      first | refine wr_x (ox_index i rfl Try.underlying25 el40 rfl rfl (by omega) (by omega)) rfl rfl ?_ | refine wr_x (ox_indexR i hRa.rd rfl Try.underlying25 el40 rfl rfl (by omega) (by omega)) rfl rfl ?_ | refine wr_x (ox_indexR i hRb.rd rfl Try.underlying25 el40 rfl rfl (by omega) (by omega)) rfl rfl ?_
      refine wr_x (ox_loadG rfl Try.underlying40 rfl el40 rfl rfl (by first | exact hRa.seg h1')) rfl rfl ?_
      refine wr_x (ox_call rfl Try.call32 rfl (length_ok _ (hA _ (List.getElem_mem h1')) _ _)) rfl rfl ?_
      refine wr_x (ox_load rfl Try.underlying3 rfl rfl (by first | exact ca | exact cb | exact cc)) rfl rfl ?_
      refine wr_nil ?_
      refine wl_x (ox_leq rfl rfl rfl) rfl rfl rfl ?_
      refine wl_x (ox_assign rfl rfl) rfl rfl rfl ?_
      refine wl_nil ?_
      refine nx_then ?_
      refine ws_ret ?_
      refine nx_block_ret ?_
      refine nx_then_ret ?_
      exact nx_ret1 rfl rfl (by unfold fitsD; rw [dif_neg (by omega), dif_pos h1'])
  · skip
    refine wl_skip rfl rfl rfl rfl rfl rfl rfl ?_
    refine wl_skip rfl rfl rfl rfl rfl rfl rfl ?_
    refine wl_skip rfl rfl rfl rfl rfl rfl rfl ?_
    refine wl_skip rfl rfl rfl rfl rfl rfl rfl ?_
    refine wl_x (ox_pick_f rfl rfl rfl) rfl rfl rfl ?_
    refine wl_x (ox_assign rfl rfl) rfl rfl rfl ?_
    refine wl_nil ?_
    refine nx_then ?_
    refine ws_cond_f rfl ?_
    refine ws_seq ?_
    refine ws_region ?_
    refine wl_x (ox_move rfl rfl) rfl rfl rfl ?_
    refine wl_x (ox_load rfl Try.underlying25 rfl rfl (by first | exact ca | exact cb | exact cc)) rfl rfl rfl ?_
    first | refine wl_x (ox_len (ty := 25) rfl Try.underlying25 rfl) rfl rfl rfl ?_ | refine wl_x (ox_lenR hRa.rd rfl Try.underlying25 rfl) rfl rfl rfl ?_ | refine wl_x (ox_lenR hRb.rd rfl Try.underlying25 rfl) rfl rfl rfl ?_
    refine wl_x (ox_lss rfl rfl rfl) rfl rfl rfl ?_
    refine wl_x (ox_assign rfl rfl) rfl rfl rfl ?_
    refine wl_nil ?_
    refine nx_then ?_
    refine ws_if rfl (fun hc => absurd hc (h1)) (fun hc => ?_)
    refine ws_seq ?_
    refine ws_region ?_
    refine wl_x (ox_move rfl rfl) rfl rfl rfl ?_
    refine wl_x (ox_load rfl Try.underlying25 rfl rfl (by first | exact ca | exact cb | exact cc)) rfl rfl rfl ?_
    first | refine wl_x (ox_len (ty := 25) rfl Try.underlying25 rfl) rfl rfl rfl ?_ | refine wl_x (ox_lenR hRa.rd rfl Try.underlying25 rfl) rfl rfl rfl ?_ | refine wl_x (ox_lenR hRb.rd rfl Try.underlying25 rfl) rfl rfl rfl ?_
    refine wl_x (ox_lss rfl rfl rfl) rfl rfl rfl ?_
    refine wl_x (ox_assign rfl rfl) rfl rfl rfl ?_
    refine wl_nil ?_
    refine nx_then ?_
    refine ws_if rfl (fun h3 => ?_) (fun h3 => ?_)
    · skip
      have h3' : k < lb.length := by omega
      refine ws_seq ?_
      refine ws_draw 6 fol (by kernel_rfl) rfl ?_
      simp only [List.take_succ_cons, List.take_zero, List.drop_succ_cons, List.drop_zero, List.take_nil, List.drop_nil]
      refine wr_x (ox_load rfl Try.underlying25 rfl rfl (by first | exact ca | exact cb | exact cc)) rfl rfl ?_
      refine wr_x (ox_move rfl rfl) rfl rfl ?_
      first | refine wr_x (ox_index k rfl Try.underlying25 el40 rfl rfl (by omega) (by omega)) rfl rfl ?_ | refine wr_x (ox_indexR k hRa.rd rfl Try.underlying25 el40 rfl rfl (by omega) (by omega)) rfl rfl ?_ | refine wr_x (ox_indexR k hRb.rd rfl Try.underlying25 el40 rfl rfl (by omega) (by omega)) rfl rfl ?_
      refine wr_x (ox_loadG rfl Try.underlying40 rfl el40 rfl rfl (by first | exact hRb.seg h3')) rfl rfl ?_
      refine wr_x (ox_call rfl Try.call32 rfl (length_ok _ (hB _ (List.getElem_mem h3')) _ _)) rfl rfl ?_
      refine wr_x (ox_load rfl Try.underlying3 rfl rfl (by first | exact ca | exact cb | exact cc)) rfl rfl ?_
      refine wr_nil ?_
      refine wl_x (ox_leq rfl rfl rfl) rfl rfl rfl ?_
      refine wl_x (ox_assign rfl rfl) rfl rfl rfl ?_
      refine wl_nil ?_
      refine nx_then ?_
      refine ws_ret ?_
      refine nx_block_ret ?_
      refine nx_then_ret ?_
      exact nx_ret1 rfl rfl (by unfold fitsD; rw [dif_neg (by omega), dif_neg (by omega), dif_pos h3'])
    · skip
      refine ws_skip ?_
      refine nx_block ?_
      refine nx_then ?_
      refine ws_seq ?_
      refine ws_region ?_
      refine wl_x (ox_assign rfl rfl) rfl rfl rfl ?_
      refine wl_nil ?_
      refine nx_then ?_
      refine ws_ret ?_
      exact nx_ret1 rfl rfl (by unfold fitsD; rw [dif_neg (by omega), dif_neg (by omega), dif_neg (by omega)])
end Go.Proofs.Ythdkhnjnhhofgaa
