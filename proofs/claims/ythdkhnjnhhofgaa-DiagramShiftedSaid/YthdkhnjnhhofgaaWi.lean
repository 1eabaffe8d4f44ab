/- Walks: the reference's lists. -/
import Derived.Test.YthdkhnjnhhofgaaWh
set_option linter.unusedSimpArgs false
set_option linter.unusedVariables false
set_option maxRecDepth 100000
namespace Go.Proofs.Ythdkhnjnhhofgaa
open Go.Eng Go.RowKit Go.Kuhn

/-- The reference's choice. -/
def Br.chosen (dim : Int) (o : Bool) (b : Br) : Bool := decide (b.dim = dim) && (b.opn == o) && (o || decide (b.birth < b.death))
theorem chosen_ok (l : List Br) (vl : Value) (dim : Int) (o : Bool) (h : Hp) (hR : RdL cBr 6 h [] vl l) (hl : l.length ≤ 1000000000) :
    FnT Try.prog 39 #[vl, .int .i64 dim, .bool o] h [] (fun r h' ms' => ms' = [] ∧ RdL cBr 6 h' [] r (l.filter (Br.chosen dim o))) := by
  refine fn_enter Try.func39 Try.ntmps39 rfl rfl (fun w0 hw0 => ?_)
  simp only [argS]
  refine ws_seq ?_
  refine ws_region ?_
  refine wl_x (ox_assign rfl rfl) rfl rfl rfl ?_
  refine wl_nil ?_
  refine nx_then ?_
  refine ws_seq ?_
  refine ws_region ?_
  refine wl_x (ox_assign rfl rfl) rfl rfl rfl ?_
  refine wl_nil ?_
  refine nx_then ?_
  refine ws_seq ?_
  refine ws_seq ?_
  refine ws_region ?_
  refine wl_x (ox_assign rfl rfl) rfl rfl rfl ?_
  refine wl_nil ?_
  refine nx_then ?_
  refine ws_block ?_
  refine ws_emp ?_
  refine ws_loop (fun n s h' ms' => ∃ (k : Nat) (v : Value) (m : Hp), n = l.length - k ∧ s = [(0, vl), (1, .int .i64 dim), (2, .bool o), (7, v), (8, .int .i64 k)] ∧ h = h' ∧ ms' = [m] ∧ k ≤ l.length ∧ OwnL cBr 6 40 m v ((l.take k).filter (Br.chosen dim o)))
    (l.length - 0) _ ⟨0, _, _, rfl, rfl, rfl, rfl, by omega, OwnL.nil cBr_len⟩ (by repeat (first | exact trivial | refine ⟨rfl, ?_⟩)) ?_
  rintro n s h' ms' ⟨k, v, m, rfl, rfl, rfl, rfl, hk, hO⟩
  have hO2 := hO.own.1
  refine ws_seq ?_
  refine ws_seq ?_
  refine ws_region ?_
  refine wl_x (ox_move rfl rfl) rfl rfl rfl ?_
  refine wl_x (ox_move rfl rfl) rfl rfl rfl ?_
  first | refine wl_x (ox_len (ty := 25) rfl Try.underlying25 rfl) rfl rfl rfl ?_ | refine wl_x (ox_lenR hR.rd.any rfl Try.underlying25 rfl) rfl rfl rfl ?_
  refine wl_x (ox_lss rfl rfl rfl) rfl rfl rfl ?_
  refine wl_nil ?_
  refine nx_then ?_
  refine ws_if rfl (fun hlt => ?_) (fun hlt => ?_)
  · skip
    have hlt' : k < l.length := by omega
    have hts := take_succ_filter l (Br.chosen dim o) k hlt'
    refine ws_skip ?_
    refine nx_then ?_
    refine ws_seq ?_
    refine ws_block ?_
    refine ws_seq ?_
    refine ws_draw 29 fol (by kernel_rfl) rfl ?_
    simp only [List.take_succ_cons, List.take_zero, List.drop_succ_cons, List.drop_zero, List.take_nil, List.drop_nil]
    refine wr_x (ox_move rfl rfl) rfl rfl ?_
    refine wr_x (ox_move rfl rfl) rfl rfl ?_
    first | refine wr_x (ox_index _ rfl Try.underlying25 el40 rfl rfl rfl (by omega)) rfl rfl ?_ | refine wr_x (ox_indexR _ hR.rd.any rfl Try.underlying25 el40 rfl rfl rfl (by omega)) rfl rfl ?_
    refine wr_x (ox_fieldF fd40_0 rfl rfl) rfl rfl ?_
    refine wr_x (ox_load rfl Try.underlying3 rfl rfl (by first | exact hR.any.cell hlt' rfl)) rfl rfl ?_
    refine wr_x (ox_move rfl rfl) rfl rfl ?_
    refine wr_x (ox_eqi rfl rfl rfl) rfl rfl ?_
    refine wr_x (ox_move rfl rfl) rfl rfl ?_
    refine wr_split (t := 22) rfl (fun h1 => ?_) (fun h1 => ?_)
    · skip
      refine wr_gx (ox_move rfl rfl) rfl rfl rfl rfl ?_
      refine wr_gx (ox_move rfl rfl) rfl rfl rfl rfl ?_
      first | refine wr_gx (ox_index _ rfl Try.underlying25 el40 rfl rfl rfl (by omega)) rfl rfl rfl rfl ?_ | refine wr_gx (ox_indexR _ hR.rd.any rfl Try.underlying25 el40 rfl rfl rfl (by omega)) rfl rfl rfl rfl ?_
      refine wr_gx (ox_fieldF fd40_3 rfl rfl) rfl rfl rfl rfl ?_
      refine wr_gx (ox_load rfl Try.underlying4 rfl rfl (by first | exact hR.any.cell hlt' rfl)) rfl rfl rfl rfl ?_
      refine wr_gx (ox_move rfl rfl) rfl rfl rfl rfl ?_
      refine wr_gx (ox_eqb rfl Try.underlying4 rfl rfl) rfl rfl rfl rfl ?_
      refine wr_x (ox_pick_t rfl rfl rfl) rfl rfl ?_
      refine wr_x (ox_move rfl rfl) rfl rfl ?_
      refine wr_split (t := 31) rfl (fun h2 => ?_) (fun h2 => ?_)
      · skip
        refine wr_gx (ox_move rfl rfl) rfl rfl rfl rfl ?_
        refine wr_gx (ox_move rfl rfl) rfl rfl rfl rfl ?_
        refine wr_splitb (t := 33) rfl (fun h3 => ?_) (fun h3 => ?_)
        · skip
          refine wr_skip rfl rfl rfl rfl rfl ?_
          refine wr_skip rfl rfl rfl rfl rfl ?_
          refine wr_skip rfl rfl rfl rfl rfl ?_
          refine wr_skip rfl rfl rfl rfl rfl ?_
          refine wr_skip rfl rfl rfl rfl rfl ?_
          refine wr_skip rfl rfl rfl rfl rfl ?_
          refine wr_skip rfl rfl rfl rfl rfl ?_
          refine wr_skip rfl rfl rfl rfl rfl ?_
          refine wr_skip rfl rfl rfl rfl rfl ?_
          refine wr_skip rfl rfl rfl rfl rfl ?_
          refine wr_nil ?_
          refine wl_skip rfl rfl rfl rfl rfl rfl rfl ?_
          refine wl_gx (ox_pick_t rfl rfl rfl) rfl rfl rfl rfl rfl rfl ?_
          refine wl_x (ox_pick_t rfl rfl rfl) rfl rfl rfl ?_
          refine wl_nil ?_
          refine nx_then ?_
          refine ws_cond_t rfl ?_
          refine ws_region ?_
          refine wl_x (ox_move rfl rfl) rfl rfl rfl ?_
          refine wl_x (ox_move rfl rfl) rfl rfl rfl ?_
          refine wl_x (ox_move rfl rfl) rfl rfl rfl ?_
          first | refine wl_x (ox_index _ rfl Try.underlying25 el40 rfl rfl rfl (by omega)) rfl rfl rfl ?_ | refine wl_x (ox_indexR _ hR.rd.any rfl Try.underlying25 el40 rfl rfl rfl (by omega)) rfl rfl rfl ?_
          refine wl_x (ox_loadG rfl Try.underlying40 rfl el40 rfl rfl (by first | exact hR.any.seg hlt')) rfl rfl rfl ?_
          refine wl_buildSlice1 _ rfl Try.underlying25 el40 rfl (by first | rfl | exact Rd.cells ‹_› | exact (RdL.rd ‹_›).cells) (by first | rfl | simp) rfl (by omega) rfl rfl rfl (fun g52 => ?_)
          have hfl : ((l.take k).filter (Br.chosen dim o)).length ≤ k := Nat.le_trans (List.length_filter_le _ _) (by rw [List.length_take]; omega)
          refine wl_appendL 1 hO (RdL.one cBr_len (List.Mem.head _) rfl) rfl Try.underlying25 el40 rfl (by omega) rfl rfl rfl cBr_one (by simp; omega) (by simp; omega) rfl rfl rfl (fun v' m' hO' => ?_)
          refine wl_x (ox_assign rfl rfl) rfl rfl rfl ?_
          refine wl_nil ?_
          refine nx_block ?_
          refine nx_then ?_
          refine ws_region ?_
          refine wl_x (ox_move rfl rfl) rfl rfl rfl ?_
          refine wl_x (ox_add rfl rfl rfl (by omega)) rfl rfl rfl ?_
          refine wl_x (ox_assign rfl rfl) rfl rfl rfl ?_
          refine wl_nil ?_
          refine nx_drop ?_
          refine nx_round (l.length - (k + 1)) _ (by omega) ⟨k + 1, v', m', rfl, rfl, rfl, rfl, by omega, by rw [hts, if_pos (by simp [Br.chosen, h1, h2, h3])]; exact hO'⟩ (by repeat (first | exact trivial | refine ⟨rfl, ?_⟩))
        · skip
          refine wr_gx (ox_move rfl rfl) rfl rfl rfl rfl ?_
          refine wr_gx (ox_move rfl rfl) rfl rfl rfl rfl ?_
          first | refine wr_gx (ox_index _ rfl Try.underlying25 el40 rfl rfl rfl (by omega)) rfl rfl rfl rfl ?_ | refine wr_gx (ox_indexR _ hR.rd.any rfl Try.underlying25 el40 rfl rfl rfl (by omega)) rfl rfl rfl rfl ?_
          refine wr_gx (ox_fieldF fd40_2 rfl rfl) rfl rfl rfl rfl ?_
          refine wr_gx (ox_load rfl Try.underlying3 rfl rfl (by first | exact hR.any.cell hlt' rfl)) rfl rfl rfl rfl ?_
          refine wr_gx (ox_move rfl rfl) rfl rfl rfl rfl ?_
          refine wr_gx (ox_move rfl rfl) rfl rfl rfl rfl ?_
          first | refine wr_gx (ox_index _ rfl Try.underlying25 el40 rfl rfl rfl (by omega)) rfl rfl rfl rfl ?_ | refine wr_gx (ox_indexR _ hR.rd.any rfl Try.underlying25 el40 rfl rfl rfl (by omega)) rfl rfl rfl rfl ?_
          refine wr_gx (ox_fieldF fd40_1 rfl rfl) rfl rfl rfl rfl ?_
          refine wr_gx (ox_load rfl Try.underlying3 rfl rfl (by first | exact hR.any.cell hlt' rfl)) rfl rfl rfl rfl ?_
          refine wr_nil ?_
          refine wl_gx (ox_gtr rfl rfl rfl) rfl rfl rfl rfl rfl rfl ?_
          refine wl_gx (ox_pick_f rfl rfl rfl) rfl rfl rfl rfl rfl rfl ?_
          refine wl_x (ox_pick_t rfl rfl rfl) rfl rfl rfl ?_
          refine wl_nil ?_
          refine nx_then ?_
          refine ws_if rfl (fun h4 => ?_) (fun h4 => ?_)
          · skip
            refine ws_region ?_
            refine wl_x (ox_move rfl rfl) rfl rfl rfl ?_
            refine wl_x (ox_move rfl rfl) rfl rfl rfl ?_
            refine wl_x (ox_move rfl rfl) rfl rfl rfl ?_
            first | refine wl_x (ox_index _ rfl Try.underlying25 el40 rfl rfl rfl (by omega)) rfl rfl rfl ?_ | refine wl_x (ox_indexR _ hR.rd.any rfl Try.underlying25 el40 rfl rfl rfl (by omega)) rfl rfl rfl ?_
            refine wl_x (ox_loadG rfl Try.underlying40 rfl el40 rfl rfl (by first | exact hR.any.seg hlt')) rfl rfl rfl ?_
            refine wl_buildSlice1 _ rfl Try.underlying25 el40 rfl (by first | rfl | exact Rd.cells ‹_› | exact (RdL.rd ‹_›).cells) (by first | rfl | simp) rfl (by omega) rfl rfl rfl (fun g52 => ?_)
            have hfl : ((l.take k).filter (Br.chosen dim o)).length ≤ k := Nat.le_trans (List.length_filter_le _ _) (by rw [List.length_take]; omega)
            refine wl_appendL 1 hO (RdL.one cBr_len (List.Mem.head _) rfl) rfl Try.underlying25 el40 rfl (by omega) rfl rfl rfl cBr_one (by simp; omega) (by simp; omega) rfl rfl rfl (fun v' m' hO' => ?_)
            refine wl_x (ox_assign rfl rfl) rfl rfl rfl ?_
            refine wl_nil ?_
            refine nx_block ?_
            refine nx_then ?_
            refine ws_region ?_
            refine wl_x (ox_move rfl rfl) rfl rfl rfl ?_
            refine wl_x (ox_add rfl rfl rfl (by omega)) rfl rfl rfl ?_
            refine wl_x (ox_assign rfl rfl) rfl rfl rfl ?_
            refine wl_nil ?_
            refine nx_drop ?_
            refine nx_round (l.length - (k + 1)) _ (by omega) ⟨k + 1, v', m', rfl, rfl, rfl, rfl, by omega, by rw [hts, if_pos (by simp [Br.chosen, h1, h2, h3, h4])]; exact hO'⟩ (by repeat (first | exact trivial | refine ⟨rfl, ?_⟩))
          · skip
            refine ws_skip ?_
            refine nx_block ?_
            refine nx_then ?_
            refine ws_region ?_
            refine wl_x (ox_move rfl rfl) rfl rfl rfl ?_
            refine wl_x (ox_add rfl rfl rfl (by omega)) rfl rfl rfl ?_
            refine wl_x (ox_assign rfl rfl) rfl rfl rfl ?_
            refine wl_nil ?_
            refine nx_round (l.length - (k + 1)) _ (by omega) ⟨k + 1, v, m, rfl, rfl, rfl, rfl, by omega, by rw [hts, if_neg (by simp [Br.chosen, h1, h2, h3]; omega), List.append_nil]; exact hO⟩ (by repeat (first | exact trivial | refine ⟨rfl, ?_⟩))
      · skip
        refine wr_skip rfl rfl rfl rfl rfl ?_
        refine wr_skip rfl rfl rfl rfl rfl ?_
        refine wr_skipu rfl rfl rfl rfl ?_
        refine wr_skipu rfl rfl rfl rfl ?_
        refine wr_skipu rfl rfl rfl rfl ?_
        refine wr_skipu rfl rfl rfl rfl ?_
        refine wr_skipu rfl rfl rfl rfl ?_
        refine wr_skipu rfl rfl rfl rfl ?_
        refine wr_skipu rfl rfl rfl rfl ?_
        refine wr_skipu rfl rfl rfl rfl ?_
        refine wr_skipu rfl rfl rfl rfl ?_
        refine wr_skipu rfl rfl rfl rfl ?_
        refine wr_nil ?_
        refine wl_skipu rfl rfl rfl rfl rfl rfl ?_
        refine wl_skip rfl rfl rfl rfl rfl rfl rfl ?_
        refine wl_x (ox_pick_f rfl rfl rfl) rfl rfl rfl ?_
        refine wl_nil ?_
        refine nx_then ?_
        refine ws_cond_f rfl ?_
        refine ws_skip ?_
        refine nx_block ?_
        refine nx_then ?_
        refine ws_region ?_
        refine wl_x (ox_move rfl rfl) rfl rfl rfl ?_
        refine wl_x (ox_add rfl rfl rfl (by omega)) rfl rfl rfl ?_
        refine wl_x (ox_assign rfl rfl) rfl rfl rfl ?_
        refine wl_nil ?_
        refine nx_round (l.length - (k + 1)) _ (by omega) ⟨k + 1, v, m, rfl, rfl, rfl, rfl, by omega, by rw [hts, if_neg (by simp [Br.chosen, h1, h2]), List.append_nil]; exact hO⟩ (by repeat (first | exact trivial | refine ⟨rfl, ?_⟩))
    · skip
      refine wr_skip rfl rfl rfl rfl rfl ?_
      refine wr_skip rfl rfl rfl rfl rfl ?_
      refine wr_skip rfl rfl rfl rfl rfl ?_
      refine wr_skip rfl rfl rfl rfl rfl ?_
      refine wr_skip rfl rfl rfl rfl rfl ?_
      refine wr_skip rfl rfl rfl rfl rfl ?_
      refine wr_skip rfl rfl rfl rfl rfl ?_
      refine wr_x (ox_pick_f rfl rfl rfl) rfl rfl ?_
      refine wr_x (ox_move rfl rfl) rfl rfl ?_
      refine wr_skip rfl rfl rfl rfl rfl ?_
      refine wr_skip rfl rfl rfl rfl rfl ?_
      refine wr_skipu rfl rfl rfl rfl ?_
      refine wr_skipu rfl rfl rfl rfl ?_
      refine wr_skipu rfl rfl rfl rfl ?_
      refine wr_skipu rfl rfl rfl rfl ?_
      refine wr_skipu rfl rfl rfl rfl ?_
      refine wr_skipu rfl rfl rfl rfl ?_
      refine wr_skipu rfl rfl rfl rfl ?_
      refine wr_skipu rfl rfl rfl rfl ?_
      refine wr_skipu rfl rfl rfl rfl ?_
      refine wr_skipu rfl rfl rfl rfl ?_
      refine wr_nil ?_
      refine wl_skipu rfl rfl rfl rfl rfl rfl ?_
      refine wl_skip rfl rfl rfl rfl rfl rfl rfl ?_
      refine wl_x (ox_pick_f rfl rfl rfl) rfl rfl rfl ?_
      refine wl_nil ?_
      refine nx_then ?_
      refine ws_cond_f rfl ?_
      refine ws_skip ?_
      refine nx_block ?_
      refine nx_then ?_
      refine ws_region ?_
      refine wl_x (ox_move rfl rfl) rfl rfl rfl ?_
      refine wl_x (ox_add rfl rfl rfl (by omega)) rfl rfl rfl ?_
      refine wl_x (ox_assign rfl rfl) rfl rfl rfl ?_
      refine wl_nil ?_
      refine nx_round (l.length - (k + 1)) _ (by omega) ⟨k + 1, v, m, rfl, rfl, rfl, rfl, by omega, by rw [hts, if_neg (by simp [Br.chosen, h1]), List.append_nil]; exact hO⟩ (by repeat (first | exact trivial | refine ⟨rfl, ?_⟩))
  · skip
    refine ws_exit ?_
    refine nx_then_exit ?_
    refine nx_then_exit ?_
    refine nx_block_exit ?_
    refine nx_then ?_
    refine ws_seq ?_
    refine ws_region ?_
    refine wl_x (ox_move rfl rfl) rfl rfl rfl ?_
    refine wl_x (ox_assign rfl rfl) rfl rfl rfl ?_
    refine wl_nil ?_
    refine nx_then ?_
    refine ws_ret ?_
    have hkl : l.take k = l := List.take_of_length_le (by omega)
    rw [hkl] at hO
    refine nx_freezeL hO (fun h' hle hR' => ?_)
    exact nx_ret1 rfl rfl (⟨rfl, hR'⟩)
end Go.Proofs.Ythdkhnjnhhofgaa
