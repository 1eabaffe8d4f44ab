/- Walks: the reference's lists. -/
import Derived.Test.YthdkhnjnhhofgaaWA
import Derived.Test.YthdkhnjnhhofgaaEB
import Derived.Test.YthdkhnjnhhofgaaKa
set_option linter.unusedSimpArgs false
set_option linter.unusedVariables false
set_option maxRecDepth 100000
namespace Go.Proofs.Ythdkhnjnhhofgaa
open Go.Eng Go.RowKit Go.Kuhn

/-- The reference's choice. -/
def Br.chosen (dim : Int) (o : Bool) (b : Br) : Bool := decide (b.dim = dim) && (b.opn == o) && (o || decide (b.birth < b.death))
theorem chosen_ok (l : List Br) (vl : Value) (dim : Int) (o : Bool) (h : Hp) (hR : RdL cBr 6 h [] vl l) (hl : l.length ≤ 1000000000) :
    FnT Try.prog 39 #[vl, .int .i64 dim, .bool o] h [] (fun r h' ms' => ms' = [] ∧ RdL cBr 6 h' [] r (l.filter (Br.chosen dim o))) := by
  refine fn_enter Try.func39 Try.ntmps39 rfl rfl (fun w0 hw0 => ?_)
  simp only [argS]
  refine ws_seq ?_
  refine ws_region ?_
  refine wl_x (ox_assign rfl rfl) rfl rfl rfl ?_
  refine wl_nil ?_
  refine nx_then ?_
  refine ws_seq ?_
  refine ws_region ?_
  refine wl_x (ox_assign rfl rfl) rfl rfl rfl ?_
  refine wl_nil ?_
  refine nx_then ?_
  refine ws_seq ?_
  refine ws_seq ?_
  refine ws_region ?_
  refine wl_x (ox_assign rfl rfl) rfl rfl rfl ?_
  refine wl_nil ?_
  refine nx_then ?_
  refine ws_block ?_
  refine ws_emp ?_
  refine ws_loop (fun n s h' ms' => ∃ (k : Nat) (v : Value) (m : Hp), n = l.length - k ∧ s = [(0, vl), (1, .int .i64 dim), (2, .bool o), (7, v), (8, .int .i64 k)] ∧ h = h' ∧ ms' = [m] ∧ k ≤ l.length ∧ OwnL cBr 6 40 m v ((l.take k).filter (Br.chosen dim o)))
    (l.length - 0) _ ⟨0, _, _, rfl, rfl, rfl, rfl, by omega, OwnL.nil cBr_len⟩ (by repeat (first | exact trivial | refine ⟨rfl, ?_⟩)) ?_
  rintro n s h' ms' ⟨k, v, m, rfl, rfl, rfl, rfl, hk, hO⟩
  have hO2 := hO.own.1
  refine ws_seq ?_
  refine ws_seq ?_
  refine ws_region ?_
  refine wl_x (ox_move rfl rfl) rfl rfl rfl ?_
  refine wl_x (ox_move rfl rfl) rfl rfl rfl ?_
  first | refine wl_x (ox_len (ty := 25) rfl Try.underlying25 rfl) rfl rfl rfl ?_ | refine wl_x (ox_lenR hR.rd.any rfl Try.underlying25 rfl) rfl rfl rfl ?_
  refine wl_x (ox_lss rfl rfl rfl) rfl rfl rfl ?_
  refine wl_nil ?_
  refine nx_then ?_
  refine ws_if rfl (fun hlt => ?_) (fun hlt => ?_)
  · skip
    have hlt' : k < l.length := by omega
    have hts := take_succ_filter l (Br.chosen dim o) k hlt'
    refine ws_skip ?_
    refine nx_then ?_
    refine ws_seq ?_
    refine ws_block ?_
    refine ws_seq ?_
    refine ws_draw 29 fol (by kernel_rfl) rfl ?_
    simp only [List.take_succ_cons, List.take_zero, List.drop_succ_cons, List.drop_zero, List.take_nil, List.drop_nil]
    refine wr_x (ox_move rfl rfl) rfl rfl ?_
    refine wr_x (ox_move rfl rfl) rfl rfl ?_
    first | refine wr_x (ox_index _ rfl Try.underlying25 el40 rfl rfl rfl (by omega)) rfl rfl ?_ | refine wr_x (ox_indexR _ hR.rd.any rfl Try.underlying25 el40 rfl rfl rfl (by omega)) rfl rfl ?_
    refine wr_x (ox_fieldF fd40_0 rfl rfl) rfl rfl ?_
    refine wr_x (ox_load rfl Try.underlying3 rfl rfl (by first | exact hR.any.cell hlt' rfl)) rfl rfl ?_
    refine wr_x (ox_move rfl rfl) rfl rfl ?_
    refine wr_x (ox_eqi rfl rfl rfl) rfl rfl ?_
    refine wr_x (ox_move rfl rfl) rfl rfl ?_
    refine wr_split (t := 22) rfl (fun h1 => ?_) (fun h1 => ?_)
    · skip
      refine wr_gx (ox_move rfl rfl) rfl rfl rfl rfl ?_
      refine wr_gx (ox_move rfl rfl) rfl rfl rfl rfl ?_
      first | refine wr_gx (ox_index _ rfl Try.underlying25 el40 rfl rfl rfl (by omega)) rfl rfl rfl rfl ?_ | refine wr_gx (ox_indexR _ hR.rd.any rfl Try.underlying25 el40 rfl rfl rfl (by omega)) rfl rfl rfl rfl ?_
      refine wr_gx (ox_fieldF fd40_3 rfl rfl) rfl rfl rfl rfl ?_
      refine wr_gx (ox_load rfl Try.underlying4 rfl rfl (by first | exact hR.any.cell hlt' rfl)) rfl rfl rfl rfl ?_
      refine wr_gx (ox_move rfl rfl) rfl rfl rfl rfl ?_
      refine wr_gx (ox_eqb rfl Try.underlying4 rfl rfl) rfl rfl rfl rfl ?_
      refine wr_x (ox_pick_t rfl rfl rfl) rfl rfl ?_
      refine wr_x (ox_move rfl rfl) rfl rfl ?_
      refine wr_split (t := 31) rfl (fun h2 => ?_) (fun h2 => ?_)
      · skip
        refine wr_gx (ox_move rfl rfl) rfl rfl rfl rfl ?_
        refine wr_gx (ox_move rfl rfl) rfl rfl rfl rfl ?_
        refine wr_splitb (t := 33) rfl (fun h3 => ?_) (fun h3 => ?_)
        · skip
          refine wr_skip rfl rfl rfl rfl rfl ?_
          refine wr_skip rfl rfl rfl rfl rfl ?_
          refine wr_skip rfl rfl rfl rfl rfl ?_
          refine wr_skip rfl rfl rfl rfl rfl ?_
          refine wr_skip rfl rfl rfl rfl rfl ?_
          refine wr_skip rfl rfl rfl rfl rfl ?_
          refine wr_skip rfl rfl rfl rfl rfl ?_
          refine wr_skip rfl rfl rfl rfl rfl ?_
          refine wr_skip rfl rfl rfl rfl rfl ?_
          refine wr_skip rfl rfl rfl rfl rfl ?_
          refine wr_nil ?_
          refine wl_skip rfl rfl rfl rfl rfl rfl rfl ?_
          refine wl_gx (ox_pick_t rfl rfl rfl) rfl rfl rfl rfl rfl rfl ?_
          refine wl_x (ox_pick_t rfl rfl rfl) rfl rfl rfl ?_
          refine wl_nil ?_
          refine nx_then ?_
          refine ws_cond_t rfl ?_
          refine ws_region ?_
          refine wl_x (ox_move rfl rfl) rfl rfl rfl ?_
          refine wl_x (ox_move rfl rfl) rfl rfl rfl ?_
          refine wl_x (ox_move rfl rfl) rfl rfl rfl ?_
          first | refine wl_x (ox_index _ rfl Try.underlying25 el40 rfl rfl rfl (by omega)) rfl rfl rfl ?_ | refine wl_x (ox_indexR _ hR.rd.any rfl Try.underlying25 el40 rfl rfl rfl (by omega)) rfl rfl rfl ?_
          refine wl_x (ox_loadG rfl Try.underlying40 rfl el40 rfl rfl (by first | exact hR.any.seg hlt')) rfl rfl rfl ?_
          refine wl_buildSlice1 _ rfl Try.underlying25 el40 rfl (by first | rfl | exact (hR.rd.any).cells | exact Rd.cells ‹_› | exact (RdL.rd ‹_›).cells) (by first | rfl | simp) rfl (by omega) rfl rfl rfl (fun g52 => ?_)
          have hfl : ((l.take k).filter (Br.chosen dim o)).length ≤ k := Nat.le_trans (List.length_filter_le _ _) (by rw [List.length_take]; omega)
          refine wl_appendL 1 hO (RdL.one cBr_len (List.Mem.head _) rfl) rfl Try.underlying25 el40 rfl (by omega) rfl rfl rfl cBr_one (by simp; omega) (by simp; omega) rfl rfl rfl (fun v' m' hO' => ?_)
          refine wl_x (ox_assign rfl rfl) rfl rfl rfl ?_
          refine wl_nil ?_
          refine nx_block ?_
          refine nx_then ?_
          refine ws_region ?_
          refine wl_x (ox_move rfl rfl) rfl rfl rfl ?_
          refine wl_x (ox_add rfl rfl rfl (by omega)) rfl rfl rfl ?_
          refine wl_x (ox_assign rfl rfl) rfl rfl rfl ?_
          refine wl_nil ?_
          refine nx_drop ?_
          refine nx_round (l.length - (k + 1)) _ (by omega) ⟨k + 1, v', m', rfl, rfl, rfl, rfl, by omega, by rw [hts, if_pos (by simp [Br.chosen, h1, h2, h3])]; exact hO'⟩ (by repeat (first | exact trivial | refine ⟨rfl, ?_⟩))
        · skip
          refine wr_gx (ox_move rfl rfl) rfl rfl rfl rfl ?_
          refine wr_gx (ox_move rfl rfl) rfl rfl rfl rfl ?_
          first | refine wr_gx (ox_index _ rfl Try.underlying25 el40 rfl rfl rfl (by omega)) rfl rfl rfl rfl ?_ | refine wr_gx (ox_indexR _ hR.rd.any rfl Try.underlying25 el40 rfl rfl rfl (by omega)) rfl rfl rfl rfl ?_
          refine wr_gx (ox_fieldF fd40_2 rfl rfl) rfl rfl rfl rfl ?_
          refine wr_gx (ox_load rfl Try.underlying3 rfl rfl (by first | exact hR.any.cell hlt' rfl)) rfl rfl rfl rfl ?_
          refine wr_gx (ox_move rfl rfl) rfl rfl rfl rfl ?_
          refine wr_gx (ox_move rfl rfl) rfl rfl rfl rfl ?_
          first | refine wr_gx (ox_index _ rfl Try.underlying25 el40 rfl rfl rfl (by omega)) rfl rfl rfl rfl ?_ | refine wr_gx (ox_indexR _ hR.rd.any rfl Try.underlying25 el40 rfl rfl rfl (by omega)) rfl rfl rfl rfl ?_
          refine wr_gx (ox_fieldF fd40_1 rfl rfl) rfl rfl rfl rfl ?_
          refine wr_gx (ox_load rfl Try.underlying3 rfl rfl (by first | exact hR.any.cell hlt' rfl)) rfl rfl rfl rfl ?_
          refine wr_nil ?_
          refine wl_gx (ox_gtr rfl rfl rfl) rfl rfl rfl rfl rfl rfl ?_
          refine wl_gx (ox_pick_f rfl rfl rfl) rfl rfl rfl rfl rfl rfl ?_
          refine wl_x (ox_pick_t rfl rfl rfl) rfl rfl rfl ?_
          refine wl_nil ?_
          refine nx_then ?_
          refine ws_if rfl (fun h4 => ?_) (fun h4 => ?_)
          · skip
            refine ws_region ?_
            refine wl_x (ox_move rfl rfl) rfl rfl rfl ?_
            refine wl_x (ox_move rfl rfl) rfl rfl rfl ?_
            refine wl_x (ox_move rfl rfl) rfl rfl rfl ?_
            first | refine wl_x (ox_index _ rfl Try.underlying25 el40 rfl rfl rfl (by omega)) rfl rfl rfl ?_ | refine wl_x (ox_indexR _ hR.rd.any rfl Try.underlying25 el40 rfl rfl rfl (by omega)) rfl rfl rfl ?_
            refine wl_x (ox_loadG rfl Try.underlying40 rfl el40 rfl rfl (by first | exact hR.any.seg hlt')) rfl rfl rfl ?_
            refine wl_buildSlice1 _ rfl Try.underlying25 el40 rfl (by first | rfl | exact (hR.rd.any).cells | exact Rd.cells ‹_› | exact (RdL.rd ‹_›).cells) (by first | rfl | simp) rfl (by omega) rfl rfl rfl (fun g52 => ?_)
            have hfl : ((l.take k).filter (Br.chosen dim o)).length ≤ k := Nat.le_trans (List.length_filter_le _ _) (by rw [List.length_take]; omega)
            refine wl_appendL 1 hO (RdL.one cBr_len (List.Mem.head _) rfl) rfl Try.underlying25 el40 rfl (by omega) rfl rfl rfl cBr_one (by simp; omega) (by simp; omega) rfl rfl rfl (fun v' m' hO' => ?_)
            refine wl_x (ox_assign rfl rfl) rfl rfl rfl ?_
            refine wl_nil ?_
            refine nx_block ?_
            refine nx_then ?_
            refine ws_region ?_
            refine wl_x (ox_move rfl rfl) rfl rfl rfl ?_
            refine wl_x (ox_add rfl rfl rfl (by omega)) rfl rfl rfl ?_
            refine wl_x (ox_assign rfl rfl) rfl rfl rfl ?_
            refine wl_nil ?_
            refine nx_drop ?_
            refine nx_round (l.length - (k + 1)) _ (by omega) ⟨k + 1, v', m', rfl, rfl, rfl, rfl, by omega, by rw [hts, if_pos (by simp [Br.chosen, h1, h2, h3, h4])]; exact hO'⟩ (by repeat (first | exact trivial | refine ⟨rfl, ?_⟩))
          · skip
            refine ws_skip ?_
            refine nx_block ?_
            refine nx_then ?_
            refine ws_region ?_
            refine wl_x (ox_move rfl rfl) rfl rfl rfl ?_
            refine wl_x (ox_add rfl rfl rfl (by omega)) rfl rfl rfl ?_
            refine wl_x (ox_assign rfl rfl) rfl rfl rfl ?_
            refine wl_nil ?_
            refine nx_round (l.length - (k + 1)) _ (by omega) ⟨k + 1, v, m, rfl, rfl, rfl, rfl, by omega, by rw [hts, if_neg (by simp [Br.chosen, h1, h2, h3]; omega), List.append_nil]; exact hO⟩ (by repeat (first | exact trivial | refine ⟨rfl, ?_⟩))
      · skip
        refine wr_skip rfl rfl rfl rfl rfl ?_
        refine wr_skip rfl rfl rfl rfl rfl ?_
        refine wr_skipu rfl rfl rfl rfl ?_
        refine wr_skipu rfl rfl rfl rfl ?_
        refine wr_skipu rfl rfl rfl rfl ?_
        refine wr_skipu rfl rfl rfl rfl ?_
        refine wr_skipu rfl rfl rfl rfl ?_
        refine wr_skipu rfl rfl rfl rfl ?_
        refine wr_skipu rfl rfl rfl rfl ?_
        refine wr_skipu rfl rfl rfl rfl ?_
        refine wr_skipu rfl rfl rfl rfl ?_
        refine wr_skipu rfl rfl rfl rfl ?_
        refine wr_nil ?_
        refine wl_skipu rfl rfl rfl rfl rfl rfl ?_
        refine wl_skip rfl rfl rfl rfl rfl rfl rfl ?_
        refine wl_x (ox_pick_f rfl rfl rfl) rfl rfl rfl ?_
        refine wl_nil ?_
        refine nx_then ?_
        refine ws_cond_f rfl ?_
        refine ws_skip ?_
        refine nx_block ?_
        refine nx_then ?_
        refine ws_region ?_
        refine wl_x (ox_move rfl rfl) rfl rfl rfl ?_
        refine wl_x (ox_add rfl rfl rfl (by omega)) rfl rfl rfl ?_
        refine wl_x (ox_assign rfl rfl) rfl rfl rfl ?_
        refine wl_nil ?_
        refine nx_round (l.length - (k + 1)) _ (by omega) ⟨k + 1, v, m, rfl, rfl, rfl, rfl, by omega, by rw [hts, if_neg (by simp [Br.chosen, h1, h2]), List.append_nil]; exact hO⟩ (by repeat (first | exact trivial | refine ⟨rfl, ?_⟩))
    · skip
      refine wr_skip rfl rfl rfl rfl rfl ?_
      refine wr_skip rfl rfl rfl rfl rfl ?_
      refine wr_skip rfl rfl rfl rfl rfl ?_
      refine wr_skip rfl rfl rfl rfl rfl ?_
      refine wr_skip rfl rfl rfl rfl rfl ?_
      refine wr_skip rfl rfl rfl rfl rfl ?_
      refine wr_skip rfl rfl rfl rfl rfl ?_
      refine wr_x (ox_pick_f rfl rfl rfl) rfl rfl ?_
      refine wr_x (ox_move rfl rfl) rfl rfl ?_
      refine wr_skip rfl rfl rfl rfl rfl ?_
      refine wr_skip rfl rfl rfl rfl rfl ?_
      refine wr_skipu rfl rfl rfl rfl ?_
      refine wr_skipu rfl rfl rfl rfl ?_
      refine wr_skipu rfl rfl rfl rfl ?_
      refine wr_skipu rfl rfl rfl rfl ?_
      refine wr_skipu rfl rfl rfl rfl ?_
      refine wr_skipu rfl rfl rfl rfl ?_
      refine wr_skipu rfl rfl rfl rfl ?_
      refine wr_skipu rfl rfl rfl rfl ?_
      refine wr_skipu rfl rfl rfl rfl ?_
      refine wr_skipu rfl rfl rfl rfl ?_
      refine wr_nil ?_
      refine wl_skipu rfl rfl rfl rfl rfl rfl ?_
      refine wl_skip rfl rfl rfl rfl rfl rfl rfl ?_
      refine wl_x (ox_pick_f rfl rfl rfl) rfl rfl rfl ?_
      refine wl_nil ?_
      refine nx_then ?_
      refine ws_cond_f rfl ?_
      refine ws_skip ?_
      refine nx_block ?_
      refine nx_then ?_
      refine ws_region ?_
      refine wl_x (ox_move rfl rfl) rfl rfl rfl ?_
      refine wl_x (ox_add rfl rfl rfl (by omega)) rfl rfl rfl ?_
      refine wl_x (ox_assign rfl rfl) rfl rfl rfl ?_
      refine wl_nil ?_
      refine nx_round (l.length - (k + 1)) _ (by omega) ⟨k + 1, v, m, rfl, rfl, rfl, rfl, by omega, by rw [hts, if_neg (by simp [Br.chosen, h1]), List.append_nil]; exact hO⟩ (by repeat (first | exact trivial | refine ⟨rfl, ?_⟩))
  · skip
    refine ws_exit ?_
    refine nx_then_exit ?_
    refine nx_then_exit ?_
    refine nx_block_exit ?_
    refine nx_then ?_
    refine ws_seq ?_
    refine ws_region ?_
    refine wl_x (ox_move rfl rfl) rfl rfl rfl ?_
    refine wl_x (ox_assign rfl rfl) rfl rfl rfl ?_
    refine wl_nil ?_
    refine nx_then ?_
    refine ws_ret ?_
    have hkl : l.take k = l := List.take_of_length_le (by omega)
    rw [hkl] at hO
    refine nx_freezeL hO (fun h' hle hR' => ?_)
    exact nx_ret1 rfl rfl (⟨rfl, hR'⟩)
end Go.Proofs.Ythdkhnjnhhofgaa

/- Walks: the reference's search for a partner. -/
set_option linter.unusedSimpArgs false
set_option linter.unusedVariables false
set_option maxRecDepth 100000
namespace Go.Proofs.Ythdkhnjnhhofgaa
open Go.Eng Go.RowKit Go.Kuhn

def fitsR (la lb : List Br) (cost : Int) (i k : Nat) : Bool := if h : i < la.length ∧ k < lb.length then decide ((la[i]'h.1).apart (lb[k]'h.2) ≤ cost) else false

theorem search_ok (la lb : List Br) (va vb : Value) (cost : Int) (h : Hp) (hRa : RdL cBr 6 h [] va la) (hRb : RdL cBr 6 h [] vb lb) (hla : la.length ≤ 1000000) (hlb : lb.length ≤ 1000000) (hA : ∀ b ∈ la, BOk b) (hB : ∀ b ∈ lb, BOk b) (vs vp : Value) (N : Nat) :
    ∀ (i : Nat) (seen : List Bool) (part : List Int) (ms mp : Hp), unseen seen ≤ N → i < la.length → seen.length = lb.length → part.length = lb.length → KPre (fitsR la lb cost) la.length part → OwnL cB 1 4 ms vs seen → OwnL cI 1 3 mp vp part → ∀ {i' : Int}, i' = i →
    FnT Try.prog 51 #[va, vb, .int .i64 cost, .int .i64 i', vs, vp] h [ms, mp] (Found (fitsR la lb cost) la.length lb.length i seen part h [] vs vp) := by
  induction N using Nat.strongRecOn with
  | _ N ih =>
  intro i seen part ms mp hN hi hsl hpl hK hS hP i' ei
  subst ei
  refine fn_enter Try.func51 Try.ntmps51 rfl rfl (fun w0 hw0 => ?_)
  simp only [argS]
  refine ws_seq ?_
  refine ws_region ?_
  refine wl_x (ox_assign rfl rfl) rfl rfl rfl ?_
  refine wl_nil ?_
  refine nx_then ?_
  refine ws_seq ?_
  refine ws_seq ?_
  refine ws_region ?_
  refine wl_x (ox_assign rfl rfl) rfl rfl rfl ?_
  refine wl_nil ?_
  refine nx_then ?_
  refine ws_block ?_
  refine ws_loop (fun q s h' ms' => ∃ (k : Nat) (seen1 : List Bool) (m1 mp1 : Hp), q = lb.length - k ∧ s = [(0, va), (1, vb), (2, .int .i64 cost), (3, .int .i64 i), (4, vs), (5, vp), (13, .int .i64 k)] ∧ h = h' ∧ ms' = [m1, mp1] ∧ k ≤ lb.length ∧ OwnL cB 1 4 m1 vs seen1 ∧ OwnL cI 1 3 mp1 vp part ∧ LI (fitsR la lb cost) i lb.length k seen part seen1)
    (lb.length - 0) _ ⟨0, seen, ms, mp, rfl, rfl, rfl, rfl, by omega, hS, hP, LI.start⟩ (by repeat (first | exact trivial | refine ⟨rfl, ?_⟩)) ?_
  rintro q s h' ms' ⟨k, seen1, m1, mp1, rfl, rfl, rfl, rfl, hk, hS1, hP1, hL⟩
  refine ws_seq ?_
  refine ws_seq ?_
  refine ws_region ?_
  refine wl_x (ox_move rfl rfl) rfl rfl rfl ?_
  refine wl_x (ox_move rfl rfl) rfl rfl rfl ?_
  first | refine wl_x (ox_len (ty := 25) rfl Try.underlying25 rfl) rfl rfl rfl ?_ | refine wl_x (ox_lenR hRa.rd.any rfl Try.underlying25 rfl) rfl rfl rfl ?_ | refine wl_x (ox_lenR hRb.rd.any rfl Try.underlying25 rfl) rfl rfl rfl ?_
  refine wl_x (ox_lss rfl rfl rfl) rfl rfl rfl ?_
  refine wl_nil ?_
  refine nx_then ?_
  refine ws_if rfl (fun hlt => ?_) (fun hlt => ?_)
  · skip
    have hkn : k < lb.length := by omega
    have hks : k < seen1.length := by rw [hL.slen]; omega
    have hkp : k < part.length := by omega
    have hRs := OwnL.rd hS1 (h := h) (ms := [m1, mp1]) (.head _)
    refine ws_skip ?_
    refine nx_then ?_
    refine ws_seq ?_
    refine ws_block ?_
    refine ws_seq ?_
    refine ws_seq ?_
    refine ws_draw 15 fol (by kernel_rfl) rfl ?_
    simp only [List.take_succ_cons, List.take_zero, List.drop_succ_cons, List.drop_zero, List.take_nil, List.drop_nil]
    refine wr_x (ox_move rfl rfl) rfl rfl ?_
    refine wr_x (ox_move rfl rfl) rfl rfl ?_
    first | refine wr_x (ox_index k rfl Try.underlying72 el4 rfl rfl (by omega) (by omega)) rfl rfl ?_ | refine wr_x (ox_indexR k hRs.rd rfl Try.underlying72 el4 rfl rfl (by omega) (by omega)) rfl rfl ?_ | refine wr_x (ox_indexR k hRa.rd.any rfl Try.underlying72 el4 rfl rfl (by omega) (by omega)) rfl rfl ?_ | refine wr_x (ox_indexR k hRb.rd.any rfl Try.underlying72 el4 rfl rfl (by omega) (by omega)) rfl rfl ?_
    refine wr_x (ox_load rfl Try.underlying4 rfl rfl (by first | exact hRs.cell0 hks rfl)) rfl rfl ?_
    refine wr_x (ox_move rfl rfl) rfl rfl ?_
    refine wr_splitb (t := 24) rfl (fun hsk => ?_) (fun hsk => ?_)
    · skip
      refine wr_skip rfl rfl rfl rfl rfl ?_
      refine wr_skip rfl rfl rfl rfl rfl ?_
      refine wr_skip rfl rfl rfl rfl rfl ?_
      refine wr_skip rfl rfl rfl rfl rfl ?_
      refine wr_skip rfl rfl rfl rfl rfl ?_
      refine wr_skip rfl rfl rfl rfl rfl ?_
      refine wr_skip rfl rfl rfl rfl rfl ?_
      refine wr_skip rfl rfl rfl rfl rfl ?_
      refine wr_skip rfl rfl rfl rfl rfl ?_
      refine wr_skip rfl rfl rfl rfl rfl ?_
      refine wr_nil ?_
      refine wl_skip rfl rfl rfl rfl rfl rfl rfl ?_
      refine wl_x (ox_pick_t rfl rfl rfl) rfl rfl rfl ?_
      refine wl_nil ?_
      refine nx_then ?_
      refine ws_cond_t rfl ?_
      refine ws_exit ?_
      refine nx_then_exit ?_
      refine nx_block_exit ?_
      refine nx_then ?_
      refine ws_region ?_
      refine wl_x (ox_move rfl rfl) rfl rfl rfl ?_
      refine wl_x (ox_add rfl rfl rfl (by omega)) rfl rfl rfl ?_
      refine wl_x (ox_assign rfl rfl) rfl rfl rfl ?_
      refine wl_nil ?_
      refine nx_round (lb.length - (k + 1)) _ (by omega) ⟨k + 1, seen1, m1, mp1, rfl, rfl, rfl, rfl, by omega, hS1, hP1, hL.skip (.inl (by rw [List.getElem?_eq_getElem hks, hsk]))⟩ (by repeat (first | exact trivial | refine ⟨rfl, ?_⟩))
    · skip
      refine wr_gx (ox_move rfl rfl) rfl rfl rfl rfl ?_
      refine wr_gx (ox_move rfl rfl) rfl rfl rfl rfl ?_
      first | refine wr_gx (ox_index i rfl Try.underlying25 el40 rfl rfl (by omega) (by omega)) rfl rfl rfl rfl ?_ | refine wr_gx (ox_indexR i hRs.rd rfl Try.underlying25 el40 rfl rfl (by omega) (by omega)) rfl rfl rfl rfl ?_ | refine wr_gx (ox_indexR i hRa.rd.any rfl Try.underlying25 el40 rfl rfl (by omega) (by omega)) rfl rfl rfl rfl ?_ | refine wr_gx (ox_indexR i hRb.rd.any rfl Try.underlying25 el40 rfl rfl (by omega) (by omega)) rfl rfl rfl rfl ?_
      refine wr_gx (ox_loadG rfl Try.underlying40 rfl el40 rfl rfl (by first | exact hRa.any.seg hi | exact hRb.any.seg hkn)) rfl rfl rfl rfl ?_
      refine wr_gx (ox_move rfl rfl) rfl rfl rfl rfl ?_
      refine wr_gx (ox_move rfl rfl) rfl rfl rfl rfl ?_
      first | refine wr_gx (ox_index k rfl Try.underlying25 el40 rfl rfl (by omega) (by omega)) rfl rfl rfl rfl ?_ | refine wr_gx (ox_indexR k hRs.rd rfl Try.underlying25 el40 rfl rfl (by omega) (by omega)) rfl rfl rfl rfl ?_ | refine wr_gx (ox_indexR k hRa.rd.any rfl Try.underlying25 el40 rfl rfl (by omega) (by omega)) rfl rfl rfl rfl ?_ | refine wr_gx (ox_indexR k hRb.rd.any rfl Try.underlying25 el40 rfl rfl (by omega) (by omega)) rfl rfl rfl rfl ?_
      refine wr_gx (ox_loadG rfl Try.underlying40 rfl el40 rfl rfl (by first | exact hRa.any.seg hi | exact hRb.any.seg hkn)) rfl rfl rfl rfl ?_
      refine wr_gx (ox_call rfl Try.call41 rfl (rapart_ok _ _ (hA _ (List.getElem_mem hi)) (hB _ (List.getElem_mem hkn)) _ _)) rfl rfl rfl rfl ?_
      refine wr_gx (ox_move rfl rfl) rfl rfl rfl rfl ?_
      refine wr_nil ?_
      refine wl_gx (ox_gtr rfl rfl rfl) rfl rfl rfl rfl rfl rfl ?_
      refine wl_x (ox_pick_f rfl rfl rfl) rfl rfl rfl ?_
      refine wl_nil ?_
      refine nx_then ?_
      refine ws_if rfl (fun hft => ?_) (fun hft => ?_)
      · skip
        refine ws_exit ?_
        refine nx_then_exit ?_
        refine nx_block_exit ?_
        refine nx_then ?_
        refine ws_region ?_
        refine wl_x (ox_move rfl rfl) rfl rfl rfl ?_
        refine wl_x (ox_add rfl rfl rfl (by omega)) rfl rfl rfl ?_
        refine wl_x (ox_assign rfl rfl) rfl rfl rfl ?_
        refine wl_nil ?_
        refine nx_round (lb.length - (k + 1)) _ (by omega) ⟨k + 1, seen1, m1, mp1, rfl, rfl, rfl, rfl, by omega, hS1, hP1, hL.skip (.inr (by unfold fitsR; rw [dif_pos ⟨hi, hkn⟩]; exact decide_eq_false (by omega)))⟩ (by repeat (first | exact trivial | refine ⟨rfl, ?_⟩))
      · skip
        have hft' : fitsR la lb cost i k = true := by unfold fitsR; rw [dif_pos ⟨hi, hkn⟩]; exact decide_eq_true (by omega)
        have h0 : seen1[k]? ≠ some true := by rw [List.getElem?_eq_getElem hks, hsk]; simp
        refine ws_skip ?_
        refine nx_then ?_
        refine ws_seq ?_
        refine ws_region ?_
        refine wl_x (ox_move rfl rfl) rfl rfl rfl ?_
        refine wl_x (ox_move rfl rfl) rfl rfl rfl ?_
        first | refine wl_x (ox_index k rfl Try.underlying72 el4 rfl rfl (by omega) (by omega)) rfl rfl rfl ?_ | refine wl_x (ox_indexR k hRs.rd rfl Try.underlying72 el4 rfl rfl (by omega) (by omega)) rfl rfl rfl ?_ | refine wl_x (ox_indexR k hRa.rd.any rfl Try.underlying72 el4 rfl rfl (by omega) (by omega)) rfl rfl rfl ?_ | refine wl_x (ox_indexR k hRb.rd.any rfl Try.underlying72 el4 rfl rfl (by omega) (by omega)) rfl rfl rfl ?_
        refine wl_storeL1 (F := cB) (f := fun x => .bool x) (a := true) 0 k (fun _ => rfl) hS1 rfl el4 rfl rfl rfl rfl hks rfl rfl (fun m2 hS2 => ?_)
        have hRp := OwnL.rd hP1 (h := h) (ms := [m2, mp1]) (.tail _ (.head _))
        refine wl_nil ?_
        refine nx_then ?_
        refine ws_seq ?_
        refine ws_region ?_
        refine wl_x (ox_move rfl rfl) rfl rfl rfl ?_
        refine wl_x (ox_move rfl rfl) rfl rfl rfl ?_
        first | refine wl_x (ox_index k rfl Try.underlying23 el3 rfl rfl (by omega) (by omega)) rfl rfl rfl ?_ | refine wl_x (ox_indexR k hRp.rd rfl Try.underlying23 el3 rfl rfl (by omega) (by omega)) rfl rfl rfl ?_
        refine wl_x (ox_load rfl Try.underlying3 rfl rfl (by first | exact hRp.cell0 hkp rfl)) rfl rfl rfl ?_
        refine wl_x (ox_lss rfl rfl rfl) rfl rfl rfl ?_
        refine wl_x (ox_move rfl rfl) rfl rfl rfl ?_
        refine wl_split (t := 45) rfl (fun hneg => ?_) (fun hneg => ?_)
        · skip
          refine wl_skip rfl rfl rfl rfl rfl rfl rfl ?_
          refine wl_skip rfl rfl rfl rfl rfl rfl rfl ?_
          refine wl_skip rfl rfl rfl rfl rfl rfl rfl ?_
          refine wl_skip rfl rfl rfl rfl rfl rfl rfl ?_
          refine wl_skip rfl rfl rfl rfl rfl rfl rfl ?_
          refine wl_skip rfl rfl rfl rfl rfl rfl rfl ?_
          refine wl_skip rfl rfl rfl rfl rfl rfl rfl ?_
          refine wl_skip rfl rfl rfl rfl rfl rfl rfl ?_
          refine wl_skip rfl rfl rfl rfl rfl rfl rfl ?_
          refine wl_skip rfl rfl rfl rfl rfl rfl rfl ?_
          refine wl_x (ox_pick_t rfl rfl rfl) rfl rfl rfl ?_
          refine wl_nil ?_
          refine nx_then ?_
          refine ws_cond_t rfl ?_
          refine ws_seq ?_
          refine ws_region ?_
          refine wl_x (ox_move rfl rfl) rfl rfl rfl ?_
          refine wl_x (ox_move rfl rfl) rfl rfl rfl ?_
          refine wl_x (ox_move rfl rfl) rfl rfl rfl ?_
          first | refine wl_x (ox_index k rfl Try.underlying23 el3 rfl rfl (by omega) (by omega)) rfl rfl rfl ?_ | refine wl_x (ox_indexR k hRp.rd rfl Try.underlying23 el3 rfl rfl (by omega) (by omega)) rfl rfl rfl ?_
          refine wl_storeL1 (F := cI) (f := fun x => .int .i64 x) (a := (i : Int)) 1 k (fun _ => rfl) hP1 rfl el3 rfl rfl rfl rfl hkp rfl rfl (fun m3 hP3 => ?_)
          refine wl_nil ?_
          refine nx_then ?_
          refine ws_seq ?_
          refine ws_region ?_
          refine wl_x (ox_assign rfl rfl) rfl rfl rfl ?_
          refine wl_nil ?_
          refine nx_then ?_
          refine ws_ret ?_
          refine nx_block_ret ?_
          refine nx_then_ret ?_
          refine nx_then_ret ?_
          refine nx_block_ret ?_
          refine nx_then_ret ?_
          have hT := hL.free hK hi hkp hks h0 hft' hneg
          exact nx_ret1 rfl rfl (⟨true, m2, m3, _, _, rfl, rfl, rfl, hS2, hP3, hT.pre, hT.plen, hT.slen, fun _ => hT, fun h => (by cases h)⟩)
        · skip
          obtain ⟨p, hp, hpn, hpf⟩ : ∃ p : Nat, part[k] = (p : Int) ∧ p < la.length ∧ fitsR la lb cost p k = true := by
            rcases hK k hkp with h1 | h1
            · omega
            · exact h1
          have hp' : part[k]? = some (p : Int) := by rw [List.getElem?_eq_getElem hkp, hp]
          have hu : unseen (seen1.set k true) < N := by
            have u1 := unseen_set seen1 k hks hsk
            have u2 := unseen_mono seen seen1 hL.slen hL.mono
            omega
          refine wl_gx (ox_move rfl rfl) rfl rfl rfl rfl rfl rfl ?_
          refine wl_gx (ox_move rfl rfl) rfl rfl rfl rfl rfl rfl ?_
          refine wl_gx (ox_move rfl rfl) rfl rfl rfl rfl rfl rfl ?_
          refine wl_gx (ox_move rfl rfl) rfl rfl rfl rfl rfl rfl ?_
          refine wl_gx (ox_move rfl rfl) rfl rfl rfl rfl rfl rfl ?_
          first | refine wl_gx (ox_index k rfl Try.underlying23 el3 rfl rfl (by omega) (by omega)) rfl rfl rfl rfl rfl rfl ?_ | refine wl_gx (ox_indexR k hRp.rd rfl Try.underlying23 el3 rfl rfl (by omega) (by omega)) rfl rfl rfl rfl rfl rfl ?_
          refine wl_gx (ox_load rfl Try.underlying3 rfl rfl (by first | exact hRp.cell0 hkp rfl)) rfl rfl rfl rfl rfl rfl ?_
          refine wl_gx (ox_move rfl rfl) rfl rfl rfl rfl rfl rfl ?_
          refine wl_gx (ox_move rfl rfl) rfl rfl rfl rfl rfl rfl ?_
          refine wl_gcall_ (pre := [m2, mp1]) rfl Try.call51 rfl (ih _ hu p (seen1.set k true) part m2 mp1 (Nat.le_refl _) hpn (by rw [List.length_set, hL.slen]; exact hsl) hpl hK hS2 hP1 hp) rfl rfl rfl rfl rfl rfl rfl (fun _ _ _ _ hF => ?_)
          obtain ⟨b, m3, mp3, seen3, part3, rfl, rfl, rfl, hS3, hP3, hK3, hpl3, hsl3, hT, hFa⟩ := hF
          simp only [List.cons_append, List.nil_append, List.append_nil]
          refine wl_x (ox_pick_f rfl rfl rfl) rfl rfl rfl ?_
          refine wl_nil ?_
          refine nx_then ?_
          refine ws_cond rfl (fun hb => ?_) (fun hb => ?_)
          · skip
            have hT := hL.moved hi hkp hks h0 hft' hp' (hT hb)
            have hRp := OwnL.rd hP3 (h := h) (ms := [m3, mp3]) (.tail _ (.head _))
            have hkp3 : k < part3.length := by omega
            refine ws_seq ?_
            refine ws_region ?_
            refine wl_x (ox_move rfl rfl) rfl rfl rfl ?_
            refine wl_x (ox_move rfl rfl) rfl rfl rfl ?_
            refine wl_x (ox_move rfl rfl) rfl rfl rfl ?_
            first | refine wl_x (ox_index k rfl Try.underlying23 el3 rfl rfl (by omega) (by omega)) rfl rfl rfl ?_ | refine wl_x (ox_indexR k hRp.rd rfl Try.underlying23 el3 rfl rfl (by omega) (by omega)) rfl rfl rfl ?_
            refine wl_storeL1 (F := cI) (f := fun x => .int .i64 x) (a := (i : Int)) 1 k (fun _ => rfl) hP3 rfl el3 rfl rfl rfl rfl (by rw [hpl3]; exact hkp) rfl rfl (fun m4 hP4 => ?_)
            refine wl_nil ?_
            refine nx_then ?_
            refine ws_seq ?_
            refine ws_region ?_
            refine wl_x (ox_assign rfl rfl) rfl rfl rfl ?_
            refine wl_nil ?_
            refine nx_then ?_
            refine ws_ret ?_
            refine nx_block_ret ?_
            refine nx_then_ret ?_
            refine nx_then_ret ?_
            refine nx_block_ret ?_
            refine nx_then_ret ?_
            exact nx_ret1 rfl rfl (⟨true, m3, m4, _, _, rfl, rfl, rfl, hS3, hP4, hT.pre, hT.plen, hT.slen, fun _ => hT, fun h => (by cases h)⟩)
          · skip
            obtain ⟨rfl, hLF⟩ := hFa hb
            refine ws_skip ?_
            refine nx_block ?_
            refine nx_then ?_
            refine ws_region ?_
            refine wl_x (ox_move rfl rfl) rfl rfl rfl ?_
            refine wl_x (ox_add rfl rfl rfl (by omega)) rfl rfl rfl ?_
            refine wl_x (ox_assign rfl rfl) rfl rfl rfl ?_
            refine wl_nil ?_
            refine nx_round (lb.length - (k + 1)) _ (by omega) ⟨k + 1, seen3, m3, mp3, rfl, rfl, rfl, rfl, by omega, hS3, hP3, hL.fail hks hp' hLF⟩ (by repeat (first | exact trivial | refine ⟨rfl, ?_⟩))
  · skip
    have hkn : k = lb.length := by omega
    rw [hkn] at hL
    refine ws_exit ?_
    refine nx_then_exit ?_
    refine nx_then_exit ?_
    refine nx_block_exit ?_
    refine nx_then ?_
    refine ws_seq ?_
    refine ws_region ?_
    refine wl_x (ox_assign rfl rfl) rfl rfl rfl ?_
    refine wl_nil ?_
    refine nx_then ?_
    refine ws_ret ?_
    exact nx_ret1 rfl rfl (⟨false, m1, mp1, seen1, part, rfl, rfl, rfl, hS1, hP1, hK, rfl, hL.slen, fun h => (by cases h), fun _ => ⟨rfl, hL⟩⟩)
end Go.Proofs.Ythdkhnjnhhofgaa

/- Walks: are the long bars covered? -/
set_option linter.unusedSimpArgs false
set_option linter.unusedVariables false
set_option maxRecDepth 100000
namespace Go.Proofs.Ythdkhnjnhhofgaa
open Go.Eng Go.RowKit Go.Kuhn

/-- Whose place counts: bar i is longer than the cost. -/
def longB (la : List Br) (cost : Int) (i : Nat) : Bool := if h : i < la.length then decide (cost < la[i].len) else false
def CPos (la lb : List Br) (cost : Int) : Prop := ∃ part : List Int, part.length = lb.length ∧ KPre (fitsR la lb cost) la.length part ∧ ∀ x : Nat, part.count (x : Int) = if x < la.length ∧ longB la cost x = true then 1 else 0
def CNeg (la lb : List Br) (cost : Int) : Prop := ∃ (i : Nat) (part : List Int) (seen : List Bool), i < la.length ∧ longB la cost i = true ∧ part.length = lb.length ∧ KPre (fitsR la lb cost) la.length part ∧ (∀ x : Nat, part.count (x : Int) = if x < i ∧ longB la cost x = true then 1 else 0) ∧ LI (fitsR la lb cost) i lb.length lb.length (List.replicate lb.length false) part seen

theorem own_repI (g n : Nat) (a : Int) (hn : n ≤ 9223372036854775807) : OwnL cI 1 3 (Blk g 3 (List.replicate n (Value.int .i64 a))) (.slice (some ⟨g, 0, none⟩) n n) (List.replicate n a) :=
  ⟨⟨by rw [← cI_rep]; simp, .inr ⟨g, n, [], by simp, by rw [← cI_rep]; simp, by rw [← cI_rep]; simp, by simp, hn⟩⟩, cI_len⟩
theorem rep_step (n k : Nat) (hk : k < n) : (List.replicate k (-1 : Int) ++ List.replicate (n - k) 0).set k (-1) = List.replicate (k + 1) (-1) ++ List.replicate (n - (k + 1)) 0 := by
  rw [List.set_append_right _ _ (by simp), List.length_replicate, Nat.sub_self]
  obtain ⟨j, hj⟩ : ∃ j, n - k = j + 1 := ⟨n - k - 1, by omega⟩
  rw [hj, List.replicate_succ, List.set_cons_zero, show n - (k + 1) = j by omega, ← List.replicate_append_replicate (n := k) (m := 1)]
  simp

theorem covered_ok (la lb : List Br) (va vb : Value) (cost : Int) (h : Hp) (hRa : RdL cBr 6 h [] va la) (hRb : RdL cBr 6 h [] vb lb) (hla : la.length ≤ 1000000) (hlb : lb.length ≤ 1000000) (hA : ∀ b ∈ la, BOk b) (hB : ∀ b ∈ lb, BOk b) :
    FnT Try.prog 42 #[va, vb, .int .i64 cost] h [] (fun r _ _ => ∃ b, r = .bool b ∧ (b = true → CPos la lb cost) ∧ (b = false → CNeg la lb cost)) := by
  refine fn_enter Try.func42 Try.ntmps42 rfl rfl (fun w0 hw0 => ?_)
  simp only [argS]
  refine ws_seq ?_
  refine ws_region ?_
  refine wl_x (ox_assign rfl rfl) rfl rfl rfl ?_
  refine wl_nil ?_
  refine nx_then ?_
  refine ws_seq ?_
  refine ws_region ?_
  refine wl_x (ox_move rfl rfl) rfl rfl rfl ?_
  first | refine wl_x (ox_len (ty := 25) rfl Try.underlying25 rfl) rfl rfl rfl ?_ | refine wl_x (ox_lenR hRa.rd.any rfl Try.underlying25 rfl) rfl rfl rfl ?_ | refine wl_x (ox_lenR hRb.rd.any rfl Try.underlying25 rfl) rfl rfl rfl ?_
  refine wl_make (n := lb.length) rfl Try.underlying23 el3 rfl rfl rfl (by first | rfl | omega) (by first | rfl | omega) (by omega) (by omega) rfl rfl rfl (fun g12 => ?_)
  refine wl_x (ox_assign rfl rfl) rfl rfl rfl ?_
  refine wl_nil ?_
  refine nx_then ?_
  refine ws_seq ?_
  refine ws_seq ?_
  refine ws_region ?_
  refine wl_x (ox_assign rfl rfl) rfl rfl rfl ?_
  refine wl_nil ?_
  refine nx_then ?_
  refine ws_block ?_
  refine ws_loop (fun q s h' ms' => ∃ (k : Nat) (m : Hp), q = lb.length - k ∧ s = [(0, va), (1, vb), (2, .int .i64 cost), (7, .slice (some ⟨g12, 0, none⟩) lb.length lb.length), (8, .int .i64 k)] ∧ h = h' ∧ ms' = [m] ∧ k ≤ lb.length ∧ OwnL cI 1 3 m (.slice (some ⟨g12, 0, none⟩) lb.length lb.length) (List.replicate k (-1) ++ List.replicate (lb.length - k) 0))
    (lb.length - 0) _ ⟨0, _, rfl, rfl, rfl, rfl, by omega, by simpa using own_repI g12 lb.length 0 (by omega)⟩ (by repeat (first | exact trivial | refine ⟨rfl, ?_⟩)) ?_
  rintro q s h' ms' ⟨k, m, rfl, rfl, rfl, rfl, hk, hO⟩
  refine ws_seq ?_
  refine ws_seq ?_
  refine ws_region ?_
  refine wl_x (ox_move rfl rfl) rfl rfl rfl ?_
  refine wl_x (ox_move rfl rfl) rfl rfl rfl ?_
  first | refine wl_x (ox_len (ty := 25) rfl Try.underlying25 rfl) rfl rfl rfl ?_ | refine wl_x (ox_lenR hRa.rd.any rfl Try.underlying25 rfl) rfl rfl rfl ?_ | refine wl_x (ox_lenR hRb.rd.any rfl Try.underlying25 rfl) rfl rfl rfl ?_
  refine wl_x (ox_lss rfl rfl rfl) rfl rfl rfl ?_
  refine wl_nil ?_
  refine nx_then ?_
  refine ws_if rfl (fun hlt => ?_) (fun hlt => ?_)
  · skip
    have hkn : k < lb.length := by omega
    have hst := rep_step lb.length k hkn
    refine ws_skip ?_
    refine nx_then ?_
    refine ws_seq ?_
    refine ws_block ?_
    refine ws_region ?_
    refine wl_x (ox_move rfl rfl) rfl rfl rfl ?_
    refine wl_x (ox_move rfl rfl) rfl rfl rfl ?_
    first | refine wl_x (ox_index _ rfl Try.underlying23 el3 rfl rfl rfl (by omega)) rfl rfl rfl ?_ | refine wl_x (ox_indexR _ hRa.rd.any rfl Try.underlying23 el3 rfl rfl rfl (by omega)) rfl rfl rfl ?_ | refine wl_x (ox_indexR _ hRb.rd.any rfl Try.underlying23 el3 rfl rfl rfl (by omega)) rfl rfl rfl ?_
    refine wl_storeL1 (F := cI) (f := fun x => .int .i64 x) (a := -1) 0 k (fun _ => rfl) hO rfl el3 rfl rfl rfl rfl (by simp; omega) rfl rfl (fun m2 hO2 => ?_)
    rw [hst] at hO2
    refine wl_nil ?_
    refine nx_block ?_
    refine nx_then ?_
    refine ws_region ?_
    refine wl_x (ox_move rfl rfl) rfl rfl rfl ?_
    refine wl_x (ox_add rfl rfl rfl (by omega)) rfl rfl rfl ?_
    refine wl_x (ox_assign rfl rfl) rfl rfl rfl ?_
    refine wl_nil ?_
    refine nx_round (lb.length - (k + 1)) _ (by omega) ⟨k + 1, m2, rfl, rfl, rfl, rfl, by omega, hO2⟩ (by repeat (first | exact trivial | refine ⟨rfl, ?_⟩))
  · skip
    have hkn : k = lb.length := by omega
    rw [hkn, Nat.sub_self, List.replicate_zero, List.append_nil] at hO
    have hcnt : ∀ x : Nat, (List.replicate lb.length (-1 : Int)).count (x : Int) = if x < 0 ∧ longB la cost x = true then 1 else 0 := fun x => by
      rw [List.count_replicate, if_neg (by simp), if_neg (by omega)]
    have hK0 : KPre (fitsR la lb cost) la.length (List.replicate lb.length (-1)) := fun k hk => .inl (by simp)
    refine ws_exit ?_
    refine nx_then_exit ?_
    refine nx_then_exit ?_
    refine nx_block_exit ?_
    refine nx_then ?_
    refine ws_seq ?_
    refine ws_seq ?_
    refine ws_region ?_
    refine wl_x (ox_assign rfl rfl) rfl rfl rfl ?_
    refine wl_nil ?_
    refine nx_then ?_
    refine ws_block ?_
    refine ws_loop (fun q s h' ms' => ∃ (i : Nat) (m : Hp) (part : List Int), q = la.length - i ∧ s = [(0, va), (1, vb), (2, .int .i64 cost), (7, .slice (some ⟨g12, 0, none⟩) lb.length lb.length), (9, .int .i64 i)] ∧ h = h' ∧ ms' = [m] ∧ i ≤ la.length ∧ part.length = lb.length ∧ OwnL cI 1 3 m (.slice (some ⟨g12, 0, none⟩) lb.length lb.length) part ∧ KPre (fitsR la lb cost) la.length part ∧ ∀ x : Nat, part.count (x : Int) = if x < i ∧ longB la cost x = true then 1 else 0)
      (la.length - 0) _ ⟨0, m, _, rfl, rfl, rfl, rfl, by omega, by simp, hO, hK0, hcnt⟩ (by repeat (first | exact trivial | refine ⟨rfl, ?_⟩)) ?_
    clear hK0 hcnt hO hkn
    rintro q s h' ms' ⟨i, m, part, rfl, rfl, rfl, rfl, hi, hpl, hP, hK, hcnt⟩
    refine ws_seq ?_
    refine ws_seq ?_
    refine ws_region ?_
    refine wl_x (ox_move rfl rfl) rfl rfl rfl ?_
    refine wl_x (ox_move rfl rfl) rfl rfl rfl ?_
    first | refine wl_x (ox_len (ty := 25) rfl Try.underlying25 rfl) rfl rfl rfl ?_ | refine wl_x (ox_lenR hRa.rd.any rfl Try.underlying25 rfl) rfl rfl rfl ?_ | refine wl_x (ox_lenR hRb.rd.any rfl Try.underlying25 rfl) rfl rfl rfl ?_
    refine wl_x (ox_lss rfl rfl rfl) rfl rfl rfl ?_
    refine wl_nil ?_
    refine nx_then ?_
    refine ws_if rfl (fun hltp => ?_) (fun hltp => ?_)
    · skip
      have hia : i < la.length := by omega
      have hbi := hA _ (List.getElem_mem hia)
      obtain ⟨b1, b2, b3, b4⟩ := hbi
      refine ws_skip ?_
      refine nx_then ?_
      refine ws_seq ?_
      refine ws_block ?_
      refine ws_seq ?_
      refine ws_draw 22 fol (by kernel_rfl) rfl ?_
      simp only [List.take_succ_cons, List.take_zero, List.drop_succ_cons, List.drop_zero, List.take_nil, List.drop_nil]
      refine wr_x (ox_move rfl rfl) rfl rfl ?_
      refine wr_x (ox_move rfl rfl) rfl rfl ?_
      first | refine wr_x (ox_index _ rfl Try.underlying25 el40 rfl rfl rfl (by omega)) rfl rfl ?_ | refine wr_x (ox_indexR _ hRa.rd.any rfl Try.underlying25 el40 rfl rfl rfl (by omega)) rfl rfl ?_ | refine wr_x (ox_indexR _ hRb.rd.any rfl Try.underlying25 el40 rfl rfl rfl (by omega)) rfl rfl ?_
      refine wr_x (ox_fieldF fd40_2 rfl rfl) rfl rfl ?_
      refine wr_x (ox_load rfl Try.underlying3 rfl rfl (by first | exact hRa.any.cell hia rfl)) rfl rfl ?_
      refine wr_x (ox_move rfl rfl) rfl rfl ?_
      refine wr_x (ox_move rfl rfl) rfl rfl ?_
      first | refine wr_x (ox_index _ rfl Try.underlying25 el40 rfl rfl rfl (by omega)) rfl rfl ?_ | refine wr_x (ox_indexR _ hRa.rd.any rfl Try.underlying25 el40 rfl rfl rfl (by omega)) rfl rfl ?_ | refine wr_x (ox_indexR _ hRb.rd.any rfl Try.underlying25 el40 rfl rfl rfl (by omega)) rfl rfl ?_
      refine wr_x (ox_fieldF fd40_1 rfl rfl) rfl rfl ?_
      refine wr_x (ox_load rfl Try.underlying3 rfl rfl (by first | exact hRa.any.cell hia rfl)) rfl rfl ?_
      refine wr_x (ox_sub rfl rfl rfl (by omega)) rfl rfl ?_
      refine wr_x (ox_move rfl rfl) rfl rfl ?_
      refine wr_x (ox_gtr rfl rfl rfl) rfl rfl ?_
      refine wr_x (ox_move rfl rfl) rfl rfl ?_
      refine wr_split (t := 41) rfl (fun hlong => ?_) (fun hlong => ?_)
      · skip
        have hl' : longB la cost i = true := by unfold longB; rw [dif_pos hia]; exact decide_eq_true hlong
        refine wr_gx (ox_move rfl rfl) rfl rfl rfl rfl ?_
        refine wr_gx (ox_move rfl rfl) rfl rfl rfl rfl ?_
        refine wr_gx (ox_move rfl rfl) rfl rfl rfl rfl ?_
        refine wr_gx (ox_move rfl rfl) rfl rfl rfl rfl ?_
        refine wr_gx (ox_move rfl rfl) rfl rfl rfl rfl ?_
        first | refine wr_gx (ox_len (ty := 25) rfl Try.underlying25 rfl) rfl rfl rfl rfl ?_ | refine wr_gx (ox_lenR hRa.rd.any rfl Try.underlying25 rfl) rfl rfl rfl rfl ?_ | refine wr_gx (ox_lenR hRb.rd.any rfl Try.underlying25 rfl) rfl rfl rfl rfl ?_
        refine wr_gb (onb_make (n := lb.length) rfl Try.underlying72 el4 rfl rfl rfl (by first | rfl | omega) (by first | rfl | omega) (by omega) (by omega)) rfl rfl rfl rfl ?_
        refine wr_gx (ox_move rfl rfl) rfl rfl rfl rfl ?_
        refine wr_nil1 (fun g48 => ?_)
        refine wl_gcall_ (pre := [Blk g48 4 (List.replicate lb.length (Value.bool false)), m]) rfl Try.call51 rfl (search_ok la lb va vb cost h hRa hRb hla hlb hA hB _ _ _ i (List.replicate lb.length false) part _ m (Nat.le_refl _) hia (by simp) hpl hK (own_rep g48 lb.length (by omega)) hP rfl) rfl rfl rfl rfl rfl rfl rfl (fun _ _ _ _ hF => ?_)
        obtain ⟨b, m1, m2, seen', part', rfl, rfl, rfl, hS1, hP1, hK1, hpl1, hsl1, hT, hFa⟩ := hF
        simp only [List.cons_append, List.nil_append, List.append_nil]
        refine wl_gx (ox_not rfl rfl) rfl rfl rfl rfl rfl rfl ?_
        refine wl_x (ox_pick_t rfl rfl rfl) rfl rfl rfl ?_
        refine wl_nil ?_
        refine nx_then ?_
        refine ws_cond rfl (fun hb => ?_) (fun hb => ?_)
        · skip
          obtain ⟨rfl, hL⟩ := hFa (by simpa using hb)
          refine ws_seq ?_
          refine ws_region ?_
          refine wl_x (ox_assign rfl rfl) rfl rfl rfl ?_
          refine wl_nil ?_
          refine nx_then ?_
          refine ws_ret ?_
          refine nx_block_ret ?_
          refine nx_then_ret ?_
          refine nx_then_ret ?_
          refine nx_block_ret ?_
          refine nx_then_ret ?_
          exact nx_ret1 rfl rfl (⟨false, rfl, fun h => (by cases h), fun _ => ⟨i, part', seen', hia, hl', hpl, hK, hcnt, hL⟩⟩)
        · skip
          have hT := hT (by simpa using hb)
          refine ws_skip ?_
          refine nx_block ?_
          refine nx_then ?_
          refine ws_region ?_
          refine wl_x (ox_move rfl rfl) rfl rfl rfl ?_
          refine wl_x (ox_add rfl rfl rfl (by omega)) rfl rfl rfl ?_
          refine wl_x (ox_assign rfl rfl) rfl rfl rfl ?_
          refine wl_nil ?_
          refine nx_drop ?_
          refine nx_round (la.length - (i + 1)) _ (by omega) ⟨i + 1, m2, part', rfl, rfl, rfl, rfl, by omega, by omega, hP1, hK1, fun x => ?_⟩ (by repeat (first | exact trivial | refine ⟨rfl, ?_⟩))
          rw [hT.cnt x, hcnt x]
          by_cases h2 : x = i
          · subst h2; simp [hl']
          · by_cases h1 : x < i
            · simp [h1, h2, show x < i + 1 by omega]
            · simp [h1, h2, show ¬ x < i + 1 by omega]
      · skip
        have hl' : longB la cost i = false := by unfold longB; rw [dif_pos hia]; exact decide_eq_false hlong
        refine wr_skip rfl rfl rfl rfl rfl ?_
        refine wr_skip rfl rfl rfl rfl rfl ?_
        refine wr_skip rfl rfl rfl rfl rfl ?_
        refine wr_skip rfl rfl rfl rfl rfl ?_
        refine wr_skip rfl rfl rfl rfl rfl ?_
        refine wr_skip rfl rfl rfl rfl rfl ?_
        refine wr_skip rfl rfl rfl rfl rfl ?_
        refine wr_skip rfl rfl rfl rfl rfl ?_
        refine wr_nil ?_
        refine wl_skip rfl rfl rfl rfl rfl rfl rfl ?_
        refine wl_skip rfl rfl rfl rfl rfl rfl rfl ?_
        refine wl_x (ox_pick_f rfl rfl rfl) rfl rfl rfl ?_
        refine wl_nil ?_
        refine nx_then ?_
        refine ws_cond_f rfl ?_
        refine ws_skip ?_
        refine nx_block ?_
        refine nx_then ?_
        refine ws_region ?_
        refine wl_x (ox_move rfl rfl) rfl rfl rfl ?_
        refine wl_x (ox_add rfl rfl rfl (by omega)) rfl rfl rfl ?_
        refine wl_x (ox_assign rfl rfl) rfl rfl rfl ?_
        refine wl_nil ?_
        refine nx_round (la.length - (i + 1)) _ (by omega) ⟨i + 1, m, part, rfl, rfl, rfl, rfl, by omega, hpl, hP, hK, fun x => ?_⟩ (by repeat (first | exact trivial | refine ⟨rfl, ?_⟩))
        rw [hcnt x]
        by_cases h2 : x = i
        · subst h2; simp [hl']
        · by_cases h1 : x < i
          · simp [h1, show x < i + 1 by omega]
          · simp [h1, show ¬ x < i + 1 by omega]
    · skip
      have hiA : i = la.length := by omega
      rw [hiA] at hcnt
      refine ws_exit ?_
      refine nx_then_exit ?_
      refine nx_then_exit ?_
      refine nx_block_exit ?_
      refine nx_then ?_
      refine ws_seq ?_
      refine ws_region ?_
      refine wl_x (ox_assign rfl rfl) rfl rfl rfl ?_
      refine wl_nil ?_
      refine nx_then ?_
      refine ws_ret ?_
      exact nx_ret1 rfl rfl (⟨true, rfl, fun _ => ⟨part, hpl, hK, hcnt⟩, fun h => (by cases h)⟩)
end Go.Proofs.Ythdkhnjnhhofgaa

/- Walks: the reference's births. -/
set_option linter.unusedSimpArgs false
set_option linter.unusedVariables false
set_option maxRecDepth 100000
namespace Go.Proofs.Ythdkhnjnhhofgaa
open Go.Eng Go.RowKit Go.Kuhn

/-- One number put in its place. -/
def put (x : Int) : List Int → List Int
  | [] => [x]
  | y :: l => if y ≤ x then y :: put x l else x :: y :: l
theorem put_perm (x : Int) : ∀ l, (put x l).Perm (x :: l)
  | [] => List.Perm.refl _
  | y :: l => by
    unfold put
    split
    · exact ((put_perm x l).cons y).trans (List.Perm.swap _ _ _)
    · exact List.Perm.refl _
theorem put_at (x : Int) : ∀ (l : List Int) (k : Nat), k ≤ l.length → (∀ j (hj : j < l.length), j < k → l[j] ≤ x) → (∀ hk : k < l.length, ¬ l[k] ≤ x) → put x l = l.take k ++ x :: l.drop k
  | [], k, h, _, _ => by simp [put]
  | y :: l, 0, _, _, h => by
    have := h (by simp)
    unfold put; rw [if_neg (by simpa using this)]; simp
  | y :: l, k + 1, h, h1, h2 => by
    have := h1 0 (by simp) (by omega)
    unfold put; rw [if_pos (by simpa using this), put_at x l k (by simpa using h) (fun j hj hjk => h1 (j + 1) (by simpa using hj) (by omega)) (fun hk => h2 (by simpa using hk))]
    simp
theorem put_sorted (x : Int) : ∀ l : List Int, l.Pairwise (· ≤ ·) → (put x l).Pairwise (· ≤ ·)
  | [], _ => by simp [put]
  | y :: l, h => by
    obtain ⟨h1, h2⟩ := List.pairwise_cons.1 h
    unfold put
    split
    · rename_i hyx
      refine List.pairwise_cons.2 ⟨fun z hz => ?_, put_sorted x l h2⟩
      rcases List.mem_cons.1 ((put_perm x l).mem_iff.1 hz) with rfl | hz
      · exact hyx
      · exact h1 z hz
    · rename_i hyx
      refine List.pairwise_cons.2 ⟨fun z hz => ?_, h⟩
      rcases List.mem_cons.1 hz with rfl | hz
      · omega
      · have := h1 z hz; omega

def putAll (l : List Int) : List Int := l.foldl (fun a x => put x a) []
theorem putAll_snoc (l : List Int) (x : Int) : putAll (l ++ [x]) = put x (putAll l) := by simp [putAll]
theorem putAll_perm (l : List Int) : (putAll l).Perm l := by
  unfold putAll
  have : ∀ (l a : List Int), (l.foldl (fun a x => put x a) a).Perm (a ++ l) := by
    intro l
    induction l with
    | nil => intro a; simp
    | cons x l ih => intro a; exact (ih (put x a)).trans (((put_perm x a).append_right l).trans (by simpa using List.perm_middle.symm))
  simpa using this l []
theorem putAll_sorted (l : List Int) : (putAll l).Pairwise (· ≤ ·) := by
  unfold putAll
  have : ∀ (l a : List Int), a.Pairwise (· ≤ ·) → (l.foldl (fun a x => put x a) a).Pairwise (· ≤ ·) := by
    intro l
    induction l with
    | nil => exact fun a h => h
    | cons x l ih => exact fun a h => ih _ (put_sorted x a h)
  exact this l [] List.Pairwise.nil

theorem own_none (g : Nat) : OwnL cI 1 3 (Blk g 3 []) (.slice (some ⟨g, 0, none⟩) 0 0) ([] : List Int) := ⟨⟨rfl, .inr ⟨g, 0, [], rfl, rfl, rfl, Nat.le_refl _, by omega⟩⟩, cI_len⟩
theorem rbirths_ok (l : List Br) (vl : Value) (h : Hp) (hR : RdL cBr 6 h [] vl l) (hl : l.length ≤ 1000000) :
    FnT Try.prog 38 #[vl] h [] (fun r h' ms' => ms' = [] ∧ RdL cI 1 h' [] r (putAll (l.map Br.birth))) := by
  refine fn_enter Try.func38 Try.ntmps38 rfl rfl (fun w0 hw0 => ?_)
  simp only [argS]
  refine ws_seq ?_
  refine ws_region ?_
  refine wl_x (ox_assign rfl rfl) rfl rfl rfl ?_
  refine wl_nil ?_
  refine nx_then ?_
  refine ws_seq ?_
  refine ws_region ?_
  refine wl_x (ox_assign rfl rfl) rfl rfl rfl ?_
  refine wl_nil ?_
  refine nx_then ?_
  refine ws_seq ?_
  refine ws_seq ?_
  refine ws_region ?_
  refine wl_x (ox_assign rfl rfl) rfl rfl rfl ?_
  refine wl_nil ?_
  refine nx_then ?_
  refine ws_block ?_
  refine ws_emp ?_
  refine ws_loop (fun n s h' ms' => ∃ (i : Nat) (v : Value) (m : Hp) (o : List Int), n = l.length - i ∧ s = [(0, vl), (3, v), (4, .int .i64 i)] ∧ h = h' ∧ ms' = [m] ∧ i ≤ l.length ∧ OwnL cI 1 3 m v o ∧ o = putAll ((l.take i).map Br.birth) ∧ o.length = i)
    (l.length - 0) _ ⟨0, _, _, [], rfl, rfl, rfl, rfl, by omega, OwnL.nil cI_len, rfl, rfl⟩ (by repeat (first | exact trivial | refine ⟨rfl, ?_⟩)) ?_
  rintro n s h' ms' ⟨i, v, m, o, rfl, rfl, rfl, rfl, hi, hO, ho, hol⟩
  refine ws_seq ?_
  refine ws_seq ?_
  refine ws_region ?_
  refine wl_x (ox_move rfl rfl) rfl rfl rfl ?_
  refine wl_x (ox_move rfl rfl) rfl rfl rfl ?_
  first | refine wl_x (ox_len (ty := 25) rfl Try.underlying25 rfl) rfl rfl rfl ?_ | refine wl_x (ox_lenR hR.rd.any rfl Try.underlying25 rfl) rfl rfl rfl ?_
  refine wl_x (ox_lss rfl rfl rfl) rfl rfl rfl ?_
  refine wl_nil ?_
  refine nx_then ?_
  refine ws_if rfl (fun hlt => ?_) (fun hlt => ?_)
  · skip
    have hli : i < l.length := by omega
    have hts := take_succ_map Br.birth l i hli
    have hRo := OwnL.rd hO (h := h) (ms := [m]) (.head _)
    refine ws_skip ?_
    refine nx_then ?_
    refine ws_seq ?_
    refine ws_block ?_
    refine ws_seq ?_
    refine ws_region ?_
    refine wl_x (ox_assign rfl rfl) rfl rfl rfl ?_
    refine wl_nil ?_
    refine nx_then ?_
    refine ws_seq ?_
    refine ws_block ?_
    refine ws_loop (fun q s h' ms' => ∃ (k : Nat), q = o.length - k ∧ s = [(0, vl), (3, v), (4, .int .i64 i), (5, .int .i64 k)] ∧ h = h' ∧ ms' = [m] ∧ k ≤ o.length ∧ ∀ j (hj : j < o.length), j < k → o[j] ≤ l[i].birth)
      (o.length - 0) _ ⟨0, rfl, rfl, rfl, rfl, by omega, fun j hj h => by omega⟩ (by repeat (first | exact trivial | refine ⟨rfl, ?_⟩)) ?_
    rintro q s h' ms' ⟨k, rfl, rfl, rfl, rfl, hk, hle⟩
    refine ws_seq ?_
    refine ws_seq ?_
    refine ws_draw 14 fol (by kernel_rfl) rfl ?_
    simp only [List.take_succ_cons, List.take_zero, List.drop_succ_cons, List.drop_zero, List.take_nil, List.drop_nil]
    refine wr_x (ox_move rfl rfl) rfl rfl ?_
    refine wr_x (ox_move rfl rfl) rfl rfl ?_
    first | refine wr_x (ox_len (ty := 23) rfl Try.underlying23 rfl) rfl rfl ?_ | refine wr_x (ox_lenR hRo.rd rfl Try.underlying23 rfl) rfl rfl ?_ | refine wr_x (ox_lenR hR.rd.any rfl Try.underlying23 rfl) rfl rfl ?_
    refine wr_x (ox_lss rfl rfl rfl) rfl rfl ?_
    refine wr_x (ox_move rfl rfl) rfl rfl ?_
    refine wr_split (t := 17) rfl (fun hkl => ?_) (fun hkl => ?_)
    · skip
      have hko : k < o.length := by omega
      refine wr_gx (ox_move rfl rfl) rfl rfl rfl rfl ?_
      refine wr_gx (ox_move rfl rfl) rfl rfl rfl rfl ?_
      first | refine wr_gx (ox_index _ rfl Try.underlying23 el3 rfl rfl rfl (by omega)) rfl rfl rfl rfl ?_ | refine wr_gx (ox_indexR _ hRo.rd rfl Try.underlying23 el3 rfl rfl rfl (by omega)) rfl rfl rfl rfl ?_ | refine wr_gx (ox_indexR _ hR.rd.any rfl Try.underlying23 el3 rfl rfl rfl (by omega)) rfl rfl rfl rfl ?_
      refine wr_gx (ox_load rfl Try.underlying3 rfl rfl (by first | exact hRo.cell0 hko rfl | exact hR.any.cell hli rfl)) rfl rfl rfl rfl ?_
      refine wr_gx (ox_move rfl rfl) rfl rfl rfl rfl ?_
      refine wr_gx (ox_move rfl rfl) rfl rfl rfl rfl ?_
      first | refine wr_gx (ox_index _ rfl Try.underlying25 el40 rfl rfl rfl (by omega)) rfl rfl rfl rfl ?_ | refine wr_gx (ox_indexR _ hRo.rd rfl Try.underlying25 el40 rfl rfl rfl (by omega)) rfl rfl rfl rfl ?_ | refine wr_gx (ox_indexR _ hR.rd.any rfl Try.underlying25 el40 rfl rfl rfl (by omega)) rfl rfl rfl rfl ?_
      refine wr_gx (ox_fieldF fd40_1 rfl rfl) rfl rfl rfl rfl ?_
      refine wr_gx (ox_load rfl Try.underlying3 rfl rfl (by first | exact hRo.cell0 hko rfl | exact hR.any.cell hli rfl)) rfl rfl rfl rfl ?_
      refine wr_nil ?_
      refine wl_gx (ox_leq rfl rfl rfl) rfl rfl rfl rfl rfl rfl ?_
      refine wl_x (ox_pick_t rfl rfl rfl) rfl rfl rfl ?_
      refine wl_nil ?_
      refine nx_then ?_
      refine ws_if rfl (fun hlk => ?_) (fun hlk => ?_)
      · skip
        refine ws_skip ?_
        refine nx_then ?_
        refine ws_block ?_
        refine ws_region ?_
        refine wl_x (ox_move rfl rfl) rfl rfl rfl ?_
        refine wl_x (ox_add rfl rfl rfl (by omega)) rfl rfl rfl ?_
        refine wl_x (ox_assign rfl rfl) rfl rfl rfl ?_
        refine wl_nil ?_
        refine nx_block ?_
        refine nx_round (o.length - (k + 1)) _ (by omega) ⟨k + 1, rfl, rfl, rfl, rfl, by omega, fun j hj h => by
          rcases Nat.lt_or_ge j k with h1 | h1
          · exact hle j hj h1
          · have : j = k := by omega
            subst this; exact hlk⟩ (by repeat (first | exact trivial | refine ⟨rfl, ?_⟩))
      · skip
        have hput := put_at l[i].birth o k hk hle (fun _ => hlk)
        refine ws_exit ?_
        refine nx_then_exit ?_
        refine nx_then_exit ?_
        refine nx_block_exit ?_
        refine nx_then ?_
        refine ws_seq ?_
        refine ws_draw 9 fol (by kernel_rfl) rfl ?_
        simp only [List.take_succ_cons, List.take_zero, List.drop_succ_cons, List.drop_zero, List.take_nil, List.drop_nil]
        refine wr_x (ox_move rfl rfl) rfl rfl ?_
        refine wr_x (ox_move rfl rfl) rfl rfl ?_
        first | refine wr_x (ox_index _ rfl Try.underlying25 el40 rfl rfl rfl (by omega)) rfl rfl ?_ | refine wr_x (ox_indexR _ hRo.rd rfl Try.underlying25 el40 rfl rfl rfl (by omega)) rfl rfl ?_ | refine wr_x (ox_indexR _ (hRo.sub (ms' := [Blk g36 3 [.int .i64 l[i].birth], m]) (by simp)).rd rfl Try.underlying25 el40 rfl rfl rfl (by omega)) rfl rfl ?_ | refine wr_x (ox_indexR _ hR.rd.any rfl Try.underlying25 el40 rfl rfl rfl (by omega)) rfl rfl ?_
        refine wr_x (ox_fieldF fd40_1 rfl rfl) rfl rfl ?_
        refine wr_x (ox_load rfl Try.underlying3 rfl rfl (by first | exact hR.any.cell hli rfl)) rfl rfl ?_
        refine wr_b (onb_buildSlice1 [_] rfl Try.underlying23 el3 rfl (by first | rfl | exact (hRo.rd).cells | exact ((hRo.sub (ms' := [Blk g36 3 [.int .i64 l[i].birth], m]) (by simp)).rd).cells | exact (hR.rd.any).cells | exact Rd.cells ‹_› | exact (RdL.rd ‹_›).cells) rfl rfl (by omega)) rfl rfl ?_
        refine wr_x (ox_move rfl rfl) rfl rfl ?_
        refine wr_x (ox_move rfl rfl) rfl rfl ?_
        first | refine wr_x (ox_sliceR_l _ hRo.rd rfl Try.underlying23 el3 rfl rfl rfl (by omega)) rfl rfl ?_ | refine wr_x (ox_sliceR_l _ (hRo.sub (ms' := [Blk g36 3 [.int .i64 l[i].birth], m]) (by simp)).rd rfl Try.underlying23 el3 rfl rfl rfl (by omega)) rfl rfl ?_ | refine wr_x (ox_sliceR_l _ hR.rd.any rfl Try.underlying23 el3 rfl rfl rfl (by omega)) rfl rfl ?_
        refine wr_nil1 (fun g36 => ?_)
        have hRk : RdL cI 1 h [Blk g36 3 [.int .i64 l[i].birth], m] (vsub 1 v k o.length) (o.drop k) := by
          have := (hRo.sub (ms' := [Blk g36 3 [.int .i64 l[i].birth], m]) (by simp)).sub_ (i := k) (j := o.length) hk (Nat.le_refl _)
          rwa [List.take_of_length_le (by simp)] at this
        refine wl_appendL 0 (own_one g36 l[i].birth) hRk rfl Try.underlying23 el3 rfl (by omega) rfl rfl rfl cI_one (by simp; omega) (by simp; omega) rfl rfl rfl (fun v6 m6 hO6 => ?_)
        refine wl_x (ox_assign rfl rfl) rfl rfl rfl ?_
        refine wl_nil ?_
        refine nx_then ?_
        refine ws_region ?_
        refine wl_buildSlice [] [] [] rfl Try.underlying23 el3 rfl (by omega) (by first | rfl | kernel_rfl | simp [madeCells]) (by repeat (first | exact trivial | refine ⟨⟨by first | rfl | exact ((hRo.sub (ms' := [Blk g41 3 [], m6, m]) (by simp)).rd).cells | exact Rd.cells ‹_› | exact (RdL.rd ‹_›).cells, rfl, rfl⟩, ?_⟩)) rfl rfl rfl rfl (fun g41 => ?_)
        refine wl_x (ox_move rfl rfl) rfl rfl rfl ?_
        refine wl_x (ox_move rfl rfl) rfl rfl rfl ?_
        refine wl_x (ox_sliceR_h _ (hRo.sub (ms' := [Blk g41 3 [], m6, m]) (by simp)).rd rfl Try.underlying23 el3 rfl rfl rfl (by omega)) rfl rfl rfl ?_
        have hR0 : RdL cI 1 h [Blk g41 3 [], m6, m] (vsub 1 v 0 k) (o.take k) := (hRo.sub (ms' := [Blk g41 3 [], m6, m]) (by simp)).sub_ (i := 0) (j := k) (by omega) hk
        refine wl_appendL 0 (own_none g41) hR0 rfl Try.underlying23 el3 rfl (by omega) rfl rfl rfl cI_one (by simp; omega) (by simp; omega) rfl rfl rfl (fun v7 m7 hO7 => ?_)
        refine wl_x (ox_move rfl rfl) rfl rfl rfl ?_
        refine wl_appendL 0 hO7 (OwnL.rd hO6 (.tail _ (.head _))) rfl Try.underlying23 el3 rfl (by omega) rfl rfl rfl cI_one (by simp; omega) (by simp; omega) rfl rfl rfl (fun v8 m8 hO8 => ?_)
        refine wl_x (ox_assign rfl rfl) rfl rfl rfl ?_
        refine wl_nil ?_
        refine nx_block ?_
        refine nx_then ?_
        refine ws_region ?_
        refine wl_x (ox_move rfl rfl) rfl rfl rfl ?_
        refine wl_x (ox_add rfl rfl rfl (by omega)) rfl rfl rfl ?_
        refine wl_x (ox_assign rfl rfl) rfl rfl rfl ?_
        refine wl_nil ?_
        refine nx_perm (List.perm_append_comm (l₁ := [m8]) (l₂ := [m6, m])) (nx_drop (nx_drop ?_))
        refine nx_round (l.length - (i + 1)) _ (by omega) ⟨i + 1, v8, m8, _, rfl, rfl, rfl, rfl, by omega, hO8, by rw [hts, putAll_snoc, ← ho, hput]; simp, by simp; omega⟩ (by repeat (first | exact trivial | refine ⟨rfl, ?_⟩))
    · skip
      have hput := put_at l[i].birth o k hk hle (fun h => by omega)
      refine wr_skip rfl rfl rfl rfl rfl ?_
      refine wr_skip rfl rfl rfl rfl rfl ?_
      refine wr_skip rfl rfl rfl rfl rfl ?_
      refine wr_skip rfl rfl rfl rfl rfl ?_
      refine wr_skip rfl rfl rfl rfl rfl ?_
      refine wr_skip rfl rfl rfl rfl rfl ?_
      refine wr_skip rfl rfl rfl rfl rfl ?_
      refine wr_skip rfl rfl rfl rfl rfl ?_
      refine wr_skip rfl rfl rfl rfl rfl ?_
      refine wr_nil ?_
      refine wl_skip rfl rfl rfl rfl rfl rfl rfl ?_
      refine wl_x (ox_pick_f rfl rfl rfl) rfl rfl rfl ?_
      refine wl_nil ?_
      refine nx_then ?_
      refine ws_cond_f rfl ?_
      refine ws_exit ?_
      refine nx_then_exit ?_
      refine nx_then_exit ?_
      refine nx_block_exit ?_
      refine nx_then ?_
      refine ws_seq ?_
      refine ws_draw 9 fol (by kernel_rfl) rfl ?_
      simp only [List.take_succ_cons, List.take_zero, List.drop_succ_cons, List.drop_zero, List.take_nil, List.drop_nil]
      refine wr_x (ox_move rfl rfl) rfl rfl ?_
      refine wr_x (ox_move rfl rfl) rfl rfl ?_
      first | refine wr_x (ox_index _ rfl Try.underlying25 el40 rfl rfl rfl (by omega)) rfl rfl ?_ | refine wr_x (ox_indexR _ hRo.rd rfl Try.underlying25 el40 rfl rfl rfl (by omega)) rfl rfl ?_ | refine wr_x (ox_indexR _ (hRo.sub (ms' := [Blk g36 3 [.int .i64 l[i].birth], m]) (by simp)).rd rfl Try.underlying25 el40 rfl rfl rfl (by omega)) rfl rfl ?_ | refine wr_x (ox_indexR _ hR.rd.any rfl Try.underlying25 el40 rfl rfl rfl (by omega)) rfl rfl ?_
      refine wr_x (ox_fieldF fd40_1 rfl rfl) rfl rfl ?_
      refine wr_x (ox_load rfl Try.underlying3 rfl rfl (by first | exact hR.any.cell hli rfl)) rfl rfl ?_
      refine wr_b (onb_buildSlice1 [_] rfl Try.underlying23 el3 rfl (by first | rfl | exact (hRo.rd).cells | exact ((hRo.sub (ms' := [Blk g36 3 [.int .i64 l[i].birth], m]) (by simp)).rd).cells | exact (hR.rd.any).cells | exact Rd.cells ‹_› | exact (RdL.rd ‹_›).cells) rfl rfl (by omega)) rfl rfl ?_
      refine wr_x (ox_move rfl rfl) rfl rfl ?_
      refine wr_x (ox_move rfl rfl) rfl rfl ?_
      first | refine wr_x (ox_sliceR_l _ hRo.rd rfl Try.underlying23 el3 rfl rfl rfl (by omega)) rfl rfl ?_ | refine wr_x (ox_sliceR_l _ (hRo.sub (ms' := [Blk g36 3 [.int .i64 l[i].birth], m]) (by simp)).rd rfl Try.underlying23 el3 rfl rfl rfl (by omega)) rfl rfl ?_ | refine wr_x (ox_sliceR_l _ hR.rd.any rfl Try.underlying23 el3 rfl rfl rfl (by omega)) rfl rfl ?_
      refine wr_nil1 (fun g36 => ?_)
      have hRk : RdL cI 1 h [Blk g36 3 [.int .i64 l[i].birth], m] (vsub 1 v k o.length) (o.drop k) := by
        have := (hRo.sub (ms' := [Blk g36 3 [.int .i64 l[i].birth], m]) (by simp)).sub_ (i := k) (j := o.length) hk (Nat.le_refl _)
        rwa [List.take_of_length_le (by simp)] at this
      refine wl_appendL 0 (own_one g36 l[i].birth) hRk rfl Try.underlying23 el3 rfl (by omega) rfl rfl rfl cI_one (by simp; omega) (by simp; omega) rfl rfl rfl (fun v6 m6 hO6 => ?_)
      refine wl_x (ox_assign rfl rfl) rfl rfl rfl ?_
      refine wl_nil ?_
      refine nx_then ?_
      refine ws_region ?_
      refine wl_buildSlice [] [] [] rfl Try.underlying23 el3 rfl (by omega) (by first | rfl | kernel_rfl | simp [madeCells]) (by repeat (first | exact trivial | refine ⟨⟨by first | rfl | exact ((hRo.sub (ms' := [Blk g41 3 [], m6, m]) (by simp)).rd).cells | exact Rd.cells ‹_› | exact (RdL.rd ‹_›).cells, rfl, rfl⟩, ?_⟩)) rfl rfl rfl rfl (fun g41 => ?_)
      refine wl_x (ox_move rfl rfl) rfl rfl rfl ?_
      refine wl_x (ox_move rfl rfl) rfl rfl rfl ?_
      refine wl_x (ox_sliceR_h _ (hRo.sub (ms' := [Blk g41 3 [], m6, m]) (by simp)).rd rfl Try.underlying23 el3 rfl rfl rfl (by omega)) rfl rfl rfl ?_
      have hR0 : RdL cI 1 h [Blk g41 3 [], m6, m] (vsub 1 v 0 k) (o.take k) := (hRo.sub (ms' := [Blk g41 3 [], m6, m]) (by simp)).sub_ (i := 0) (j := k) (by omega) hk
      refine wl_appendL 0 (own_none g41) hR0 rfl Try.underlying23 el3 rfl (by omega) rfl rfl rfl cI_one (by simp; omega) (by simp; omega) rfl rfl rfl (fun v7 m7 hO7 => ?_)
      refine wl_x (ox_move rfl rfl) rfl rfl rfl ?_
      refine wl_appendL 0 hO7 (OwnL.rd hO6 (.tail _ (.head _))) rfl Try.underlying23 el3 rfl (by omega) rfl rfl rfl cI_one (by simp; omega) (by simp; omega) rfl rfl rfl (fun v8 m8 hO8 => ?_)
      refine wl_x (ox_assign rfl rfl) rfl rfl rfl ?_
      refine wl_nil ?_
      refine nx_block ?_
      refine nx_then ?_
      refine ws_region ?_
      refine wl_x (ox_move rfl rfl) rfl rfl rfl ?_
      refine wl_x (ox_add rfl rfl rfl (by omega)) rfl rfl rfl ?_
      refine wl_x (ox_assign rfl rfl) rfl rfl rfl ?_
      refine wl_nil ?_
      refine nx_perm (List.perm_append_comm (l₁ := [m8]) (l₂ := [m6, m])) (nx_drop (nx_drop ?_))
      refine nx_round (l.length - (i + 1)) _ (by omega) ⟨i + 1, v8, m8, _, rfl, rfl, rfl, rfl, by omega, hO8, by rw [hts, putAll_snoc, ← ho, hput]; simp, by simp; omega⟩ (by repeat (first | exact trivial | refine ⟨rfl, ?_⟩))
  · skip
    have hil : l.take i = l := List.take_of_length_le (by omega)
    rw [hil] at ho
    refine ws_exit ?_
    refine nx_then_exit ?_
    refine nx_then_exit ?_
    refine nx_block_exit ?_
    refine nx_then ?_
    refine ws_seq ?_
    refine ws_region ?_
    refine wl_x (ox_move rfl rfl) rfl rfl rfl ?_
    refine wl_x (ox_assign rfl rfl) rfl rfl rfl ?_
    refine wl_nil ?_
    refine nx_then ?_
    refine ws_ret ?_
    rw [ho] at hO
    refine nx_freezeL hO (fun h' hle hR' => ?_)
    exact nx_ret1 rfl rfl (⟨rfl, hR'⟩)
end Go.Proofs.Ythdkhnjnhhofgaa

/- Plain: both lists are covered exactly if everyone has a partner. -/
set_option linter.unusedSimpArgs false
set_option linter.unusedVariables false
set_option maxRecDepth 100000
namespace Go.Proofs.Ythdkhnjnhhofgaa
open Go.Kuhn

theorem place_of {F : Nat → Nat → Bool} {nl : Nat} {part : List Int} (hK : KPre F nl part) {x : Nat} (h : 0 < part.count (x : Int)) : ∃ k, part[k]? = some (x : Int) ∧ k < part.length ∧ F x k = true := by
  obtain ⟨k, hk, e⟩ := List.getElem_of_mem (List.count_pos_iff.1 h)
  refine ⟨k, by rw [List.getElem?_eq_getElem hk, e], hk, ?_⟩
  rcases hK k hk with h1 | ⟨p, h1, _, h2⟩
  · rw [e] at h1; omega
  · rw [e] at h1
    have : p = x := by omega
    rwa [this] at h2
/-- A way to place all that a test names. -/
theorem hall' {F G : Nat → Nat → Bool} {i n : Nat} {part : List Int} {seen : List Bool} (T : Nat → Prop) (hone : ∀ x : Nat, part.count (x : Int) ≤ 1) (hi : part.count (i : Int) = 0) (hT : ∀ x : Nat, x = i ∨ (x : Int) ∈ part → T x) (L : LI F i n n (List.replicate n false) part seen)
    (R : Nat → Nat → Prop) (hex : ∀ x, T x → ∃ k, k < n ∧ F x k = true ∧ R x k) (hinj : ∀ x y k, R x k → R y k → x = y) : False := by
  classical
  let pos : Nat → Nat := fun x => if h : T x then (hex x h).choose else 0
  have hp : ∀ x, T x → pos x < n ∧ F x (pos x) = true ∧ R x (pos x) := fun x hx => by
    have : pos x = (hex x hx).choose := by simp only [pos, hx, dif_pos]
    rw [this]; exact (hex x hx).choose_spec
  exact hall (pos := pos) (by simp [List.getElem?_replicate]) (by simp) hone hi L (fun x hx => ⟨(hp x (hT x hx)).1, (hp x (hT x hx)).2.1⟩)
    (fun x y hx hy e => hinj x y (pos x) (hp x (hT x hx)).2.2 (by rw [e]; exact (hp y (hT y hy)).2.2))

theorem longB_lt {la : List Br} {c : Int} {i : Nat} (h : longB la c i = true) : ∃ hi : i < la.length, c < la[i].len := by
  unfold longB at h
  split at h
  · rename_i hi; exact ⟨hi, of_decide_eq_true h⟩
  · cases h
theorem fitsR_lt {la lb : List Br} {c : Int} {i k : Nat} (h : fitsR la lb c i k = true) : ∃ (hi : i < la.length) (hk : k < lb.length), la[i].apart lb[k] ≤ c := by
  unfold fitsR at h
  split at h
  · rename_i hi; exact ⟨hi.1, hi.2, of_decide_eq_true h⟩
  · cases h
theorem apart_comm (x y : Br) : x.apart y = y.apart x := by unfold Br.apart iabs; omega
theorem fitsR_comm {la lb : List Br} {c : Int} {i k : Nat} (h : fitsR la lb c i k = true) : fitsR lb la c k i = true := by
  obtain ⟨hi, hk, h⟩ := fitsR_lt h
  unfold fitsR; rw [dif_pos ⟨hk, hi⟩, apart_comm]; exact decide_eq_true h

theorem cneg_not_cpos {la lb : List Br} {c : Int} (h : CNeg la lb c) : ¬ CPos la lb c := by
  rintro ⟨p2, hl2, hK2, hc2⟩
  obtain ⟨i, part, seen, hi, hl, hpl, hK, hc, L⟩ := h
  refine hall' (G := fitsR la lb c) (fun x => x < la.length ∧ longB la c x = true) (fun x => by rw [hc x]; split <;> omega) (by rw [hc i, if_neg (by omega)]) (fun x hx => ?_) L (fun x k => p2[k]? = some (x : Int)) (fun x hx => ?_) (fun x y k h1 h2 => by rw [h1] at h2; have := Option.some.inj h2; omega)
  · rcases hx with rfl | hx
    · exact ⟨hi, hl⟩
    · have := List.count_pos_iff.2 hx
      rw [hc x] at this
      split at this
      · rename_i h1; exact ⟨by omega, h1.2⟩
      · omega
  · obtain ⟨k, h1, h2, h3⟩ := place_of hK2 (x := x) (by rw [hc2 x, if_pos hx]; decide)
    exact ⟨k, by omega, h3, h1⟩

theorem cpos_or_cneg (la lb : List Br) (c : Int) : CPos la lb c ∨ CNeg la lb c := by
  have go : ∀ i, i ≤ la.length → (∃ part : List Int, part.length = lb.length ∧ KPre (fitsR la lb c) la.length part ∧ ∀ x : Nat, part.count (x : Int) = if x < i ∧ longB la c x = true then 1 else 0) ∨ CNeg la lb c := by
    intro i
    induction i with
    | zero => exact fun _ => .inl ⟨List.replicate lb.length (-1), by simp, fun k hk => .inl (by simp), fun x => by rw [List.count_replicate, if_neg (by simp), if_neg (by omega)]⟩
    | succ i ih =>
      intro hi
      rcases ih (by omega) with ⟨part, h1, h2, h3⟩ | h
      · cases hl : longB la c i with
        | false =>
          refine .inl ⟨part, h1, h2, fun x => ?_⟩
          rw [h3 x]
          by_cases g2 : x = i
          · subst g2; simp [hl]
          · by_cases g1 : x < i
            · simp [g1, show x < i + 1 by omega]
            · simp [g1, show ¬ x < i + 1 by omega]
        | true =>
          rcases kuhn_ex (fitsR la lb c) la.length lb.length _ i (List.replicate lb.length false) part (Nat.le_refl _) (by omega) (by simp) h1 h2 with ⟨s', p', hT⟩ | ⟨s', hL⟩
          · refine .inl ⟨p', by rw [hT.plen, h1], hT.pre, fun x => ?_⟩
            rw [hT.cnt x, h3 x]
            by_cases g2 : x = i
            · subst g2; simp [hl]
            · by_cases g1 : x < i
              · simp [g1, g2, show x < i + 1 by omega]
              · simp [g1, g2, show ¬ x < i + 1 by omega]
          · exact .inr ⟨i, part, s', by omega, hl, h1, h2, h3, hL⟩
      · exact .inr h
  rcases go la.length (Nat.le_refl _) with ⟨part, h1, h2, h3⟩ | h
  · exact .inl ⟨part, h1, h2, h3⟩
  · exact .inr h

theorem fitsD_real {la lb : List Br} {c : Int} {i k : Nat} (h : fitsD la lb c i k = true) : (i < la.length → k < lb.length → fitsR la lb c i k = true) ∧ (∀ hi : i < la.length, ¬ k < lb.length → la[i].len ≤ c) ∧ (¬ i < la.length → ∀ hk : k < lb.length, lb[k].len ≤ c) := by
  unfold fitsD at h
  refine ⟨fun h1 h2 => ?_, fun h1 h2 => ?_, fun h1 h2 => ?_⟩
  · rw [dif_pos ⟨h1, h2⟩] at h; unfold fitsR; rw [dif_pos ⟨h1, h2⟩]; exact h
  · rw [dif_neg (by omega), dif_pos h1] at h; exact of_decide_eq_true h
  · rw [dif_neg (by omega), dif_neg h1, dif_pos h2] at h; exact of_decide_eq_true h

theorem pos_left {la lb : List Br} {c : Int} (h : Pos (fitsD la lb c) (la.length + lb.length)) : ¬ CNeg la lb c := by
  rintro ⟨i, part, seen, hi, hl, hpl, hK, hc, L⟩
  obtain ⟨p2, hl2, hK2, hc2⟩ := h
  refine hall' (G := fitsR la lb c) (fun x => x < la.length ∧ longB la c x = true) (fun x => by rw [hc x]; split <;> omega) (by rw [hc i, if_neg (by omega)]) (fun x hx => ?_) L (fun x k => p2[k]? = some (x : Int)) (fun x hx => ?_) (fun x y k h1 h2 => by rw [h1] at h2; have := Option.some.inj h2; omega)
  · rcases hx with rfl | hx
    · exact ⟨hi, hl⟩
    · have := List.count_pos_iff.2 hx
      rw [hc x] at this
      split at this
      · rename_i h1; exact ⟨by omega, h1.2⟩
      · omega
  · obtain ⟨k, h1, h2, h3⟩ := place_of hK2 (x := x) (by rw [hc2 x (by omega)]; decide)
    obtain ⟨f1, f2, _⟩ := fitsD_real h3
    obtain ⟨g1, g2⟩ := longB_lt hx.2
    rcases Nat.lt_or_ge k lb.length with hk | hk
    · exact ⟨k, hk, f1 hx.1 hk, h1⟩
    · have := f2 g1 (by omega); omega
theorem full {F : Nat → Nat → Bool} {n : Nat} {part : List Int} (hl : part.length = n) (hK : KPre F n part) (hc : ∀ x : Nat, x < n → part.count (x : Int) = 1) (k : Nat) (hk : k < n) : ∃ p : Nat, p < n ∧ part[k]? = some (p : Int) ∧ F p k = true := by
  rcases hK k (by omega) with h | ⟨p, h1, h2, h3⟩
  · exfalso
    have hex : ∀ x, x < n → ∃ j, part[j]? = some (x : Int) := fun x hx => by
      obtain ⟨j, h1, _, _⟩ := place_of hK (x := x) (by rw [hc x hx]; decide)
      exact ⟨j, h1⟩
    classical
    let pos : Nat → Nat := fun x => if h : x < n then (hex x h).choose else 0
    have hp : ∀ x, x < n → part[pos x]? = some (x : Int) := fun x hx => by
      have : pos x = (hex x hx).choose := by simp only [pos, hx, dif_pos]
      rw [this]; exact (hex x hx).choose_spec
    have h1 : ((List.range n).map pos).Nodup := List.pairwise_map.2 (List.nodup_range.imp_of_mem fun {a b} ha hb hne e => hne (by
      have e1 := hp a (by simpa using ha)
      have e2 := hp b (by simpa using hb)
      rw [e, e2] at e1
      have := Option.some.inj e1
      omega))
    have h2 : ∀ y ∈ (List.range n).map pos, y ∈ (List.range n).erase k := fun y hy => by
      obtain ⟨x, hx, rfl⟩ := List.mem_map.1 hy
      have e1 := hp x (by simpa using hx)
      have hlt := (List.getElem?_eq_some_iff.1 e1).1
      have hne : pos x ≠ k := fun e => by
        rw [e, List.getElem?_eq_getElem (by omega), h] at e1
        have := Option.some.inj e1
        omega
      exact (List.mem_erase_of_ne hne).2 (by simp; omega)
    have := nodup_le _ _ h1 h2
    rw [List.length_map, List.length_erase_of_mem (by simpa using hk), List.length_range] at this
    omega
  · exact ⟨p, h2, by rw [List.getElem?_eq_getElem (by omega), h1], h3⟩
theorem pos_right {la lb : List Br} {c : Int} (h : Pos (fitsD la lb c) (la.length + lb.length)) : ¬ CNeg lb la c := by
  rintro ⟨i, part, seen, hi, hl, hpl, hK, hc, L⟩
  obtain ⟨p2, hl2, hK2, hc2⟩ := h
  refine hall' (G := fitsR lb la c) (fun x => x < lb.length ∧ longB lb c x = true) (fun x => by rw [hc x]; split <;> omega) (by rw [hc i, if_neg (by omega)]) (fun x hx => ?_) L (fun x k => p2[x]? = some (k : Int)) (fun x hx => ?_) (fun x y k h1 h2 => one_place (by
      rcases Nat.lt_or_ge k (la.length + lb.length) with h3 | h3
      · rw [hc2 k h3]; decide
      · exfalso
        have hxl := (List.getElem?_eq_some_iff.1 h1).1
        rcases hK2 x hxl with h4 | ⟨p, h4, h5, _⟩
        · rw [List.getElem?_eq_getElem hxl, h4] at h1; have := Option.some.inj h1; omega
        · rw [List.getElem?_eq_getElem hxl, h4] at h1; have := Option.some.inj h1; omega) h1 h2)
  · rcases hx with rfl | hx
    · exact ⟨hi, hl⟩
    · have := List.count_pos_iff.2 hx
      rw [hc x] at this
      split at this
      · rename_i h1; exact ⟨by omega, h1.2⟩
      · omega
  · obtain ⟨p, h1, h2, h3⟩ := full hl2 hK2 hc2 x (by omega)
    obtain ⟨f1, _, f3⟩ := fitsD_real h3
    obtain ⟨g1, g2⟩ := longB_lt hx.2
    rcases Nat.lt_or_ge p la.length with hp | hp
    · exact ⟨p, hp, fitsR_comm (f1 hp hx.1), h2⟩
    · have := f3 (by omega) g1; omega
end Go.Proofs.Ythdkhnjnhhofgaa

/- Plain: who covers both lists can place everyone. -/
set_option linter.unusedSimpArgs false
set_option linter.unusedVariables false
set_option maxRecDepth 100000
namespace Go.Proofs.Ythdkhnjnhhofgaa
open Go.Kuhn

theorem violator {F : Nat → Nat → Bool} {n : Nat} (h : Neg F n) : ∃ Ls S : List Nat, Ls.Nodup ∧ S.Nodup ∧ Ls.length = S.length + 1 ∧ (∀ k ∈ S, k < n) ∧ ∀ x ∈ Ls, x < n ∧ ∀ k, k < n → F x k = true → k ∈ S := by
  obtain ⟨i, part, seen, hi, hl, hK, hc, L⟩ := h
  let S := (List.range n).filter fun k => seen[k]? == some true
  have hS : ∀ k, k ∈ S ↔ seen[k]? = some true := fun k => by
    simp only [S, List.mem_filter, List.mem_range, beq_iff_eq]
    constructor
    · exact fun h => h.2
    · intro h
      refine ⟨?_, h⟩
      obtain ⟨h', _⟩ := List.getElem?_eq_some_iff.1 h
      have e1 := L.slen
      simp at e1; omega
  have hSn : S.Nodup := List.Pairwise.filter _ List.nodup_range
  let f : Nat → Nat := fun k => (part[k]?.getD 0).toNat
  have hf : ∀ k ∈ S, part[k]? = some ((f k : Nat) : Int) ∧ ∀ j', j' < n → F (f k) j' = true → seen[j']? = some true := fun k hk => by
    obtain ⟨p, e1, e2⟩ := L.closed k ((hS k).1 hk) (by simp [List.getElem?_replicate])
    have : f k = p := by simp [f, e1]
    rw [this]; exact ⟨e1, e2⟩
  have hlt : ∀ k ∈ S, f k < i := fun k hk => by
    have h1 := List.count_pos_iff.2 (List.mem_of_getElem? (hf k hk).1)
    rw [hc (f k)] at h1
    split at h1
    · assumption
    · omega
  refine ⟨i :: S.map f, S, ?_, hSn, by simp, fun k hk => by simpa using (List.mem_filter.1 hk).1, fun x hx => ?_⟩
  · refine List.nodup_cons.2 ⟨fun h => ?_, ?_⟩
    · obtain ⟨k, hk, e⟩ := List.mem_map.1 h
      have := hlt k hk; omega
    · refine List.pairwise_map.2 (hSn.imp_of_mem fun {a b} ha hb hne e => hne ?_)
      have h1 := (hf a ha).1
      have h2 := (hf b hb).1
      rw [e] at h1
      exact one_place (by rw [hc (f b)]; split <;> omega) h1 h2
  · rcases List.mem_cons.1 hx with rfl | hx
    · exact ⟨hi, fun k hk hF => (hS k).2 (L.tried k hk hk hF)⟩
    · obtain ⟨k, hk, rfl⟩ := List.mem_map.1 hx
      exact ⟨by have := hlt k hk; omega, fun j hj hF => (hS j).2 ((hf k hk).2 j hj hF)⟩


theorem cpos_pos {la lb : List Br} {c : Int} (h : CPos la lb c) : ∃ pos : Nat → Nat, (∀ x, x < la.length → longB la c x = true → pos x < lb.length ∧ fitsR la lb c x (pos x) = true) ∧ ∀ x y, x < la.length → longB la c x = true → y < la.length → longB la c y = true → pos x = pos y → x = y := by
  obtain ⟨p2, hl2, hK2, hc2⟩ := h
  have hex : ∀ x, (x < la.length ∧ longB la c x = true) → ∃ k, p2[k]? = some (x : Int) ∧ k < lb.length ∧ fitsR la lb c x k = true := fun x hx => by
    obtain ⟨k, h1, h2, h3⟩ := place_of hK2 (x := x) (by rw [hc2 x, if_pos hx]; decide)
    exact ⟨k, h1, by omega, h3⟩
  classical
  let pos : Nat → Nat := fun x => if h : x < la.length ∧ longB la c x = true then (hex x h).choose else 0
  have hp : ∀ x, (x < la.length ∧ longB la c x = true) → p2[pos x]? = some (x : Int) ∧ pos x < lb.length ∧ fitsR la lb c x (pos x) = true := fun x hx => by
    have : pos x = (hex x hx).choose := by simp only [pos, hx, and_self, dif_pos]
    rw [this]; exact (hex x hx).choose_spec
  refine ⟨pos, fun x h1 h2 => (hp x ⟨h1, h2⟩).2, fun x y h1 h2 h3 h4 e => ?_⟩
  have e1 := (hp x ⟨h1, h2⟩).1
  have e2 := (hp y ⟨h3, h4⟩).1
  rw [e, e2] at e1
  have := Option.some.inj e1
  omega
theorem range_nodup_map (n a : Nat) : ((List.range n).map (· + a)).Nodup := List.pairwise_map.2 (List.nodup_range.imp fun h e => h (by omega))

theorem both_pos {p q : List Br} {c : Int} (h1 : CPos p q c) (h2 : CPos q p c) : Pos (fitsD p q c) (p.length + q.length) := by
  rcases pos_or_neg (fitsD p q c) (p.length + q.length) with h | h
  · exact h
  exfalso
  obtain ⟨Ls, S, hLn, hSn, hlen, hSl, hL⟩ := violator h
  by_cases hd : ∃ x ∈ Ls, p.length ≤ x
  · -- a place without a bar: all places without bars and all short bars lie in S
    obtain ⟨d, hdL, hdp⟩ := hd
    have hdS := (hL d hdL).2
    have hSd : ∀ k, q.length ≤ k → k < p.length + q.length → k ∈ S := fun k hk hk' => hdS k hk' (by
      unfold fitsD; rw [dif_neg (by omega), dif_neg (by omega), dif_neg (by omega)])
    have hSs : ∀ k (hk : k < q.length), longB q c k = false → k ∈ S := fun k hk hl => hdS k (by omega) (by
      unfold fitsD; rw [dif_neg (by omega), dif_neg (by omega), dif_pos hk]
      unfold longB at hl; rw [dif_pos hk] at hl
      have := of_decide_eq_false hl
      exact decide_eq_true (by omega))
    obtain ⟨pos, hp, hinj⟩ := cpos_pos h2
    let U := (List.range q.length).filter fun k => decide (k ∉ S)
    have hU : ∀ k ∈ U, k < q.length ∧ longB q c k = true ∧ k ∉ S := fun k hk => by
      obtain ⟨g1, g2⟩ := List.mem_filter.1 hk
      have g1 : k < q.length := by simpa using g1
      have g2 : k ∉ S := of_decide_eq_true g2
      refine ⟨g1, ?_, g2⟩
      cases e : longB q c k with
      | true => rfl
      | false => exact absurd (hSs k g1 e) g2
    have hUn : U.Nodup := List.Pairwise.filter _ List.nodup_range
    have c1 := nodup_le (List.range (p.length + q.length)) (S ++ U) List.nodup_range fun k hk => by
      have hk : k < p.length + q.length := by simpa using hk
      by_cases hS : k ∈ S
      · exact List.mem_append_left _ hS
      · refine List.mem_append_right _ (List.mem_filter.2 ⟨?_, decide_eq_true hS⟩)
        rcases Nat.lt_or_ge k q.length with g | g
        · simpa using g
        · exact absurd (hSd k g hk) hS
    have c2 := nodup_le (Ls ++ U.map pos) (List.range (p.length + q.length)) (by
      refine List.nodup_append.2 ⟨hLn, List.pairwise_map.2 (hUn.imp_of_mem fun {a b} ha hb hne e => hne (hinj a b (hU a ha).1 (hU a ha).2.1 (hU b hb).1 (hU b hb).2.1 e)), fun a ha b hb e => ?_⟩
      obtain ⟨k, hk, rfl⟩ := List.mem_map.1 hb
      obtain ⟨g1, g2, g3⟩ := hU k hk
      obtain ⟨g4, g5⟩ := hp k g1 g2
      subst e
      refine g3 ((hL _ ha).2 k (by omega) ?_)
      have := fitsR_comm g5
      obtain ⟨i1, i2, i3⟩ := fitsR_lt this
      unfold fitsD; rw [dif_pos ⟨i1, i2⟩]; exact decide_eq_true i3) fun x hx => by
      rcases List.mem_append.1 hx with hx | hx
      · simpa using (hL x hx).1
      · obtain ⟨k, hk, rfl⟩ := List.mem_map.1 hx
        have := (hp k (hU k hk).1 (hU k hk).2.1).1
        simp; omega
    simp at c1 c2
    omega
  · have hreal : ∀ x ∈ Ls, x < p.length := fun x hx => by
      rcases Nat.lt_or_ge x p.length with g | g
      · exact g
      · exact absurd ⟨x, hx, g⟩ hd
    by_cases hs : ∃ x ∈ Ls, longB p c x = false
    · -- a short bar: all places without bars lie in S
      obtain ⟨x, hx, hl⟩ := hs
      have hxp := hreal x hx
      have hlx : p[x].len ≤ c := by
        unfold longB at hl; rw [dif_pos hxp] at hl
        have := of_decide_eq_false hl
        omega
      have c1 := nodup_le Ls (List.range p.length) hLn fun y hy => by simpa using hreal y hy
      have c2 := nodup_le ((List.range p.length).map (· + q.length)) S (range_nodup_map _ _) fun k hk => by
        obtain ⟨j, hj, rfl⟩ := List.mem_map.1 hk
        have hj : j < p.length := by simpa using hj
        refine (hL x hx).2 _ (by omega) ?_
        unfold fitsD; rw [dif_neg (by omega), dif_pos hxp]; exact decide_eq_true hlx
      simp at c1 c2
      omega
    · have hlong : ∀ x ∈ Ls, longB p c x = true := fun x hx => by
        cases e : longB p c x with
        | true => rfl
        | false => exact absurd ⟨x, hx, e⟩ hs
      obtain ⟨pos, hp, hinj⟩ := cpos_pos h1
      have c1 := nodup_le (Ls.map pos) S (List.pairwise_map.2 (hLn.imp_of_mem fun {a b} ha hb hne e => hne (hinj a b (hreal a ha) (hlong a ha) (hreal b hb) (hlong b hb) e))) fun k hk => by
        obtain ⟨x, hx, rfl⟩ := List.mem_map.1 hk
        obtain ⟨g4, g5⟩ := hp x (hreal x hx) (hlong x hx)
        refine (hL x hx).2 _ (by omega) ?_
        obtain ⟨i1, i2, i3⟩ := fitsR_lt g5
        unfold fitsD; rw [dif_pos ⟨i1, i2⟩]; exact decide_eq_true i3
      simp at c1
      omega
theorem pos_iff (p q : List Br) (c : Int) : Pos (fitsD p q c) (p.length + q.length) ↔ CPos p q c ∧ CPos q p c :=
  ⟨fun h => ⟨(cpos_or_cneg p q c).resolve_right (pos_left h), (cpos_or_cneg q p c).resolve_right (pos_right h)⟩, fun h => both_pos h.1 h.2⟩
end Go.Proofs.Ythdkhnjnhhofgaa

/- Walks: the reference's distance. -/
set_option linter.unusedSimpArgs false
set_option linter.unusedVariables false
set_option maxRecDepth 100000
namespace Go.Proofs.Ythdkhnjnhhofgaa
open Go.Eng Go.RowKit Go.Kuhn

theorem chosen_open (dim : Int) : Br.chosen dim true = Br.openIn dim := by funext b; simp [Br.chosen, Br.openIn]
theorem chosen_fin (dim : Int) : Br.chosen dim false = Br.finIn dim := by
  funext b; unfold Br.chosen Br.finIn Br.cnt
  cases b.opn <;> simp
theorem sorted_perm_eq : ∀ {l l' : List Int}, l.Pairwise (· ≤ ·) → l'.Pairwise (· ≤ ·) → l.Perm l' → l = l' := fun h h' p =>
  p.eq_of_pairwise (fun a b _ _ h1 h2 => by omega) h h'
theorem putAll_isort (l : List Int) : putAll l = isort l := sorted_perm_eq (putAll_sorted l) (isort_sorted l) ((putAll_perm l).trans (isort_perm l).symm)

open Classical in
/-- Are the long bars covered? -/
noncomputable def cposB (p q : List Br) (c : Int) : Bool := decide (CPos p q c)
theorem covered_v (la lb : List Br) (va vb : Value) (cost : Int) (h : Hp) (hRa : RdL cBr 6 h [] va la) (hRb : RdL cBr 6 h [] vb lb) (hla : la.length ≤ 1000000) (hlb : lb.length ≤ 1000000) (hA : ∀ b ∈ la, BOk b) (hB : ∀ b ∈ lb, BOk b) (ms : List Hp) :
    FnV Try.prog 42 #[va, vb, .int .i64 cost] h ms (.bool (cposB la lb cost)) := by
  refine fun w hw => (?_ : FnV _ _ _ h [] _) w (hw.weaken (Hp.le_refl _) (List.nil_sublist _))
  refine FnT.toV (FnT.mono (covered_ok la lb va vb cost h hRa hRb hla hlb hA hB) ?_)
  rintro r h' ms' ⟨b, rfl, h1, h2⟩
  unfold cposB
  cases b with
  | true => simp [h1 rfl]
  | false => simp [cneg_not_cpos (h2 rfl)]

/-- What the search among the first k costs has found. -/
def Best (p q : List Br) (L : Int) (C : List Int) (k : Nat) (best : Int) : Prop :=
  (best = -1 ∧ ∀ j (hj : j < C.length), j < k → L ≤ C[j] → ¬ Pos (fitsD p q C[j]) (p.length + q.length)) ∨
  (0 ≤ best ∧ best ∈ C ∧ L ≤ best ∧ Pos (fitsD p q best) (p.length + q.length) ∧ ∀ j (hj : j < C.length), j < k → L ≤ C[j] → Pos (fitsD p q C[j]) (p.length + q.length) → best ≤ C[j])
theorem Best.skip {p q : List Br} {L : Int} {C : List Int} {k : Nat} {best : Int} (h : Best p q L C k best) (hs : ∀ hk : k < C.length, L ≤ C[k] → Pos (fitsD p q C[k]) (p.length + q.length) → 0 ≤ best ∧ best ≤ C[k]) : Best p q L C (k + 1) best := by
  rcases h with ⟨h1, h2⟩ | ⟨h0, h1, h2, h3, h4⟩
  · refine .inl ⟨h1, fun j hj hjk h5 h6 => ?_⟩
    by_cases e : j = k
    · subst e; have := (hs hj h5 h6).1; omega
    · exact h2 j hj (by omega) h5 h6
  · refine .inr ⟨h0, h1, h2, h3, fun j hj hjk h5 h6 => ?_⟩
    by_cases e : j = k
    · subst e; exact (hs hj h5 h6).2
    · exact h4 j hj (by omega) h5 h6
theorem Best.take {p q : List Br} {L : Int} {C : List Int} {k : Nat} {best : Int} (h : Best p q L C k best) (hL : 0 ≤ L) (hk : k < C.length) (h1 : L ≤ C[k]) (h2 : Pos (fitsD p q C[k]) (p.length + q.length)) (h3 : 0 ≤ best → C[k] ≤ best) : Best p q L C (k + 1) C[k] := by
  refine .inr ⟨by omega, List.getElem_mem hk, h1, h2, fun j hj hjk h5 h6 => ?_⟩
  by_cases e : j = k
  · subst e; exact Int.le_refl _
  · rcases h with ⟨g1, g2⟩ | ⟨g0, g1, g2, g3, g4⟩
    · exact absurd h6 (g2 j hj (by omega) h5)
    · have := g4 j hj (by omega) h5 h6
      have := h3 g0
      omega

theorem cposB_and {p q : List Br} {c : Int} : Pos (fitsD p q c) (p.length + q.length) ↔ cposB p q c = true ∧ cposB q p c = true := by
  rw [pos_iff]; simp [cposB]

theorem max_mem : ∀ l : List Int, l ≠ [] → ∃ M ∈ l, ∀ c ∈ l, c ≤ M
  | [], h => absurd rfl h
  | [a], _ => ⟨a, by simp, by simp⟩
  | a :: b :: l, _ => by
    obtain ⟨M, h1, h2⟩ := max_mem (b :: l) (by simp)
    rcases Int.le_total a M with h | h
    · exact ⟨M, by simp [h1], fun c hc => by
        rcases List.mem_cons.1 hc with rfl | hc
        · exact h
        · exact h2 c hc⟩
    · exact ⟨a, by simp, fun c hc => by
        rcases List.mem_cons.1 hc with rfl | hc
        · exact Int.le_refl _
        · have := h2 c hc; omega⟩
set_option maxHeartbeats 1000000 in
theorem rdistance_ok (la lb : List Br) (va vb : Value) (dim : Int) (h : Hp) (hRa : RdL cBr 6 h [] va la) (hRb : RdL cBr 6 h [] vb lb) (hla : la.length ≤ 10000) (hlb : lb.length ≤ 10000) (hA : ∀ b ∈ la, BOk b) (hB : ∀ b ∈ lb, BOk b) :
    FnT Try.prog 13 #[va, vb, .int .i64 dim] h [] (fun r _ _ => ∃ (d : Int) (e : Bool), r = .tuple #[.int .i64 d, .bool e] ∧ ((birthsOf dim la).length ≠ (birthsOf dim lb).length → d = 0 ∧ e = false) ∧ ((birthsOf dim la).length = (birthsOf dim lb).length → e = true ∧ IsDist (la.filter (Br.finIn dim)) (lb.filter (Br.finIn dim)) (leastOf ((birthsOf dim la).zip (birthsOf dim lb))) d)) := by
  have hfl : ∀ (f : Br → Bool) (l : List Br), (l.filter f).length ≤ l.length := fun f l => List.length_filter_le _ _
  have hf1 := hfl (Br.openIn dim) la
  have hf2 := hfl (Br.openIn dim) lb
  refine fn_enter Try.func13 Try.ntmps13 rfl rfl (fun w0 hw0 => ?_)
  simp only [argS]
  refine ws_seq ?_
  refine ws_region ?_
  refine wl_x (ox_assign rfl rfl) rfl rfl rfl ?_
  refine wl_x (ox_assign rfl rfl) rfl rfl rfl ?_
  refine wl_nil ?_
  refine nx_then ?_
  refine ws_seq ?_
  refine ws_region ?_
  refine wl_x (ox_move rfl rfl) rfl rfl rfl ?_
  refine wl_x (ox_move rfl rfl) rfl rfl rfl ?_
  refine wl_call rfl Try.call39 rfl (chosen_ok la va dim true h hRa (by omega)) rfl rfl rfl (fun v1 h1 _ l1 hL => ?_)
  obtain ⟨rfl, hR1⟩ := hL
  rw [chosen_open] at hR1
  refine wl_call rfl Try.call38 rfl (rbirths_ok _ v1 h1 hR1 (by omega)) rfl rfl rfl (fun vx h2 _ l2 hL => ?_)
  obtain ⟨rfl, hRx⟩ := hL
  rw [putAll_isort] at hRx
  refine wl_x (ox_assign rfl rfl) rfl rfl rfl ?_
  refine wl_nil ?_
  refine nx_then ?_
  refine ws_seq ?_
  refine ws_region ?_
  refine wl_x (ox_move rfl rfl) rfl rfl rfl ?_
  refine wl_x (ox_move rfl rfl) rfl rfl rfl ?_
  refine wl_call rfl Try.call39 rfl (chosen_ok lb vb dim true h2 (hRb.up (Hp.le_trans l1 l2)) (by omega)) rfl rfl rfl (fun v2 h3 _ l3 hL => ?_)
  obtain ⟨rfl, hR2⟩ := hL
  rw [chosen_open] at hR2
  refine wl_call rfl Try.call38 rfl (rbirths_ok _ v2 h3 hR2 (by omega)) rfl rfl rfl (fun vy h4 _ l4 hL => ?_)
  obtain ⟨rfl, hRy⟩ := hL
  rw [putAll_isort] at hRy
  have hRx := hRx.up (Hp.le_trans l3 l4)
  have hl4 := Hp.le_trans (Hp.le_trans l1 l2) (Hp.le_trans l3 l4)
  have hRa1 := hRa.up hl4
  have hRb1 := hRb.up hl4
  clear hRa hRb hR1 hR2 l1 l2 l3 l4 hl4
  have hxb := birthsOf_bd dim la hA
  have hyb := birthsOf_bd dim lb hB
  have hxl := birthsOf_len dim la
  have hyl := birthsOf_len dim lb
  change RdL cI 1 h4 [] vx (birthsOf dim la) at hRx
  change RdL cI 1 h4 [] vy (birthsOf dim lb) at hRy
  generalize hX : birthsOf dim la = X at hRx hxb hxl ⊢
  generalize hY : birthsOf dim lb = Y at hRy hyb hyl ⊢
  refine wl_x (ox_assign rfl rfl) rfl rfl rfl ?_
  refine wl_nil ?_
  refine nx_then ?_
  refine ws_seq ?_
  refine ws_seq ?_
  refine ws_region ?_
  refine wl_x (ox_move rfl rfl) rfl rfl rfl ?_
  first | refine wl_x (ox_len (ty := 23) rfl Try.underlying23 rfl) rfl rfl rfl ?_ | refine wl_x (ox_lenR hRx.rd.any rfl Try.underlying23 rfl) rfl rfl rfl ?_ | refine wl_x (ox_lenR hRy.rd.any rfl Try.underlying23 rfl) rfl rfl rfl ?_
  refine wl_x (ox_move rfl rfl) rfl rfl rfl ?_
  first | refine wl_x (ox_len (ty := 23) rfl Try.underlying23 rfl) rfl rfl rfl ?_ | refine wl_x (ox_lenR hRx.rd.any rfl Try.underlying23 rfl) rfl rfl rfl ?_ | refine wl_x (ox_lenR hRy.rd.any rfl Try.underlying23 rfl) rfl rfl rfl ?_
  refine wl_x (ox_nei rfl rfl rfl) rfl rfl rfl ?_
  refine wl_nil ?_
  refine nx_then ?_
  have hZ : ∀ p ∈ X.zip Y, iabs (p.1 - p.2) ≤ 2000000000000 := fun p hp => by
    have h1 := hxb _ (List.of_mem_zip hp).1
    have h2 := hyb _ (List.of_mem_zip hp).2
    unfold iabs; omega
  refine ws_if rfl (fun hne => ?_) (fun hne => ?_)
  · skip
    refine ws_seq ?_
    refine ws_region ?_
    refine wl_x (ox_assign rfl rfl) rfl rfl rfl ?_
    refine wl_x (ox_assign rfl rfl) rfl rfl rfl ?_
    refine wl_nil ?_
    refine nx_then ?_
    refine ws_ret ?_
    refine nx_then_ret ?_
    exact nx_ret2 rfl rfl rfl (⟨0, false, rfl, fun _ => ⟨rfl, rfl⟩, fun h => absurd h (by omega)⟩)
  · skip
    have hlen : X.length = Y.length := by omega
    refine ws_skip ?_
    refine nx_then ?_
    refine ws_seq ?_
    refine ws_region ?_
    refine wl_x (ox_assign rfl rfl) rfl rfl rfl ?_
    refine wl_nil ?_
    refine nx_then ?_
    refine ws_seq ?_
    refine ws_seq ?_
    refine ws_region ?_
    refine wl_x (ox_assign rfl rfl) rfl rfl rfl ?_
    refine wl_nil ?_
    refine nx_then ?_
    refine ws_block ?_
    refine ws_loop (fun q s h' ms' => ∃ (k : Nat), q = X.length - k ∧ s = [(0, va), (1, vb), (2, .int .i64 dim), (8, vx), (9, vy), (10, .int .i64 (leastOf ((X.zip Y).take k))), (11, .int .i64 k)] ∧ h4 = h' ∧ ms' = [] ∧ k ≤ X.length)
      (X.length - 0) _ ⟨0, rfl, rfl, rfl, rfl, by omega⟩ (by repeat (first | exact trivial | refine ⟨rfl, ?_⟩)) ?_
    rintro q s h' ms' ⟨k, rfl, rfl, rfl, rfl, hk⟩
    refine ws_seq ?_
    refine ws_seq ?_
    refine ws_region ?_
    refine wl_x (ox_move rfl rfl) rfl rfl rfl ?_
    refine wl_x (ox_move rfl rfl) rfl rfl rfl ?_
    first | refine wl_x (ox_len (ty := 23) rfl Try.underlying23 rfl) rfl rfl rfl ?_ | refine wl_x (ox_lenR hRx.rd.any rfl Try.underlying23 rfl) rfl rfl rfl ?_ | refine wl_x (ox_lenR hRy.rd.any rfl Try.underlying23 rfl) rfl rfl rfl ?_
    refine wl_x (ox_lss rfl rfl rfl) rfl rfl rfl ?_
    refine wl_nil ?_
    refine nx_then ?_
    refine ws_if rfl (fun hlt => ?_) (fun hlt => ?_)
    · skip
      have hkx : k < X.length := by omega
      have hky : k < Y.length := by omega
      have hkz : k < (X.zip Y).length := by simp; omega
      have b1 := hxb _ (List.getElem_mem hkx)
      have b2 := hyb _ (List.getElem_mem hky)
      have b3 := leastOf_bd ((X.zip Y).take k) fun p hp => hZ p (List.mem_of_mem_take hp)
      have b4 : iabs (X[k] - Y[k]) ≤ 2000000000000 ∧ 0 ≤ iabs (X[k] - Y[k]) := by unfold iabs; omega
      have hst : (X.zip Y).take (k + 1) = (X.zip Y).take k ++ [(X[k], Y[k])] := by rw [List.take_succ_eq_append_getElem hkz]; simp
      refine ws_skip ?_
      refine nx_then ?_
      refine ws_seq ?_
      refine ws_block ?_
      refine ws_drawP 9 [true] fol (by kernel_rfl) (by kernel_rfl) (by kernel_rfl) ?_
      refine pz_x rfl rfl rfl rfl (px_move rfl rfl) ?_
      refine ⟨rfl, ?_⟩
      simp only [zapL, zap, List.cons_append, List.nil_append, List.take_succ_cons, List.take_zero, List.drop_succ_cons, List.drop_zero, List.take_nil, List.drop_nil]
      refine wr_z rfl rfl rfl ?_
      refine wr_x (ox_move rfl rfl) rfl rfl ?_
      refine wr_x (ox_move rfl rfl) rfl rfl ?_
      first | refine wr_x (ox_index _ rfl Try.underlying23 el3 rfl rfl rfl (by omega)) rfl rfl ?_ | refine wr_x (ox_indexR _ hRx.rd.any rfl Try.underlying23 el3 rfl rfl rfl (by omega)) rfl rfl ?_ | refine wr_x (ox_indexR _ hRy.rd.any rfl Try.underlying23 el3 rfl rfl rfl (by omega)) rfl rfl ?_
      refine wr_x (ox_load rfl Try.underlying3 rfl rfl (by first | exact hRx.any.cell0 hkx rfl | exact hRy.any.cell0 hky rfl)) rfl rfl ?_
      refine wr_x (ox_move rfl rfl) rfl rfl ?_
      refine wr_x (ox_move rfl rfl) rfl rfl ?_
      first | refine wr_x (ox_index _ rfl Try.underlying23 el3 rfl rfl rfl (by omega)) rfl rfl ?_ | refine wr_x (ox_indexR _ hRx.rd.any rfl Try.underlying23 el3 rfl rfl rfl (by omega)) rfl rfl ?_ | refine wr_x (ox_indexR _ hRy.rd.any rfl Try.underlying23 el3 rfl rfl rfl (by omega)) rfl rfl ?_
      refine wr_x (ox_load rfl Try.underlying3 rfl rfl (by first | exact hRx.any.cell0 hkx rfl | exact hRy.any.cell0 hky rfl)) rfl rfl ?_
      refine wr_nil ?_
      refine wl_x (ox_sub rfl rfl rfl (by omega)) rfl rfl rfl ?_
      refine wl_x (ox_call rfl Try.call40 rfl (rabs_ok _ (by omega) _ _)) rfl rfl rfl ?_
      refine wl_x (ox_mul rfl rfl rfl (by omega)) rfl rfl rfl ?_
      refine wl_x (ox_max rfl rfl rfl) rfl rfl rfl ?_
      refine wl_x (ox_assign rfl rfl) rfl rfl rfl ?_
      refine wl_nil ?_
      refine nx_q0 ?_
      refine nx_block ?_
      refine nx_then ?_
      refine ws_region ?_
      refine wl_x (ox_move rfl rfl) rfl rfl rfl ?_
      refine wl_x (ox_add rfl rfl rfl (by omega)) rfl rfl rfl ?_
      refine wl_x (ox_assign rfl rfl) rfl rfl rfl ?_
      refine wl_nil ?_
      refine nx_round (X.length - (k + 1)) _ (by omega) ⟨k + 1, rfl, by rw [hst, leastOf_snoc], rfl, rfl, by omega⟩ (by repeat (first | exact trivial | refine ⟨rfl, ?_⟩))
    · skip
      have hkX : k = X.length := by omega
      have htk : (X.zip Y).take k = X.zip Y := List.take_of_length_le (by simp; omega)
      rw [htk]
      have b3 := leastOf_bd (X.zip Y) hZ
      generalize leastOf (X.zip Y) = L at b3 ⊢
      refine ws_exit ?_
      refine nx_then_exit ?_
      refine nx_then_exit ?_
      refine nx_block_exit ?_
      refine nx_then ?_
      refine ws_seq ?_
      refine ws_region ?_
      refine wl_x (ox_move rfl rfl) rfl rfl rfl ?_
      refine wl_x (ox_move rfl rfl) rfl rfl rfl ?_
      refine wl_call rfl Try.call39 rfl (chosen_ok la va dim false h4 hRa1 (by omega)) rfl rfl rfl (fun vp h5 _ l5 hL => ?_)
      obtain ⟨rfl, hRp⟩ := hL
      refine wl_x (ox_assign rfl rfl) rfl rfl rfl ?_
      refine wl_nil ?_
      refine nx_then ?_
      refine ws_seq ?_
      refine ws_region ?_
      refine wl_x (ox_move rfl rfl) rfl rfl rfl ?_
      refine wl_x (ox_move rfl rfl) rfl rfl rfl ?_
      refine wl_call rfl Try.call39 rfl (chosen_ok lb vb dim false h5 (hRb1.up l5) (by omega)) rfl rfl rfl (fun vq h6 _ l6 hL => ?_)
      obtain ⟨rfl, hRq⟩ := hL
      have hRp := hRp.up l6
      rw [chosen_fin] at hRp hRq
      have hp1 : (la.filter (Br.finIn dim)).length ≤ la.length := List.length_filter_le _ _
      have hq1 : (lb.filter (Br.finIn dim)).length ≤ lb.length := List.length_filter_le _ _
      have hpA : ∀ b ∈ la.filter (Br.finIn dim), BOk b := fun b hb => hA b (List.mem_filter.1 hb).1
      have hqB : ∀ b ∈ lb.filter (Br.finIn dim), BOk b := fun b hb => hB b (List.mem_filter.1 hb).1
      generalize la.filter (Br.finIn dim) = p at hRp hp1 hpA ⊢
      generalize lb.filter (Br.finIn dim) = q at hRq hq1 hqB ⊢
      refine wl_x (ox_assign rfl rfl) rfl rfl rfl ?_
      refine wl_nil ?_
      refine nx_then ?_
      refine ws_seq ?_
      refine ws_region ?_
      refine wl_x (ox_assign rfl rfl) rfl rfl rfl ?_
      refine wl_nil ?_
      refine nx_then ?_
      refine ws_seq ?_
      refine ws_region ?_
      refine wl_x (ox_move rfl rfl) rfl rfl rfl ?_
      refine wl_buildSlice1 [_] rfl Try.underlying23 el3 rfl (by first | rfl | exact (hRp.rd.any).cells | exact (hRq.rd.any).cells | exact Rd.cells ‹_› | exact (RdL.rd ‹_›).cells) rfl rfl (by omega) rfl rfl rfl (fun g61 => ?_)
      refine wl_x (ox_assign rfl rfl) rfl rfl rfl ?_
      refine wl_nil ?_
      refine nx_then ?_
      refine ws_seq ?_
      refine ws_seq ?_
      refine ws_region ?_
      refine wl_x (ox_assign rfl rfl) rfl rfl rfl ?_
      refine wl_nil ?_
      refine nx_then ?_
      refine ws_block ?_
      refine ws_loop (fun n s h' ms' => ∃ (k : Nat) (v : Value) (m : Hp) (C : List Int), n = p.length - k ∧ s = [(10, .int .i64 L), (12, vp), (13, vq), (14, .int .i64 (-1)), (15, v), (16, .int .i64 k)] ∧ h6 = h' ∧ ms' = [m] ∧ k ≤ p.length ∧ OwnL cI 1 3 m v C ∧ C = L :: ((p.take k).flatMap fun x => x.len :: q.map x.apart) ∧ C.length ≤ 1 + k * 20000)
        (p.length - 0) _ ⟨0, _, _, [L], rfl, rfl, rfl, rfl, by omega, own_one _ _, rfl, by simp⟩ (by repeat (first | exact trivial | refine ⟨rfl, ?_⟩)) ?_
      rintro n s h' ms' ⟨k, v, m, C, rfl, rfl, rfl, rfl, hk, hO, hC, hCl⟩
      refine ws_seq ?_
      refine ws_seq ?_
      refine ws_region ?_
      refine wl_x (ox_move rfl rfl) rfl rfl rfl ?_
      refine wl_x (ox_move rfl rfl) rfl rfl rfl ?_
      first | refine wl_x (ox_len (ty := 25) rfl Try.underlying25 rfl) rfl rfl rfl ?_ | refine wl_x (ox_lenR hRp.rd.any rfl Try.underlying25 rfl) rfl rfl rfl ?_ | refine wl_x (ox_lenR hRq.rd.any rfl Try.underlying25 rfl) rfl rfl rfl ?_
      refine wl_x (ox_lss rfl rfl rfl) rfl rfl rfl ?_
      refine wl_nil ?_
      refine nx_then ?_
      refine ws_if rfl (fun hltp => ?_) (fun hltp => ?_)
      · skip
        have hkp : k < p.length := by omega
        have hbk := hpA _ (List.getElem_mem hkp)
        obtain ⟨b1, b2, b4, b5⟩ := hbk
        have hbk := hpA _ (List.getElem_mem hkp)
        have hts : (p.take (k + 1)).flatMap (fun x => x.len :: q.map x.apart) = (p.take k).flatMap (fun x => x.len :: q.map x.apart) ++ (p[k].len :: q.map p[k].apart) := by
          rw [List.take_succ_eq_append_getElem hkp, List.flatMap_append]; simp
        refine ws_skip ?_
        refine nx_then ?_
        refine ws_seq ?_
        refine ws_block ?_
        refine ws_seq ?_
        refine ws_drawP 11 [true] fol (by kernel_rfl) (by kernel_rfl) (by kernel_rfl) ?_
        refine pz_x rfl rfl rfl rfl (px_move rfl rfl) ?_
        refine ⟨rfl, ?_⟩
        simp only [zapL, zap, List.cons_append, List.nil_append, List.take_succ_cons, List.take_zero, List.drop_succ_cons, List.drop_zero, List.take_nil, List.drop_nil]
        refine wr_z rfl rfl rfl ?_
        refine wr_x (ox_move rfl rfl) rfl rfl ?_
        refine wr_x (ox_move rfl rfl) rfl rfl ?_
        first | refine wr_x (ox_index _ rfl Try.underlying25 el40 rfl rfl rfl (by omega)) rfl rfl ?_ | refine wr_x (ox_indexR _ hRp.rd.any rfl Try.underlying25 el40 rfl rfl rfl (by omega)) rfl rfl ?_ | refine wr_x (ox_indexR _ hRq.rd.any rfl Try.underlying25 el40 rfl rfl rfl (by omega)) rfl rfl ?_
        refine wr_x (ox_fieldF fd40_2 rfl rfl) rfl rfl ?_
        refine wr_x (ox_load rfl Try.underlying3 rfl rfl (by first | exact hRp.any.cell hkp rfl)) rfl rfl ?_
        refine wr_x (ox_move rfl rfl) rfl rfl ?_
        refine wr_x (ox_move rfl rfl) rfl rfl ?_
        first | refine wr_x (ox_index _ rfl Try.underlying25 el40 rfl rfl rfl (by omega)) rfl rfl ?_ | refine wr_x (ox_indexR _ hRp.rd.any rfl Try.underlying25 el40 rfl rfl rfl (by omega)) rfl rfl ?_ | refine wr_x (ox_indexR _ hRq.rd.any rfl Try.underlying25 el40 rfl rfl rfl (by omega)) rfl rfl ?_
        refine wr_x (ox_fieldF fd40_1 rfl rfl) rfl rfl ?_
        refine wr_x (ox_load rfl Try.underlying3 rfl rfl (by first | exact hRp.any.cell hkp rfl)) rfl rfl ?_
        refine wr_nil ?_
        refine wl_x (ox_sub rfl rfl rfl (by omega)) rfl rfl rfl ?_
        refine wl_buildSlice1 [_] rfl Try.underlying23 el3 rfl (by first | rfl | exact (hRp.rd.any).cells | exact (hRq.rd.any).cells | exact Rd.cells ‹_› | exact (RdL.rd ‹_›).cells) rfl rfl (by omega) rfl rfl rfl (fun g80 => ?_)
        refine wl_appendL 1 hO (RdL.one cI_len (List.Mem.head _) rfl) rfl Try.underlying23 el3 rfl (by omega) rfl rfl rfl cI_one (by simp; omega) (by simp; omega) rfl rfl rfl (fun v1 m1 hO1 => ?_)
        refine wl_x (ox_assign rfl rfl) rfl rfl rfl ?_
        refine wl_nil ?_
        refine nx_q0 ?_
        refine nx_then ?_
        refine ws_seq ?_
        refine ws_region ?_
        refine wl_x (ox_assign rfl rfl) rfl rfl rfl ?_
        refine wl_nil ?_
        refine nx_then ?_
        refine ws_block ?_
        refine ws_drop ?_
        refine ws_loop (fun n s h' ms' => ∃ (j : Nat) (v : Value) (m : Hp) (D : List Int), n = q.length - j ∧ s = [(10, .int .i64 L), (12, vp), (13, vq), (14, .int .i64 (-1)), (15, v), (16, .int .i64 k), (17, .int .i64 j)] ∧ h6 = h' ∧ ms' = [m] ∧ j ≤ q.length ∧ OwnL cI 1 3 m v D ∧ D = C ++ p[k].len :: (q.take j).map p[k].apart ∧ D.length ≤ 2 + k * 20000 + j)
          (q.length - 0) _ ⟨0, _, m1, _, rfl, rfl, rfl, rfl, by omega, hO1, by simp [Br.len], by simp; omega⟩ (by repeat (first | exact trivial | refine ⟨rfl, ?_⟩)) ?_
        clear hO hO1
        rintro n s h' ms' ⟨j, v, m, D, rfl, rfl, rfl, rfl, hj, hO, hD, hDl⟩
        refine ws_seq ?_
        refine ws_seq ?_
        refine ws_region ?_
        refine wl_x (ox_move rfl rfl) rfl rfl rfl ?_
        refine wl_x (ox_move rfl rfl) rfl rfl rfl ?_
        first | refine wl_x (ox_len (ty := 25) rfl Try.underlying25 rfl) rfl rfl rfl ?_ | refine wl_x (ox_lenR hRp.rd.any rfl Try.underlying25 rfl) rfl rfl rfl ?_ | refine wl_x (ox_lenR hRq.rd.any rfl Try.underlying25 rfl) rfl rfl rfl ?_
        refine wl_x (ox_lss rfl rfl rfl) rfl rfl rfl ?_
        refine wl_nil ?_
        refine nx_then ?_
        refine ws_if rfl (fun hltq => ?_) (fun hltq => ?_)
        · skip
          have hjq : j < q.length := by omega
          have hbj := hqB _ (List.getElem_mem hjq)
          have htj := take_succ_map p[k].apart q j hjq
          refine ws_skip ?_
          refine nx_then ?_
          refine ws_seq ?_
          refine ws_block ?_
          refine ws_drawP 9 [true] fol (by kernel_rfl) (by kernel_rfl) (by kernel_rfl) ?_
          refine pz_x rfl rfl rfl rfl (px_move rfl rfl) ?_
          refine ⟨rfl, ?_⟩
          simp only [zapL, zap, List.cons_append, List.nil_append, List.take_succ_cons, List.take_zero, List.drop_succ_cons, List.drop_zero, List.take_nil, List.drop_nil]
          refine wr_z rfl rfl rfl ?_
          refine wr_x (ox_move rfl rfl) rfl rfl ?_
          refine wr_x (ox_move rfl rfl) rfl rfl ?_
          first | refine wr_x (ox_index _ rfl Try.underlying25 el40 rfl rfl rfl (by omega)) rfl rfl ?_ | refine wr_x (ox_indexR _ hRp.rd.any rfl Try.underlying25 el40 rfl rfl rfl (by omega)) rfl rfl ?_ | refine wr_x (ox_indexR _ hRq.rd.any rfl Try.underlying25 el40 rfl rfl rfl (by omega)) rfl rfl ?_
          refine wr_x (ox_loadG rfl Try.underlying40 rfl el40 rfl rfl (by first | exact hRp.any.seg hkp | exact hRq.any.seg hjq)) rfl rfl ?_
          refine wr_x (ox_move rfl rfl) rfl rfl ?_
          refine wr_x (ox_move rfl rfl) rfl rfl ?_
          first | refine wr_x (ox_index _ rfl Try.underlying25 el40 rfl rfl rfl (by omega)) rfl rfl ?_ | refine wr_x (ox_indexR _ hRp.rd.any rfl Try.underlying25 el40 rfl rfl rfl (by omega)) rfl rfl ?_ | refine wr_x (ox_indexR _ hRq.rd.any rfl Try.underlying25 el40 rfl rfl rfl (by omega)) rfl rfl ?_
          refine wr_x (ox_loadG rfl Try.underlying40 rfl el40 rfl rfl (by first | exact hRp.any.seg hkp | exact hRq.any.seg hjq)) rfl rfl ?_
          refine wr_nil ?_
          refine wl_x (ox_call rfl Try.call41 rfl (rapart_ok _ _ hbk hbj _ _)) rfl rfl rfl ?_
          refine wl_buildSlice1 [_] rfl Try.underlying23 el3 rfl (by first | rfl | exact (hRp.rd.any).cells | exact (hRq.rd.any).cells | exact Rd.cells ‹_› | exact (RdL.rd ‹_›).cells) rfl rfl (by omega) rfl rfl rfl (fun g98 => ?_)
          refine wl_appendL 1 hO (RdL.one cI_len (List.Mem.head _) rfl) rfl Try.underlying23 el3 rfl (by omega) rfl rfl rfl cI_one (by simp; omega) (by simp; omega) rfl rfl rfl (fun v1 m1 hO1 => ?_)
          refine wl_x (ox_assign rfl rfl) rfl rfl rfl ?_
          refine wl_nil ?_
          refine nx_q0 ?_
          refine nx_block ?_
          refine nx_then ?_
          refine ws_region ?_
          refine wl_x (ox_move rfl rfl) rfl rfl rfl ?_
          refine wl_x (ox_add rfl rfl rfl (by omega)) rfl rfl rfl ?_
          refine wl_x (ox_assign rfl rfl) rfl rfl rfl ?_
          refine wl_nil ?_
          refine nx_drop ?_
          refine nx_round (q.length - (j + 1)) _ (by omega) ⟨j + 1, v1, m1, _, rfl, rfl, rfl, rfl, by omega, hO1, by rw [hD, htj]; simp, by simp; omega⟩ (by repeat (first | exact trivial | refine ⟨rfl, ?_⟩))
        · skip
          rw [List.take_of_length_le (by omega)] at hD
          refine ws_exit ?_
          refine nx_then_exit ?_
          refine nx_then_exit ?_
          refine nx_block_exit ?_
          refine nx_block ?_
          refine nx_then ?_
          refine ws_region ?_
          refine wl_x (ox_move rfl rfl) rfl rfl rfl ?_
          refine wl_x (ox_add rfl rfl rfl (by omega)) rfl rfl rfl ?_
          refine wl_x (ox_assign rfl rfl) rfl rfl rfl ?_
          refine wl_nil ?_
          refine nx_round (p.length - (k + 1)) _ (by omega) ⟨k + 1, v, m, D, rfl, rfl, rfl, rfl, by omega, hO, by rw [hD, hC, hts]; simp, by omega⟩ (by repeat (first | exact trivial | refine ⟨rfl, ?_⟩))
      · skip
        have hkP : k = p.length := by omega
        rw [List.take_of_length_le (by omega)] at hC
        refine ws_exit ?_
        refine nx_then_exit ?_
        refine nx_then_exit ?_
        refine nx_block_exit ?_
        refine nx_then ?_
        refine ws_seq ?_
        refine ws_seq ?_
        refine ws_region ?_
        refine wl_x (ox_assign rfl rfl) rfl rfl rfl ?_
        refine wl_nil ?_
        refine nx_then ?_
        refine ws_block ?_
        refine ws_loop (fun n s h' ms' => ∃ (j : Nat) (v : Value) (m : Hp) (D : List Int), n = q.length - j ∧ s = [(10, .int .i64 L), (12, vp), (13, vq), (14, .int .i64 (-1)), (15, v), (18, .int .i64 j)] ∧ h6 = h' ∧ ms' = [m] ∧ j ≤ q.length ∧ OwnL cI 1 3 m v D ∧ D = C ++ (q.take j).map Br.len ∧ D.length ≤ 1 + k * 20000 + j)
          (q.length - 0) _ ⟨0, v, m, C, rfl, rfl, rfl, rfl, by omega, hO, by simp, by omega⟩ (by repeat (first | exact trivial | refine ⟨rfl, ?_⟩)) ?_
        clear hO
        rintro n s h' ms' ⟨j, v, m, D, rfl, rfl, rfl, rfl, hj, hO, hD, hDl⟩
        refine ws_seq ?_
        refine ws_seq ?_
        refine ws_region ?_
        refine wl_x (ox_move rfl rfl) rfl rfl rfl ?_
        refine wl_x (ox_move rfl rfl) rfl rfl rfl ?_
        first | refine wl_x (ox_len (ty := 25) rfl Try.underlying25 rfl) rfl rfl rfl ?_ | refine wl_x (ox_lenR hRp.rd.any rfl Try.underlying25 rfl) rfl rfl rfl ?_ | refine wl_x (ox_lenR hRq.rd.any rfl Try.underlying25 rfl) rfl rfl rfl ?_
        refine wl_x (ox_lss rfl rfl rfl) rfl rfl rfl ?_
        refine wl_nil ?_
        refine nx_then ?_
        refine ws_if rfl (fun hltq => ?_) (fun hltq => ?_)
        · skip
          have hjq : j < q.length := by omega
          have hbj := hqB _ (List.getElem_mem hjq)
          obtain ⟨b1, b2, b4, b5⟩ := hbj
          have htj := take_succ_map Br.len q j hjq
          refine ws_skip ?_
          refine nx_then ?_
          refine ws_seq ?_
          refine ws_block ?_
          refine ws_drawP 11 [true] fol (by kernel_rfl) (by kernel_rfl) (by kernel_rfl) ?_
          refine pz_x rfl rfl rfl rfl (px_move rfl rfl) ?_
          refine ⟨rfl, ?_⟩
          simp only [zapL, zap, List.cons_append, List.nil_append, List.take_succ_cons, List.take_zero, List.drop_succ_cons, List.drop_zero, List.take_nil, List.drop_nil]
          refine wr_z rfl rfl rfl ?_
          refine wr_x (ox_move rfl rfl) rfl rfl ?_
          refine wr_x (ox_move rfl rfl) rfl rfl ?_
          first | refine wr_x (ox_index _ rfl Try.underlying25 el40 rfl rfl rfl (by omega)) rfl rfl ?_ | refine wr_x (ox_indexR _ hRp.rd.any rfl Try.underlying25 el40 rfl rfl rfl (by omega)) rfl rfl ?_ | refine wr_x (ox_indexR _ hRq.rd.any rfl Try.underlying25 el40 rfl rfl rfl (by omega)) rfl rfl ?_
          refine wr_x (ox_fieldF fd40_2 rfl rfl) rfl rfl ?_
          refine wr_x (ox_load rfl Try.underlying3 rfl rfl (by first | exact hRq.any.cell hjq rfl)) rfl rfl ?_
          refine wr_x (ox_move rfl rfl) rfl rfl ?_
          refine wr_x (ox_move rfl rfl) rfl rfl ?_
          first | refine wr_x (ox_index _ rfl Try.underlying25 el40 rfl rfl rfl (by omega)) rfl rfl ?_ | refine wr_x (ox_indexR _ hRp.rd.any rfl Try.underlying25 el40 rfl rfl rfl (by omega)) rfl rfl ?_ | refine wr_x (ox_indexR _ hRq.rd.any rfl Try.underlying25 el40 rfl rfl rfl (by omega)) rfl rfl ?_
          refine wr_x (ox_fieldF fd40_1 rfl rfl) rfl rfl ?_
          refine wr_x (ox_load rfl Try.underlying3 rfl rfl (by first | exact hRq.any.cell hjq rfl)) rfl rfl ?_
          refine wr_nil ?_
          refine wl_x (ox_sub rfl rfl rfl (by omega)) rfl rfl rfl ?_
          refine wl_buildSlice1 [_] rfl Try.underlying23 el3 rfl (by first | rfl | exact (hRp.rd.any).cells | exact (hRq.rd.any).cells | exact Rd.cells ‹_› | exact (RdL.rd ‹_›).cells) rfl rfl (by omega) rfl rfl rfl (fun g118 => ?_)
          refine wl_appendL 1 hO (RdL.one cI_len (List.Mem.head _) rfl) rfl Try.underlying23 el3 rfl (by omega) rfl rfl rfl cI_one (by simp; omega) (by simp; omega) rfl rfl rfl (fun v1 m1 hO1 => ?_)
          refine wl_x (ox_assign rfl rfl) rfl rfl rfl ?_
          refine wl_nil ?_
          refine nx_q0 ?_
          refine nx_block ?_
          refine nx_then ?_
          refine ws_region ?_
          refine wl_x (ox_move rfl rfl) rfl rfl rfl ?_
          refine wl_x (ox_add rfl rfl rfl (by omega)) rfl rfl rfl ?_
          refine wl_x (ox_assign rfl rfl) rfl rfl rfl ?_
          refine wl_nil ?_
          refine nx_drop ?_
          refine nx_round (q.length - (j + 1)) _ (by omega) ⟨j + 1, v1, m1, _, rfl, rfl, rfl, rfl, by omega, hO1, by rw [hD, htj]; simp [Br.len], by simp; omega⟩ (by repeat (first | exact trivial | refine ⟨rfl, ?_⟩))
        · skip
          rw [List.take_of_length_le (by omega)] at hD
          have hDc : D = costsOf p q L := by rw [hD, hC]; rfl
          refine ws_exit ?_
          refine nx_then_exit ?_
          refine nx_then_exit ?_
          refine nx_block_exit ?_
          refine nx_then ?_
          refine ws_freezeL hO (fun h7 l7 hRC => ?_)
          have hRp := hRp.up l7
          have hRq := hRq.up l7
          clear hC hD hO
          generalize D = C at hDc hDl hRC
          have hCm : ∀ c, c ∈ C ↔ c ∈ costsOf p q L := fun c => by rw [hDc]
          clear hDc
          refine ws_seq ?_
          refine ws_seq ?_
          refine ws_region ?_
          refine wl_x (ox_assign rfl rfl) rfl rfl rfl ?_
          refine wl_nil ?_
          refine nx_then ?_
          refine ws_block ?_
          refine ws_loop (fun n s h' ms' => ∃ (i : Nat) (best : Int), n = C.length - i ∧ s = [(12, vp), (13, vq), (10, .int .i64 L), (14, .int .i64 best), (15, v), (19, .int .i64 i)] ∧ h7 = h' ∧ ms' = [] ∧ i ≤ C.length ∧ Best p q L C i best)
            (C.length - 0) _ ⟨0, -1, rfl, rfl, rfl, rfl, by omega, .inl ⟨rfl, fun j _ h => by omega⟩⟩ (by repeat (first | exact trivial | refine ⟨rfl, ?_⟩)) ?_
          rintro n s h' ms' ⟨i, best, rfl, rfl, rfl, rfl, hi, hBst⟩
          refine ws_seq ?_
          refine ws_seq ?_
          refine ws_region ?_
          refine wl_x (ox_move rfl rfl) rfl rfl rfl ?_
          refine wl_x (ox_move rfl rfl) rfl rfl rfl ?_
          first | refine wl_x (ox_len (ty := 23) rfl Try.underlying23 rfl) rfl rfl rfl ?_ | refine wl_x (ox_lenR hRC.rd.any rfl Try.underlying23 rfl) rfl rfl rfl ?_
          refine wl_x (ox_lss rfl rfl rfl) rfl rfl rfl ?_
          refine wl_nil ?_
          refine nx_then ?_
          refine ws_if rfl (fun hlt => ?_) (fun hlt => ?_)
          · skip
            have hic : i < C.length := by omega
            refine ws_skip ?_
            refine nx_then ?_
            refine ws_seq ?_
            refine ws_block ?_
            refine ws_seq ?_
            refine ws_seq ?_
            refine ws_region ?_
            refine wl_x (ox_move rfl rfl) rfl rfl rfl ?_
            refine wl_x (ox_move rfl rfl) rfl rfl rfl ?_
            first | refine wl_x (ox_index _ rfl Try.underlying23 el3 rfl rfl rfl (by omega)) rfl rfl rfl ?_ | refine wl_x (ox_indexR _ hRC.rd.any rfl Try.underlying23 el3 rfl rfl rfl (by omega)) rfl rfl rfl ?_
            refine wl_x (ox_load rfl Try.underlying3 rfl rfl (by first | exact hRC.any.cell0 hic rfl)) rfl rfl rfl ?_
            refine wl_x (ox_move rfl rfl) rfl rfl rfl ?_
            refine wl_x (ox_lss rfl rfl rfl) rfl rfl rfl ?_
            refine wl_x (ox_move rfl rfl) rfl rfl rfl ?_
            refine wl_split (t := 132) rfl (fun g1 => ?_) (fun g1 => ?_)
            · skip
              have hBst' := hBst.skip fun hk h5 h6 => by omega
              refine wl_skip rfl rfl rfl rfl rfl rfl rfl ?_
              refine wl_skip rfl rfl rfl rfl rfl rfl rfl ?_
              refine wl_skip rfl rfl rfl rfl rfl rfl rfl ?_
              refine wl_skipu rfl rfl rfl rfl rfl rfl ?_
              refine wl_skipu rfl rfl rfl rfl rfl rfl ?_
              refine wl_skipu rfl rfl rfl rfl rfl rfl ?_
              refine wl_skipu rfl rfl rfl rfl rfl rfl ?_
              refine wl_skipu rfl rfl rfl rfl rfl rfl ?_
              refine wl_skipu rfl rfl rfl rfl rfl rfl ?_
              refine wl_skip rfl rfl rfl rfl rfl rfl rfl ?_
              refine wl_x (ox_pick_t rfl rfl rfl) rfl rfl rfl ?_
              refine wl_nil ?_
              refine nx_then ?_
              refine ws_cond_t rfl ?_
              refine ws_exit ?_
              refine nx_then_exit ?_
              refine nx_block_exit ?_
              refine nx_then ?_
              refine ws_region ?_
              refine wl_x (ox_move rfl rfl) rfl rfl rfl ?_
              refine wl_x (ox_add rfl rfl rfl (by omega)) rfl rfl rfl ?_
              refine wl_x (ox_assign rfl rfl) rfl rfl rfl ?_
              refine wl_nil ?_
              refine nx_round (C.length - (i + 1)) _ (by omega) ⟨i + 1, best, rfl, rfl, rfl, rfl, by omega, hBst'⟩ (by repeat (first | exact trivial | refine ⟨rfl, ?_⟩))
            · skip
              refine wl_gx (ox_move rfl rfl) rfl rfl rfl rfl rfl rfl ?_
              refine wl_gx (ox_geq rfl rfl rfl) rfl rfl rfl rfl rfl rfl ?_
              refine wl_gx (ox_move rfl rfl) rfl rfl rfl rfl rfl rfl ?_
              refine wl_split (t := 135) rfl (fun g2 => ?_) (fun g2 => ?_)
              · skip
                refine wl_gx (ox_move rfl rfl) rfl rfl rfl rfl rfl rfl ?_
                refine wl_gx (ox_move rfl rfl) rfl rfl rfl rfl rfl rfl ?_
                first | refine wl_gx (ox_index _ rfl Try.underlying23 el3 rfl rfl rfl (by omega)) rfl rfl rfl rfl rfl rfl ?_ | refine wl_gx (ox_indexR _ hRC.rd.any rfl Try.underlying23 el3 rfl rfl rfl (by omega)) rfl rfl rfl rfl rfl rfl ?_
                refine wl_gx (ox_load rfl Try.underlying3 rfl rfl (by first | exact hRC.any.cell0 hic rfl)) rfl rfl rfl rfl rfl rfl ?_
                refine wl_gx (ox_move rfl rfl) rfl rfl rfl rfl rfl rfl ?_
                refine wl_gx (ox_geq rfl rfl rfl) rfl rfl rfl rfl rfl rfl ?_
                refine wl_gx (ox_pick_t rfl rfl rfl) rfl rfl rfl rfl rfl rfl ?_
                refine wl_x (ox_pick_f rfl rfl rfl) rfl rfl rfl ?_
                refine wl_nil ?_
                refine nx_then ?_
                refine ws_if rfl (fun g3 => ?_) (fun g3 => ?_)
                · skip
                  have hBst' := hBst.skip fun hk h5 h6 => by omega
                  refine ws_exit ?_
                  refine nx_then_exit ?_
                  refine nx_block_exit ?_
                  refine nx_then ?_
                  refine ws_region ?_
                  refine wl_x (ox_move rfl rfl) rfl rfl rfl ?_
                  refine wl_x (ox_add rfl rfl rfl (by omega)) rfl rfl rfl ?_
                  refine wl_x (ox_assign rfl rfl) rfl rfl rfl ?_
                  refine wl_nil ?_
                  refine nx_round (C.length - (i + 1)) _ (by omega) ⟨i + 1, best, rfl, rfl, rfl, rfl, by omega, hBst'⟩ (by repeat (first | exact trivial | refine ⟨rfl, ?_⟩))
                · skip
                  have g4 : 0 ≤ best → C[i] ≤ best := fun _ => by omega
                  refine ws_skip ?_
                  refine nx_then ?_
                  refine ws_seq ?_
                  refine ws_region ?_
                  refine wl_x (ox_move rfl rfl) rfl rfl rfl ?_
                  refine wl_x (ox_move rfl rfl) rfl rfl rfl ?_
                  refine wl_x (ox_move rfl rfl) rfl rfl rfl ?_
                  refine wl_x (ox_move rfl rfl) rfl rfl rfl ?_
                  first | refine wl_x (ox_index _ rfl Try.underlying23 el3 rfl rfl rfl (by omega)) rfl rfl rfl ?_ | refine wl_x (ox_indexR _ hRC.rd.any rfl Try.underlying23 el3 rfl rfl rfl (by omega)) rfl rfl rfl ?_
                  refine wl_x (ox_load rfl Try.underlying3 rfl rfl (by first | exact hRC.any.cell0 hic rfl)) rfl rfl rfl ?_
                  refine wl_x (ox_call rfl Try.call42 rfl (covered_v p q vp vq _ h7 hRp hRq (by omega) (by omega) hpA hqB _)) rfl rfl rfl ?_
                  refine wl_x (ox_assign rfl rfl) rfl rfl rfl ?_
                  refine wl_nil ?_
                  refine nx_then ?_
                  refine ws_seq ?_
                  refine ws_region ?_
                  refine wl_x (ox_move rfl rfl) rfl rfl rfl ?_
                  refine wl_x (ox_move rfl rfl) rfl rfl rfl ?_
                  refine wl_x (ox_move rfl rfl) rfl rfl rfl ?_
                  refine wl_x (ox_move rfl rfl) rfl rfl rfl ?_
                  first | refine wl_x (ox_index _ rfl Try.underlying23 el3 rfl rfl rfl (by omega)) rfl rfl rfl ?_ | refine wl_x (ox_indexR _ hRC.rd.any rfl Try.underlying23 el3 rfl rfl rfl (by omega)) rfl rfl rfl ?_
                  refine wl_x (ox_load rfl Try.underlying3 rfl rfl (by first | exact hRC.any.cell0 hic rfl)) rfl rfl rfl ?_
                  refine wl_x (ox_call rfl Try.call42 rfl (covered_v q p vq vp _ h7 hRq hRp (by omega) (by omega) hqB hpA _)) rfl rfl rfl ?_
                  refine wl_x (ox_assign rfl rfl) rfl rfl rfl ?_
                  refine wl_nil ?_
                  refine nx_then ?_
                  refine ws_seq ?_
                  refine ws_region ?_
                  refine wl_x (ox_move rfl rfl) rfl rfl rfl ?_
                  refine wl_x (ox_move rfl rfl) rfl rfl rfl ?_
                  refine wl_splitb (t := 159) rfl (fun c1 => ?_) (fun c1 => ?_)
                  · skip
                    refine wl_gx (ox_move rfl rfl) rfl rfl rfl rfl rfl rfl ?_
                    refine wl_x (ox_pick_t rfl rfl rfl) rfl rfl rfl ?_
                    refine wl_nil ?_
                    refine nx_then ?_
                    refine ws_cond rfl (fun c2 => ?_) (fun c2 => ?_)
                    · skip
                      have hBst' := hBst.take b3.1 hic (by omega) (cposB_and.2 ⟨c1, c2⟩) g4
                      refine ws_region ?_
                      refine wl_x (ox_move rfl rfl) rfl rfl rfl ?_
                      refine wl_x (ox_move rfl rfl) rfl rfl rfl ?_
                      first | refine wl_x (ox_index _ rfl Try.underlying23 el3 rfl rfl rfl (by omega)) rfl rfl rfl ?_ | refine wl_x (ox_indexR _ hRC.rd.any rfl Try.underlying23 el3 rfl rfl rfl (by omega)) rfl rfl rfl ?_
                      refine wl_x (ox_load rfl Try.underlying3 rfl rfl (by first | exact hRC.any.cell0 hic rfl)) rfl rfl rfl ?_
                      refine wl_x (ox_assign rfl rfl) rfl rfl rfl ?_
                      refine wl_nil ?_
                      refine nx_block ?_
                      refine nx_then ?_
                      refine ws_region ?_
                      refine wl_x (ox_move rfl rfl) rfl rfl rfl ?_
                      refine wl_x (ox_add rfl rfl rfl (by omega)) rfl rfl rfl ?_
                      refine wl_x (ox_assign rfl rfl) rfl rfl rfl ?_
                      refine wl_nil ?_
                      refine nx_round (C.length - (i + 1)) _ (by omega) ⟨i + 1, C[i], rfl, rfl, rfl, rfl, by omega, hBst'⟩ (by repeat (first | exact trivial | refine ⟨rfl, ?_⟩))
                    · skip
                      have hBst' := hBst.skip fun hk h5 h6 => by have := (cposB_and.1 h6).2; rw [c2] at this; cases this
                      refine ws_skip ?_
                      refine nx_block ?_
                      refine nx_then ?_
                      refine ws_region ?_
                      refine wl_x (ox_move rfl rfl) rfl rfl rfl ?_
                      refine wl_x (ox_add rfl rfl rfl (by omega)) rfl rfl rfl ?_
                      refine wl_x (ox_assign rfl rfl) rfl rfl rfl ?_
                      refine wl_nil ?_
                      refine nx_round (C.length - (i + 1)) _ (by omega) ⟨i + 1, best, rfl, rfl, rfl, rfl, by omega, hBst'⟩ (by repeat (first | exact trivial | refine ⟨rfl, ?_⟩))
                  · skip
                    have hBst' := hBst.skip fun hk h5 h6 => by have := (cposB_and.1 h6).1; rw [c1] at this; cases this
                    refine wl_skip rfl rfl rfl rfl rfl rfl rfl ?_
                    refine wl_x (ox_pick_f rfl rfl rfl) rfl rfl rfl ?_
                    refine wl_nil ?_
                    refine nx_then ?_
                    refine ws_cond_f rfl ?_
                    refine ws_skip ?_
                    refine nx_block ?_
                    refine nx_then ?_
                    refine ws_region ?_
                    refine wl_x (ox_move rfl rfl) rfl rfl rfl ?_
                    refine wl_x (ox_add rfl rfl rfl (by omega)) rfl rfl rfl ?_
                    refine wl_x (ox_assign rfl rfl) rfl rfl rfl ?_
                    refine wl_nil ?_
                    refine nx_round (C.length - (i + 1)) _ (by omega) ⟨i + 1, best, rfl, rfl, rfl, rfl, by omega, hBst'⟩ (by repeat (first | exact trivial | refine ⟨rfl, ?_⟩))
              · skip
                have g4 : 0 ≤ best → C[i] ≤ best := fun _ => by omega
                refine wl_skip rfl rfl rfl rfl rfl rfl rfl ?_
                refine wl_skip rfl rfl rfl rfl rfl rfl rfl ?_
                refine wl_skip rfl rfl rfl rfl rfl rfl rfl ?_
                refine wl_skip rfl rfl rfl rfl rfl rfl rfl ?_
                refine wl_skip rfl rfl rfl rfl rfl rfl rfl ?_
                refine wl_skip rfl rfl rfl rfl rfl rfl rfl ?_
                refine wl_gx (ox_pick_f rfl rfl rfl) rfl rfl rfl rfl rfl rfl ?_
                refine wl_x (ox_pick_f rfl rfl rfl) rfl rfl rfl ?_
                refine wl_nil ?_
                refine nx_then ?_
                refine ws_cond_f rfl ?_
                refine ws_skip ?_
                refine nx_then ?_
                refine ws_seq ?_
                refine ws_region ?_
                refine wl_x (ox_move rfl rfl) rfl rfl rfl ?_
                refine wl_x (ox_move rfl rfl) rfl rfl rfl ?_
                refine wl_x (ox_move rfl rfl) rfl rfl rfl ?_
                refine wl_x (ox_move rfl rfl) rfl rfl rfl ?_
                first | refine wl_x (ox_index _ rfl Try.underlying23 el3 rfl rfl rfl (by omega)) rfl rfl rfl ?_ | refine wl_x (ox_indexR _ hRC.rd.any rfl Try.underlying23 el3 rfl rfl rfl (by omega)) rfl rfl rfl ?_
                refine wl_x (ox_load rfl Try.underlying3 rfl rfl (by first | exact hRC.any.cell0 hic rfl)) rfl rfl rfl ?_
                refine wl_x (ox_call rfl Try.call42 rfl (covered_v p q vp vq _ h7 hRp hRq (by omega) (by omega) hpA hqB _)) rfl rfl rfl ?_
                refine wl_x (ox_assign rfl rfl) rfl rfl rfl ?_
                refine wl_nil ?_
                refine nx_then ?_
                refine ws_seq ?_
                refine ws_region ?_
                refine wl_x (ox_move rfl rfl) rfl rfl rfl ?_
                refine wl_x (ox_move rfl rfl) rfl rfl rfl ?_
                refine wl_x (ox_move rfl rfl) rfl rfl rfl ?_
                refine wl_x (ox_move rfl rfl) rfl rfl rfl ?_
                first | refine wl_x (ox_index _ rfl Try.underlying23 el3 rfl rfl rfl (by omega)) rfl rfl rfl ?_ | refine wl_x (ox_indexR _ hRC.rd.any rfl Try.underlying23 el3 rfl rfl rfl (by omega)) rfl rfl rfl ?_
                refine wl_x (ox_load rfl Try.underlying3 rfl rfl (by first | exact hRC.any.cell0 hic rfl)) rfl rfl rfl ?_
                refine wl_x (ox_call rfl Try.call42 rfl (covered_v q p vq vp _ h7 hRq hRp (by omega) (by omega) hqB hpA _)) rfl rfl rfl ?_
                refine wl_x (ox_assign rfl rfl) rfl rfl rfl ?_
                refine wl_nil ?_
                refine nx_then ?_
                refine ws_seq ?_
                refine ws_region ?_
                refine wl_x (ox_move rfl rfl) rfl rfl rfl ?_
                refine wl_x (ox_move rfl rfl) rfl rfl rfl ?_
                refine wl_splitb (t := 159) rfl (fun c1 => ?_) (fun c1 => ?_)
                · skip
                  refine wl_gx (ox_move rfl rfl) rfl rfl rfl rfl rfl rfl ?_
                  refine wl_x (ox_pick_t rfl rfl rfl) rfl rfl rfl ?_
                  refine wl_nil ?_
                  refine nx_then ?_
                  refine ws_cond rfl (fun c2 => ?_) (fun c2 => ?_)
                  · skip
                    have hBst' := hBst.take b3.1 hic (by omega) (cposB_and.2 ⟨c1, c2⟩) g4
                    refine ws_region ?_
                    refine wl_x (ox_move rfl rfl) rfl rfl rfl ?_
                    refine wl_x (ox_move rfl rfl) rfl rfl rfl ?_
                    first | refine wl_x (ox_index _ rfl Try.underlying23 el3 rfl rfl rfl (by omega)) rfl rfl rfl ?_ | refine wl_x (ox_indexR _ hRC.rd.any rfl Try.underlying23 el3 rfl rfl rfl (by omega)) rfl rfl rfl ?_
                    refine wl_x (ox_load rfl Try.underlying3 rfl rfl (by first | exact hRC.any.cell0 hic rfl)) rfl rfl rfl ?_
                    refine wl_x (ox_assign rfl rfl) rfl rfl rfl ?_
                    refine wl_nil ?_
                    refine nx_block ?_
                    refine nx_then ?_
                    refine ws_region ?_
                    refine wl_x (ox_move rfl rfl) rfl rfl rfl ?_
                    refine wl_x (ox_add rfl rfl rfl (by omega)) rfl rfl rfl ?_
                    refine wl_x (ox_assign rfl rfl) rfl rfl rfl ?_
                    refine wl_nil ?_
                    refine nx_round (C.length - (i + 1)) _ (by omega) ⟨i + 1, C[i], rfl, rfl, rfl, rfl, by omega, hBst'⟩ (by repeat (first | exact trivial | refine ⟨rfl, ?_⟩))
                  · skip
                    have hBst' := hBst.skip fun hk h5 h6 => by have := (cposB_and.1 h6).2; rw [c2] at this; cases this
                    refine ws_skip ?_
                    refine nx_block ?_
                    refine nx_then ?_
                    refine ws_region ?_
                    refine wl_x (ox_move rfl rfl) rfl rfl rfl ?_
                    refine wl_x (ox_add rfl rfl rfl (by omega)) rfl rfl rfl ?_
                    refine wl_x (ox_assign rfl rfl) rfl rfl rfl ?_
                    refine wl_nil ?_
                    refine nx_round (C.length - (i + 1)) _ (by omega) ⟨i + 1, best, rfl, rfl, rfl, rfl, by omega, hBst'⟩ (by repeat (first | exact trivial | refine ⟨rfl, ?_⟩))
                · skip
                  have hBst' := hBst.skip fun hk h5 h6 => by have := (cposB_and.1 h6).1; rw [c1] at this; cases this
                  refine wl_skip rfl rfl rfl rfl rfl rfl rfl ?_
                  refine wl_x (ox_pick_f rfl rfl rfl) rfl rfl rfl ?_
                  refine wl_nil ?_
                  refine nx_then ?_
                  refine ws_cond_f rfl ?_
                  refine ws_skip ?_
                  refine nx_block ?_
                  refine nx_then ?_
                  refine ws_region ?_
                  refine wl_x (ox_move rfl rfl) rfl rfl rfl ?_
                  refine wl_x (ox_add rfl rfl rfl (by omega)) rfl rfl rfl ?_
                  refine wl_x (ox_assign rfl rfl) rfl rfl rfl ?_
                  refine wl_nil ?_
                  refine nx_round (C.length - (i + 1)) _ (by omega) ⟨i + 1, best, rfl, rfl, rfl, rfl, by omega, hBst'⟩ (by repeat (first | exact trivial | refine ⟨rfl, ?_⟩))
          · skip
            have hiC : i = C.length := by omega
            subst hiC
            obtain ⟨cl1, cl2⟩ := costs_len p q L
            have hLC : L ∈ costsOf p q L := by unfold costsOf; simp
            obtain ⟨M, hMC, hM⟩ : ∃ M ∈ costsOf p q L, ∀ c ∈ costsOf p q L, c ≤ M := max_mem _ (List.ne_nil_of_mem hLC)
            have hlast : Pos (fitsD p q M) (p.length + q.length) := pos_max p q _ (fun b hb => hM _ (cl1 b hb)) (fun b hb => hM _ (cl2 b hb))
            have hID : IsDist p q L best := by
              rcases hBst with ⟨h1, h2⟩ | ⟨h0, h1, h2, h3, h4⟩
              · obtain ⟨j, hj, e⟩ := List.getElem_of_mem ((hCm M).2 hMC)
                exact absurd (by rw [e]; exact hlast) (h2 j hj hj (by rw [e]; exact hM _ hLC))
              · refine ⟨(hCm _).1 h1, h2, h3, fun c hc h5 h6 => ?_⟩
                obtain ⟨j, hj, rfl⟩ := List.getElem_of_mem ((hCm c).2 hc)
                exact h4 j hj hj h5 h6
            refine ws_exit ?_
            refine nx_then_exit ?_
            refine nx_then_exit ?_
            refine nx_block_exit ?_
            refine nx_then ?_
            refine ws_seq ?_
            refine ws_region ?_
            refine wl_x (ox_move rfl rfl) rfl rfl rfl ?_
            refine wl_x (ox_assign rfl rfl) rfl rfl rfl ?_
            refine wl_x (ox_assign rfl rfl) rfl rfl rfl ?_
            refine wl_nil ?_
            refine nx_then ?_
            refine ws_ret ?_
            exact nx_ret2 rfl rfl rfl (⟨best, true, rfl, fun h => absurd hlen h, fun _ => ⟨rfl, hID⟩⟩)
end Go.Proofs.Ythdkhnjnhhofgaa
