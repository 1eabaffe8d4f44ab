/- Walks: births. -/
import Derived.Test.YthdkhnjnhhofgaaWb
set_option linter.unusedSimpArgs false
set_option linter.unusedVariables false
set_option maxRecDepth 100000
namespace Go.Proofs.Ythdkhnjnhhofgaa
open Go.Eng Go.RowKit

theorem take_succ_map {α β : Type} (f : α → β) (l : List α) (k : Nat) (hk : k < l.length) : (l.take (k + 1)).map f = (l.take k).map f ++ [f l[k]] := by
  rw [List.take_succ_eq_append_getElem hk, List.map_append]; rfl

/-- The births of open bars, in order. -/
def birthsOf (dim : Int) (l : List Br) : List Int := isort ((l.filter (Br.openIn dim)).map Br.birth)
theorem births_ok (l : List Br) (vl : Value) (gd : Nat) (dim : Int) (h : Hp) (hR : RdL cBr 6 h [] vl l) (hl : l.length ≤ 1000000000) (hD : Cell h [] ⟨gd, 0, none⟩ (.int .i64 dim)) :
    FnT Try.prog 25 #[vl, .pointer (some ⟨gd, 0, none⟩)] h [] (fun r h' ms' => ms' = [] ∧ RdL cI 1 h' [] r (birthsOf dim l)) := by
  refine fn_enter Try.func25 Try.ntmps25 rfl rfl (fun w0 hw0 => ?_)
  simp only [argS]
  refine ws_seq ?_
  refine ws_region ?_
  refine wl_x (ox_assign rfl rfl) rfl rfl rfl ?_
  refine wl_nil ?_
  refine nx_then ?_
  refine ws_seq ?_
  refine ws_region ?_
  refine wl_x (ox_assign rfl rfl) rfl rfl rfl ?_
  refine wl_nil ?_
  refine nx_then ?_
  refine ws_seq ?_
  refine ws_seq ?_
  refine ws_region ?_
  refine wl_x (ox_move rfl rfl) rfl rfl rfl ?_
  refine wl_x (ox_makeFunc rfl rfl rfl) rfl rfl rfl ?_
  refine wl_call rfl Try.call26 rfl (filtered_ok l vl 27 [Value.pointer (some ⟨gd, 0, none⟩)] (Br.openIn dim) h hR hl Try.call27 (fun b _ ms => openIn_ok b gd dim h (fun _ => hD.any) ms)) rfl rfl rfl (fun v9 h9 ms9 hle9 hL => ?_)
  obtain ⟨rfl, hR9⟩ := hL
  simp only [List.nil_append]
  have hlf : (l.filter (Br.openIn dim)).length ≤ l.length := List.length_filter_le _ _
  unfold birthsOf
  generalize hq : l.filter (Br.openIn dim) = q at hR9 hlf ⊢
  first | refine wl_x (ox_len (ty := 25) rfl Try.underlying25 rfl) rfl rfl rfl ?_ | refine wl_x (ox_lenR hR9.rd.any rfl Try.underlying25 rfl) rfl rfl rfl ?_
  refine wl_x (ox_move rfl rfl) rfl rfl rfl ?_
  refine wl_nil ?_
  refine nx_then ?_
  refine ws_block ?_
  refine ws_emp ?_
  refine ws_loop (fun n s h' ms' => ∃ (k : Nat) (v : Value) (m : Hp), n = q.length - k ∧ s = [(9, v9), (10, .int .i64 q.length), (11, .int .i64 k), (4, v)] ∧ h9 = h' ∧ ms' = [m] ∧ k ≤ q.length ∧ OwnL cI 1 3 m v ((q.take k).map Br.birth))
    (q.length - 0) _ ⟨0, _, _, rfl, rfl, rfl, rfl, by omega, OwnL.nil cI_len⟩ (by repeat (first | exact trivial | refine ⟨rfl, ?_⟩)) ?_
  rintro n s h' ms' ⟨k, v, m, rfl, rfl, rfl, rfl, hk, hO⟩
  have hO2 := hO.own.1
  refine ws_seq ?_
  refine ws_region ?_
  refine wl_x (ox_lss rfl rfl rfl) rfl rfl rfl ?_
  refine wl_nil ?_
  refine nx_then ?_
  refine ws_seq ?_
  refine ws_if rfl (fun hlt => ?_) (fun hlt => ?_)
  · skip
    have hlt' : k < q.length := by omega
    have hts := take_succ_map Br.birth q k hlt'
    refine ws_skip ?_
    refine nx_then ?_
    refine ws_seq ?_
    refine ws_block ?_
    refine ws_seq ?_
    refine ws_region ?_
    first | refine wl_x (ox_index _ rfl Try.underlying25 el40 rfl rfl rfl (by omega)) rfl rfl rfl ?_ | refine wl_x (ox_indexR _ hR9.rd.any rfl Try.underlying25 el40 rfl rfl rfl (by omega)) rfl rfl rfl ?_
    refine wl_x (ox_loadG rfl Try.underlying40 rfl el40 rfl rfl (by first | exact hR9.any.seg hlt')) rfl rfl rfl ?_
    refine wl_alloc [.int .i64 0, .int .i64 0, .int .i64 0, .bool false, .int .i64 0, .int .i64 0] rfl el40 rfl rfl rfl rfl (fun g6 => ?_)
    first | refine wl_storeAll 0 _ rfl el40 rfl rfl rfl (by exact cBr_one _) rfl (by first | rfl | simp) (by first | rfl | simp) rfl rfl ?_ | refine wl_storeAll 1 _ rfl el40 rfl rfl rfl (by exact cBr_one _) rfl (by first | rfl | simp) (by first | rfl | simp) rfl rfl ?_ | refine wl_storeAll 2 _ rfl el40 rfl rfl rfl (by exact cBr_one _) rfl (by first | rfl | simp) (by first | rfl | simp) rfl rfl ?_ | refine wl_storeAll 3 _ rfl el40 rfl rfl rfl (by exact cBr_one _) rfl (by first | rfl | simp) (by first | rfl | simp) rfl rfl ?_ | refine wl_storeAll 4 _ rfl el40 rfl rfl rfl (by exact cBr_one _) rfl (by first | rfl | simp) (by first | rfl | simp) rfl rfl ?_
    refine wl_nil ?_
    refine nx_then ?_
    refine ws_region ?_
    refine wl_x (ox_move rfl rfl) rfl rfl rfl ?_
    refine wl_x (ox_fieldF fd40_1 rfl rfl) rfl rfl rfl ?_
    refine wl_x (ox_load rfl Try.underlying3 rfl rfl (by first | exact Cell.blk 0 rfl rfl | exact Cell.blk 1 rfl rfl | exact Cell.blk 2 rfl rfl | exact Cell.blk 3 rfl rfl | exact Cell.blk 4 rfl rfl)) rfl rfl rfl ?_
    refine wl_buildSlice1 _ rfl Try.underlying23 el3 rfl (by first | rfl | exact Rd.cells ‹_› | exact (RdL.rd ‹_›).cells) (by first | rfl | simp) rfl (by omega) rfl rfl rfl (fun g18 => ?_)
    refine wl_appendL 2 hO (RdL.one cI_len (List.Mem.head _) rfl) rfl Try.underlying23 el3 rfl (by omega) rfl rfl rfl cI_one (by simp; omega) (by simp; omega) rfl rfl rfl (fun v' m' hO' => ?_)
    refine wl_x (ox_assign rfl rfl) rfl rfl rfl ?_
    refine wl_nil ?_
    refine nx_block ?_
    refine nx_then ?_
    refine ws_region ?_
    refine wl_x (ox_add rfl rfl rfl (by omega)) rfl rfl rfl ?_
    refine wl_x (ox_move rfl rfl) rfl rfl rfl ?_
    refine wl_nil ?_
    refine nx_drop (nx_drop ?_)
    refine nx_round (q.length - (k + 1)) _ (by omega) ⟨k + 1, v', m', rfl, rfl, rfl, rfl, by omega, by rw [hts]; exact hO'⟩ (by repeat (first | exact trivial | refine ⟨rfl, ?_⟩))
  · skip
    have hkl : q.take k = q := List.take_of_length_le (by omega)
    rw [hkl] at hO
    refine ws_exit ?_
    refine nx_then_exit ?_
    refine nx_then_exit ?_
    refine nx_block_exit ?_
    refine nx_then ?_
    refine ws_seq ?_
    refine ws_region ?_
    refine wl_x (ox_move rfl rfl) rfl rfl rfl ?_
    refine wl_call_ (pre := [m]) rfl Try.call28 rfl (sort_ok (q.map Br.birth) v m hO (by simp; omega) _) rfl rfl rfl rfl (fun _ _ _ _ hL => ?_)
    obtain ⟨rfl, m2, rfl, hO3⟩ := hL
    refine wl_nil ?_
    refine nx_then ?_
    refine ws_seq ?_
    refine ws_region ?_
    refine wl_x (ox_move rfl rfl) rfl rfl rfl ?_
    refine wl_x (ox_assign rfl rfl) rfl rfl rfl ?_
    refine wl_nil ?_
    refine nx_then ?_
    refine ws_ret ?_
    refine nx_freezeL hO3 (fun h' hle hR' => ?_)
    exact nx_ret1 rfl rfl (⟨rfl, hR'⟩)
end Go.Proofs.Ythdkhnjnhhofgaa
