/- Walks: the examples of the chapter hold. -/
import Derived.Test.YthdkhnjnhhofgaaWq
import Derived.Test.YthdkhnjnhhofgaaEng14
set_option linter.unusedSimpArgs false
set_option linter.unusedVariables false
set_option maxRecDepth 100000
namespace Go.Proofs.Ythdkhnjnhhofgaa
open Go.Eng Go.RowKit Go.Kuhn

theorem rd_seg {h : Hp} {g : Nat} (l : List Br) (n c : Nat) (hn : n = l.length) (hc : n ≤ c ∧ c ≤ 9223372036854775807) {cs : List Value} (hcs : l.flatMap cBr = cs) (s : Seg h [] ⟨g, 0, none⟩ cs) : RdL cBr 6 h [] (.slice (some ⟨g, 0, none⟩) n c) l := by
  subst hn hcs
  exact ⟨⟨_, c, rfl, hc.1, hc.2, flatMap_len cBr_len l, fun _ => ⟨_, rfl, s⟩⟩, cBr_len⟩
theorem ok1 {b : Br} (h : BOk b) : ∀ x ∈ [b], BOk x := by simpa using h
theorem ok2 {b c : Br} (h : BOk b) (h' : BOk c) : ∀ x ∈ [b, c], BOk x := by simp [h, h']
theorem sanity_ok (h : Hp) (ms : List Hp) : FnV Try.prog 9 #[] h ms (.bool true) := by
  refine FnV.weaken (h := Hp.emp) (FnT.toV ?_) (Hp.emp_le h)
  show FnT _ _ (List.toArray []) _ _ _
  refine fn_enter Try.func9 Try.ntmps9 rfl rfl (fun w0 hw0 => ?_)
  simp only [argS]
  refine ws_seq ?_
  refine ws_region ?_
  refine wl_x (ox_assign rfl rfl) rfl rfl rfl ?_
  refine wl_nil ?_
  refine nx_then ?_
  refine ws_seq ?_
  refine ws_region ?_
  refine wl_x (ox_call rfl Try.call22 rfl (bar_ok _ _ _ _)) rfl rfl rfl ?_
  refine wl_buildSlice1 [_, _, _, _, _, _] rfl Try.underlying25 el40 rfl (by first | rfl | exact Rd.cells ‹_› | exact (RdL.rd ‹_›).cells) rfl rfl (by omega) rfl rfl rfl (fun g6 => ?_)
  refine wl_freezeB (fun h1 l1 s1 => ?_)
  have r1 := rd_seg [fb 0 10] 1 1 rfl (by omega) rfl s1
  refine wl_x (ox_call rfl Try.call22 rfl (bar_ok _ _ _ _)) rfl rfl rfl ?_
  refine wl_buildSlice1 [_, _, _, _, _, _] rfl Try.underlying25 el40 rfl (by first | rfl | exact Rd.cells ‹_› | exact (RdL.rd ‹_›).cells) rfl rfl (by omega) rfl rfl rfl (fun g8 => ?_)
  refine wl_freezeB (fun h2 l2 s2 => ?_)
  have r2 := rd_seg [fb 1 8] 1 1 rfl (by omega) rfl s2
  refine wl_x (ox_call rfl Try.call16 rfl (far_true [fb 0 10] [fb 1 8] _ _ h2 (r1.up l2) r2 (by decide) (by decide) (ok1 (fb_ok (by omega))) (ok1 (fb_ok (by omega))) _ _ sane1)) rfl rfl rfl ?_
  refine wl_x (ox_move rfl rfl) rfl rfl rfl ?_
  refine wl_gx (ox_call rfl Try.call22 rfl (bar_ok _ _ _ _)) rfl rfl rfl rfl rfl rfl ?_
  refine wl_yes rfl rfl rfl rfl ?_
  refine wl_buildSlice1 [_, _, _, _, _, _] rfl Try.underlying25 el40 rfl (by first | rfl | exact Rd.cells ‹_› | exact (RdL.rd ‹_›).cells) rfl rfl (by omega) rfl rfl rfl (fun g12 => ?_)
  refine wl_freezeB (fun h1 l1 s1 => ?_)
  have r1 := rd_seg [fb 0 10] 1 1 rfl (by omega) rfl s1
  refine wl_gx (ox_call rfl Try.call22 rfl (bar_ok _ _ _ _)) rfl rfl rfl rfl rfl rfl ?_
  refine wl_yes rfl rfl rfl rfl ?_
  refine wl_buildSlice1 [_, _, _, _, _, _] rfl Try.underlying25 el40 rfl (by first | rfl | exact Rd.cells ‹_› | exact (RdL.rd ‹_›).cells) rfl rfl (by omega) rfl rfl rfl (fun g14 => ?_)
  refine wl_freezeB (fun h2 l2 s2 => ?_)
  have r2 := rd_seg [fb 20 24] 1 1 rfl (by omega) rfl s2
  refine wl_gx (ox_call rfl Try.call16 rfl (far_true [fb 0 10] [fb 20 24] _ _ h2 (r1.up l2) r2 (by decide) (by decide) (ok1 (fb_ok (by omega))) (ok1 (fb_ok (by omega))) _ _ sane2)) rfl rfl rfl rfl rfl rfl ?_
  refine wl_x (ox_pick_t rfl rfl rfl) rfl rfl rfl ?_
  refine wl_x (ox_assign rfl rfl) rfl rfl rfl ?_
  refine wl_nil ?_
  refine nx_then ?_
  refine ws_seq ?_
  refine ws_region ?_
  refine wl_x (ox_call rfl Try.call22 rfl (bar_ok _ _ _ _)) rfl rfl rfl ?_
  refine wl_x (ox_call rfl Try.call22 rfl (bar_ok _ _ _ _)) rfl rfl rfl ?_
  refine wl_buildSlice [(0, _), (6, _)] [.int .i64 0, .int .i64 0, .int .i64 0, .bool false, .int .i64 0, .int .i64 0, .int .i64 0, .int .i64 0, .int .i64 0, .bool false, .int .i64 0, .int .i64 0] [_, _, _, _, _, _, _, _, _, _, _, _] rfl Try.underlying25 el40 rfl (by omega) (by first | rfl | kernel_rfl | simp [madeCells]) (by repeat (first | exact trivial | refine ⟨⟨by first | rfl | exact Rd.cells ‹_› | exact (RdL.rd ‹_›).cells, rfl, rfl⟩, ?_⟩)) rfl rfl rfl rfl (fun g19 => ?_)
  refine wl_freezeB (fun h1 l1 s1 => ?_)
  have r1 := rd_seg [fb 0 3, fb 0 10] 2 2 rfl (by omega) rfl s1
  refine wl_x (ox_call rfl Try.call22 rfl (bar_ok _ _ _ _)) rfl rfl rfl ?_
  refine wl_buildSlice1 [_, _, _, _, _, _] rfl Try.underlying25 el40 rfl (by first | rfl | exact Rd.cells ‹_› | exact (RdL.rd ‹_›).cells) rfl rfl (by omega) rfl rfl rfl (fun g21 => ?_)
  refine wl_freezeB (fun h2 l2 s2 => ?_)
  have r2 := rd_seg [fb 0 10] 1 1 rfl (by omega) rfl s2
  refine wl_x (ox_call rfl Try.call16 rfl (far_true [fb 0 3, fb 0 10] [fb 0 10] _ _ h2 (r1.up l2) r2 (by decide) (by decide) (ok2 (fb_ok (by omega)) (fb_ok (by omega))) (ok1 (fb_ok (by omega))) _ _ sane3)) rfl rfl rfl ?_
  refine wl_x (ox_move rfl rfl) rfl rfl rfl ?_
  refine wl_gx (ox_call rfl Try.call23 rfl (open_ok _ _ _)) rfl rfl rfl rfl rfl rfl ?_
  refine wl_gx (ox_call rfl Try.call23 rfl (open_ok _ _ _)) rfl rfl rfl rfl rfl rfl ?_
  refine wl_yes rfl rfl rfl rfl ?_
  refine wl_buildSlice [(0, _), (6, _)] [.int .i64 0, .int .i64 0, .int .i64 0, .bool false, .int .i64 0, .int .i64 0, .int .i64 0, .int .i64 0, .int .i64 0, .bool false, .int .i64 0, .int .i64 0] [_, _, _, _, _, _, _, _, _, _, _, _] rfl Try.underlying25 el40 rfl (by omega) (by first | rfl | kernel_rfl | simp [madeCells]) (by repeat (first | exact trivial | refine ⟨⟨by first | rfl | exact Rd.cells ‹_› | exact (RdL.rd ‹_›).cells, rfl, rfl⟩, ?_⟩)) rfl rfl rfl rfl (fun g26 => ?_)
  refine wl_freezeB (fun h1 l1 s1 => ?_)
  have r1 := rd_seg [ob 0, ob 5] 2 2 rfl (by omega) rfl s1
  refine wl_gx (ox_call rfl Try.call23 rfl (open_ok _ _ _)) rfl rfl rfl rfl rfl rfl ?_
  refine wl_gx (ox_call rfl Try.call23 rfl (open_ok _ _ _)) rfl rfl rfl rfl rfl rfl ?_
  refine wl_yes rfl rfl rfl rfl ?_
  refine wl_buildSlice [(0, _), (6, _)] [.int .i64 0, .int .i64 0, .int .i64 0, .bool false, .int .i64 0, .int .i64 0, .int .i64 0, .int .i64 0, .int .i64 0, .bool false, .int .i64 0, .int .i64 0] [_, _, _, _, _, _, _, _, _, _, _, _] rfl Try.underlying25 el40 rfl (by omega) (by first | rfl | kernel_rfl | simp [madeCells]) (by repeat (first | exact trivial | refine ⟨⟨by first | rfl | exact Rd.cells ‹_› | exact (RdL.rd ‹_›).cells, rfl, rfl⟩, ?_⟩)) rfl rfl rfl rfl (fun g29 => ?_)
  refine wl_freezeB (fun h2 l2 s2 => ?_)
  have r2 := rd_seg [ob 7, ob 1] 2 2 rfl (by omega) rfl s2
  refine wl_gx (ox_call rfl Try.call16 rfl (far_true [ob 0, ob 5] [ob 7, ob 1] _ _ h2 (r1.up l2) r2 (by decide) (by decide) (ok2 (ob_ok (by omega)) (ob_ok (by omega))) (ok2 (ob_ok (by omega)) (ob_ok (by omega))) _ _ sane4)) rfl rfl rfl rfl rfl rfl ?_
  refine wl_x (ox_pick_t rfl rfl rfl) rfl rfl rfl ?_
  refine wl_x (ox_assign rfl rfl) rfl rfl rfl ?_
  refine wl_nil ?_
  refine nx_then ?_
  refine ws_seq ?_
  refine ws_region ?_
  refine wl_x (ox_call rfl Try.call23 rfl (open_ok _ _ _)) rfl rfl rfl ?_
  refine wl_buildSlice1 [_, _, _, _, _, _] rfl Try.underlying25 el40 rfl (by first | rfl | exact Rd.cells ‹_› | exact (RdL.rd ‹_›).cells) rfl rfl (by omega) rfl rfl rfl (fun g34 => ?_)
  refine wl_freezeB (fun h1 l1 s1 => ?_)
  have r1 := rd_seg [ob 0] 1 1 rfl (by omega) rfl s1
  refine wl_x (ox_call rfl Try.call22 rfl (bar_ok _ _ _ _)) rfl rfl rfl ?_
  refine wl_buildSlice1 [_, _, _, _, _, _] rfl Try.underlying25 el40 rfl (by first | rfl | exact Rd.cells ‹_› | exact (RdL.rd ‹_›).cells) rfl rfl (by omega) rfl rfl rfl (fun g36 => ?_)
  refine wl_freezeB (fun h2 l2 s2 => ?_)
  have r2 := rd_seg [fb 0 10] 1 1 rfl (by omega) rfl s2
  refine wl_x (ox_call rfl Try.call12 rfl (distance_v [ob 0] [fb 0 10] _ _ 1 h2 (r1.up l2) r2 (by decide) (by decide) (ok1 (ob_ok (by omega))) (ok1 (fb_ok (by omega))) _)) rfl rfl rfl ?_
  rw [sane5]
  refine wl_x (ox_move rfl rfl) rfl rfl rfl ?_
  refine wl_x (ox_extract rfl rfl rfl) rfl rfl rfl ?_
  refine wl_x (ox_extract rfl rfl rfl) rfl rfl rfl ?_
  refine wl_x (ox_assign rfl rfl) rfl rfl rfl ?_
  refine wl_x (ox_assign rfl rfl) rfl rfl rfl ?_
  refine wl_nil ?_
  refine nx_then ?_
  refine ws_seq ?_
  refine ws_region ?_
  refine wl_x (ox_move rfl rfl) rfl rfl rfl ?_
  refine wl_x (ox_move rfl rfl) rfl rfl rfl ?_
  refine wl_gx (ox_move rfl rfl) rfl rfl rfl rfl rfl rfl ?_
  refine wl_x (ox_pick_t rfl rfl rfl) rfl rfl rfl ?_
  refine wl_x (ox_move rfl rfl) rfl rfl rfl ?_
  refine wl_gx (ox_move rfl rfl) rfl rfl rfl rfl rfl rfl ?_
  refine wl_gx (ox_eqi rfl rfl rfl) rfl rfl rfl rfl rfl rfl ?_
  refine wl_x (ox_pick_t rfl rfl rfl) rfl rfl rfl ?_
  refine wl_x (ox_move rfl rfl) rfl rfl rfl ?_
  refine wl_split (t := 48) rfl (fun hs => ?_) (fun hs => absurd (rfl) hs)
  refine wl_gx (ox_move rfl rfl) rfl rfl rfl rfl rfl rfl ?_
  first | refine wl_gx (ox_notd rfl rfl) rfl rfl rfl rfl rfl rfl ?_ | refine wl_gx (ox_not rfl rfl) rfl rfl rfl rfl rfl rfl ?_
  refine wl_x (ox_pick_t rfl rfl rfl) rfl rfl rfl ?_
  refine wl_x (ox_move rfl rfl) rfl rfl rfl ?_
  refine wl_splitb (t := 52) rfl (fun hz => ?_) (fun hz => ?_)
  · skip
    refine wl_gx (ox_call rfl Try.call22 rfl (bar_ok _ _ _ _)) rfl rfl rfl rfl rfl rfl ?_
    refine wl_gx (ox_call rfl Try.call23 rfl (open_ok _ _ _)) rfl rfl rfl rfl rfl rfl ?_
    refine wl_yes rfl rfl rfl rfl ?_
    refine wl_buildSlice [(0, _), (6, _)] [.int .i64 0, .int .i64 0, .int .i64 0, .bool false, .int .i64 0, .int .i64 0, .int .i64 0, .int .i64 0, .int .i64 0, .bool false, .int .i64 0, .int .i64 0] [_, _, _, _, _, _, _, _, _, _, _, _] rfl Try.underlying25 el40 rfl (by omega) (by first | rfl | kernel_rfl | simp [madeCells]) (by repeat (first | exact trivial | refine ⟨⟨by first | rfl | exact Rd.cells ‹_› | exact (RdL.rd ‹_›).cells, rfl, rfl⟩, ?_⟩)) rfl rfl rfl rfl (fun g55 => ?_)
    refine wl_freezeB (fun h1 l1 s1 => ?_)
    have r1 := rd_seg [fb 0 10, ob 3] 2 2 rfl (by omega) rfl s1
    refine wl_gx (ox_call rfl Try.call20 rfl (count_ok [fb 0 10, ob 3] _ 1 9 h1 r1 (by decide) _)) rfl rfl rfl rfl rfl rfl ?_
    refine wl_gx (ox_eqi rfl rfl rfl) rfl rfl rfl rfl rfl rfl ?_
    refine wl_x (ox_pick_t rfl rfl rfl) rfl rfl rfl ?_
    refine wl_x (ox_assign rfl rfl) rfl rfl rfl ?_
    refine wl_nil ?_
    refine nx_then ?_
    refine ws_ret ?_
    exact nx_ret1 rfl rfl (rfl)
  · skip
    cases hz
end Go.Proofs.Ythdkhnjnhhofgaa
