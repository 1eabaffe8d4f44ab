/- Walks: the lists that numbers determine. -/
import Derived.Test.YthdkhnjnhhofgaaWr
set_option linter.unusedSimpArgs false
set_option linter.unusedVariables false
set_option maxRecDepth 100000
namespace Go.Proofs.Ythdkhnjnhhofgaa
open Go.Eng Go.RowKit Go.Kuhn

abbrev Tri := Int × Int × Int
def cT (t : Tri) : List Value := [.int .i64 t.1, .int .i64 t.2.1, .int .i64 t.2.2]
theorem cT_len : ∀ b, (cT b).length = 3 := fun _ => rfl
def I64 (n : Int) : Prop := -9223372036854775808 ≤ n ∧ n ≤ 9223372036854775807
structure TOk (t : Tri) : Prop where
  a : I64 t.1
  b : I64 t.2.1
  c : I64 t.2.2
def made1 (t : Tri) : Br := ⟨t.2.2 % 7 / 3, t.1.tmod 1000000, t.1.tmod 1000000 + t.2.1.tmod 1000, decide (t.2.2.tmod 5 = 4), t.2.1.tmod 50, t.2.2.tmod 50⟩
def made (l : List Tri) : List Br := (l.take 14).map made1

theorem tmod_bd (a b : Int) (hb : 0 < b) : -b < a.tmod b ∧ a.tmod b < b := ⟨Int.lt_tmod_of_pos a hb, Int.tmod_lt_of_pos a hb⟩
theorem made_ok (l : List Tri) (vl : Value) (h : Hp) (hR : RdL cT 3 h [] vl l) (hA : ∀ t ∈ l, TOk t) :
    FnT Try.prog 10 #[vl] h [] (fun r h' ms' => ms' = [] ∧ RdL cBr 6 h' [] r (made l)) := by
  have hl := hR.len_le
  refine fn_enter Try.func10 Try.ntmps10 rfl rfl (fun w0 hw0 => ?_)
  simp only [argS]
  refine ws_seq ?_
  refine ws_region ?_
  refine wl_x (ox_assign rfl rfl) rfl rfl rfl ?_
  refine wl_nil ?_
  refine nx_then ?_
  refine ws_seq ?_
  refine ws_region ?_
  refine wl_x (ox_assign rfl rfl) rfl rfl rfl ?_
  refine wl_nil ?_
  refine nx_then ?_
  refine ws_seq ?_
  refine ws_seq ?_
  refine ws_region ?_
  refine wl_x (ox_assign rfl rfl) rfl rfl rfl ?_
  refine wl_nil ?_
  refine nx_then ?_
  refine ws_block ?_
  refine ws_emp ?_
  refine ws_loop (fun n s h' ms' => ∃ (k : Nat) (v : Value) (m : Hp), n = l.length - k ∧ s = [(0, vl), (3, v), (4, .int .i64 k)] ∧ h = h' ∧ ms' = [m] ∧ k ≤ l.length ∧ k ≤ 14 ∧ OwnL cBr 6 40 m v ((l.take k).map made1))
    (l.length - 0) _ ⟨0, _, _, rfl, rfl, rfl, rfl, by omega, by omega, OwnL.nil cBr_len⟩ (by repeat (first | exact trivial | refine ⟨rfl, ?_⟩)) ?_
  rintro n s h' ms' ⟨k, v, m, rfl, rfl, rfl, rfl, hk, hk14, hO⟩
  have hO2 := hO.own.1
  refine ws_seq ?_
  refine ws_seq ?_
  refine ws_region ?_
  refine wl_x (ox_move rfl rfl) rfl rfl rfl ?_
  refine wl_x (ox_move rfl rfl) rfl rfl rfl ?_
  first | refine wl_x (ox_len (ty := 22) rfl Try.underlying22 rfl) rfl rfl rfl ?_ | refine wl_x (ox_lenR hR.rd.any rfl Try.underlying22 rfl) rfl rfl rfl ?_
  refine wl_x (ox_lss rfl rfl rfl) rfl rfl rfl ?_
  refine wl_x (ox_move rfl rfl) rfl rfl rfl ?_
  refine wl_split (t := 11) rfl (fun hlt => ?_) (fun hlt => ?_)
  · skip
    have hkl : k < l.length := by omega
    have hts := take_succ_map made1 l k hkl
    obtain ⟨⟨a1, a2⟩, ⟨b1, b2⟩, c1, c2⟩ := hA _ (List.getElem_mem hkl)
    have m1 := tmod_bd l[k].1 1000000 (by omega)
    have m2 := tmod_bd l[k].2.1 1000 (by omega)
    have hml : ((l.take k).map made1).length = k := by simp; omega
    refine wl_gx (ox_move rfl rfl) rfl rfl rfl rfl rfl rfl ?_
    refine wl_gx (ox_lss rfl rfl rfl) rfl rfl rfl rfl rfl rfl ?_
    refine wl_x (ox_pick_t rfl rfl rfl) rfl rfl rfl ?_
    refine wl_nil ?_
    refine nx_then ?_
    refine ws_if rfl (fun h14 => ?_) (fun h14 => ?_)
    · skip
      refine ws_skip ?_
      refine nx_then ?_
      refine ws_seq ?_
      refine ws_block ?_
      refine ws_seq ?_
      refine ws_region ?_
      refine wl_x (ox_move rfl rfl) rfl rfl rfl ?_
      refine wl_x (ox_move rfl rfl) rfl rfl rfl ?_
      first | refine wl_x (ox_index _ rfl Try.underlying22 el50 rfl rfl rfl (by omega)) rfl rfl rfl ?_ | refine wl_x (ox_indexR _ hR.rd.any rfl Try.underlying22 el50 rfl rfl rfl (by omega)) rfl rfl rfl ?_
      refine wl_x (ox_loadG rfl Try.underlying50 rfl el50 rfl rfl (by first | exact hR.any.seg hkl)) rfl rfl rfl ?_
      refine wl_alloc [.int .i64 0, .int .i64 0, .int .i64 0] rfl el50 rfl rfl rfl rfl (fun g5 => ?_)
      first | refine wl_storeAll 0 [_, _, _] rfl el50 rfl rfl rfl (by simp [Value.oneCell']) rfl rfl rfl rfl rfl ?_ | refine wl_storeAll 1 [_, _, _] rfl el50 rfl rfl rfl (by simp [Value.oneCell']) rfl rfl rfl rfl rfl ?_ | refine wl_storeAll 2 [_, _, _] rfl el50 rfl rfl rfl (by simp [Value.oneCell']) rfl rfl rfl rfl rfl ?_ | refine wl_storeAll 3 [_, _, _] rfl el50 rfl rfl rfl (by simp [Value.oneCell']) rfl rfl rfl rfl rfl ?_ | refine wl_storeAll 4 [_, _, _] rfl el50 rfl rfl rfl (by simp [Value.oneCell']) rfl rfl rfl rfl rfl ?_
      refine wl_nil ?_
      refine nx_then ?_
      refine ws_seq ?_
      refine ws_draw 15 fol (by kernel_rfl) rfl ?_
      simp only [List.take_succ_cons, List.take_zero, List.drop_succ_cons, List.drop_zero, List.take_nil, List.drop_nil]
      refine wr_x (ox_indexA 2 rfl Try.underlying50 el3 rfl rfl rfl (by omega)) rfl rfl ?_
      refine wr_x (ox_load rfl Try.underlying3 rfl rfl (by first | exact Cell.blk 0 rfl rfl | exact Cell.blk 1 rfl rfl | exact Cell.blk 2 rfl rfl | exact Cell.blk 3 rfl rfl | exact Cell.blk 4 rfl rfl)) rfl rfl ?_
      refine wr_x (ox_call rfl Try.call24 rfl (mod_ok _ _ (by omega) (by omega) _ _)) rfl rfl ?_
      first | refine wr_x (ox_quoP rfl rfl rfl (by omega) (by omega)) rfl rfl ?_ | refine wr_x (ox_quo rfl rfl rfl (by omega) (by omega)) rfl rfl ?_
      refine wr_x (ox_indexA 0 rfl Try.underlying50 el3 rfl rfl rfl (by omega)) rfl rfl ?_
      refine wr_x (ox_load rfl Try.underlying3 rfl rfl (by first | exact Cell.blk 0 rfl rfl | exact Cell.blk 1 rfl rfl | exact Cell.blk 2 rfl rfl | exact Cell.blk 3 rfl rfl | exact Cell.blk 4 rfl rfl)) rfl rfl ?_
      first | refine wr_x (ox_remP rfl rfl rfl (by omega) (by omega)) rfl rfl ?_ | refine wr_x (ox_rem rfl rfl rfl (by omega)) rfl rfl ?_
      refine wr_x (ox_indexA 1 rfl Try.underlying50 el3 rfl rfl rfl (by omega)) rfl rfl ?_
      refine wr_x (ox_load rfl Try.underlying3 rfl rfl (by first | exact Cell.blk 0 rfl rfl | exact Cell.blk 1 rfl rfl | exact Cell.blk 2 rfl rfl | exact Cell.blk 3 rfl rfl | exact Cell.blk 4 rfl rfl)) rfl rfl ?_
      first | refine wr_x (ox_remP rfl rfl rfl (by omega) (by omega)) rfl rfl ?_ | refine wr_x (ox_rem rfl rfl rfl (by omega)) rfl rfl ?_
      refine wr_x (ox_indexA 2 rfl Try.underlying50 el3 rfl rfl rfl (by omega)) rfl rfl ?_
      refine wr_x (ox_load rfl Try.underlying3 rfl rfl (by first | exact Cell.blk 0 rfl rfl | exact Cell.blk 1 rfl rfl | exact Cell.blk 2 rfl rfl | exact Cell.blk 3 rfl rfl | exact Cell.blk 4 rfl rfl)) rfl rfl ?_
      first | refine wr_x (ox_remP rfl rfl rfl (by omega) (by omega)) rfl rfl ?_ | refine wr_x (ox_rem rfl rfl rfl (by omega)) rfl rfl ?_
      refine wr_x (ox_buildS st40 [.int .i64 0, .int .i64 0, .int .i64 0, .bool false, .int .i64 0, .int .i64 0] [(0, _), (1, _), (4, _), (5, _)] [_, _, _, _, _, _] rfl el40 rfl rfl (by repeat (first | exact trivial | refine ⟨⟨rfl, rfl, rfl⟩, ?_⟩)) rfl) rfl rfl ?_
      refine wr_b (onb_alloc [.int .i64 0, .int .i64 0, .int .i64 0, .bool false, .int .i64 0, .int .i64 0] rfl el40 rfl) rfl rfl ?_
      refine wr_nil1 (fun g6 => ?_)
      first | refine wl_storeAll 0 [_, _, _, _, _, _] rfl el40 rfl rfl rfl (by simp [Value.oneCell']) rfl rfl rfl rfl rfl ?_ | refine wl_storeAll 1 [_, _, _, _, _, _] rfl el40 rfl rfl rfl (by simp [Value.oneCell']) rfl rfl rfl rfl rfl ?_ | refine wl_storeAll 2 [_, _, _, _, _, _] rfl el40 rfl rfl rfl (by simp [Value.oneCell']) rfl rfl rfl rfl rfl ?_ | refine wl_storeAll 3 [_, _, _, _, _, _] rfl el40 rfl rfl rfl (by simp [Value.oneCell']) rfl rfl rfl rfl rfl ?_ | refine wl_storeAll 4 [_, _, _, _, _, _] rfl el40 rfl rfl rfl (by simp [Value.oneCell']) rfl rfl rfl rfl rfl ?_
      refine wl_nil ?_
      refine nx_then ?_
      refine ws_seq ?_
      refine ws_region ?_
      refine wl_x (ox_fieldF fd40_1 rfl rfl) rfl rfl rfl ?_
      refine wl_x (ox_load rfl Try.underlying3 rfl rfl (by first | exact Cell.blk 0 rfl rfl | exact Cell.blk 1 rfl rfl | exact Cell.blk 2 rfl rfl | exact Cell.blk 3 rfl rfl | exact Cell.blk 4 rfl rfl)) rfl rfl rfl ?_
      refine wl_x (ox_indexA 1 rfl Try.underlying50 el3 rfl rfl rfl (by omega)) rfl rfl rfl ?_
      refine wl_x (ox_load rfl Try.underlying3 rfl rfl (by first | exact Cell.blk 0 rfl rfl | exact Cell.blk 1 rfl rfl | exact Cell.blk 2 rfl rfl | exact Cell.blk 3 rfl rfl | exact Cell.blk 4 rfl rfl)) rfl rfl rfl ?_
      first | refine wl_x (ox_remP rfl rfl rfl (by omega) (by omega)) rfl rfl rfl ?_ | refine wl_x (ox_rem rfl rfl rfl (by omega)) rfl rfl rfl ?_
      refine wl_x (ox_add rfl rfl rfl (by omega)) rfl rfl rfl ?_
      refine wl_x (ox_fieldF fd40_2 rfl rfl) rfl rfl rfl ?_
      first | refine wl_storeAt 0 _ rfl el3 rfl rfl (by first | rfl | exact Rd.one ‹_› | exact (RdL.rd ‹_›).one) rfl rfl (by first | decide | (simp; done) | exact of_decide_eq_true rfl | (simp; omega)) rfl rfl ?_ | refine wl_storeAt 1 _ rfl el3 rfl rfl (by first | rfl | exact Rd.one ‹_› | exact (RdL.rd ‹_›).one) rfl rfl (by first | decide | (simp; done) | exact of_decide_eq_true rfl | (simp; omega)) rfl rfl ?_ | refine wl_storeAt 2 _ rfl el3 rfl rfl (by first | rfl | exact Rd.one ‹_› | exact (RdL.rd ‹_›).one) rfl rfl (by first | decide | (simp; done) | exact of_decide_eq_true rfl | (simp; omega)) rfl rfl ?_ | refine wl_storeAt 3 _ rfl el3 rfl rfl (by first | rfl | exact Rd.one ‹_› | exact (RdL.rd ‹_›).one) rfl rfl (by first | decide | (simp; done) | exact of_decide_eq_true rfl | (simp; omega)) rfl rfl ?_ | refine wl_storeAt 4 _ rfl el3 rfl rfl (by first | rfl | exact Rd.one ‹_› | exact (RdL.rd ‹_›).one) rfl rfl (by first | decide | (simp; done) | exact of_decide_eq_true rfl | (simp; omega)) rfl rfl ?_
      refine wl_nil ?_
      refine nx_then ?_
      refine ws_seq ?_
      refine ws_region ?_
      refine wl_x (ox_indexA 2 rfl Try.underlying50 el3 rfl rfl rfl (by omega)) rfl rfl rfl ?_
      refine wl_x (ox_load rfl Try.underlying3 rfl rfl (by first | exact Cell.blk 0 rfl rfl | exact Cell.blk 1 rfl rfl | exact Cell.blk 2 rfl rfl | exact Cell.blk 3 rfl rfl | exact Cell.blk 4 rfl rfl)) rfl rfl rfl ?_
      first | refine wl_x (ox_remP rfl rfl rfl (by omega) (by omega)) rfl rfl rfl ?_ | refine wl_x (ox_rem rfl rfl rfl (by omega)) rfl rfl rfl ?_
      refine wl_x (ox_eqi rfl rfl rfl) rfl rfl rfl ?_
      refine wl_x (ox_fieldF fd40_3 rfl rfl) rfl rfl rfl ?_
      first | refine wl_storeAt 0 _ rfl el4 rfl rfl (by first | rfl | exact Rd.one ‹_› | exact (RdL.rd ‹_›).one) rfl rfl (by first | decide | (simp; done) | exact of_decide_eq_true rfl | (simp; omega)) rfl rfl ?_ | refine wl_storeAt 1 _ rfl el4 rfl rfl (by first | rfl | exact Rd.one ‹_› | exact (RdL.rd ‹_›).one) rfl rfl (by first | decide | (simp; done) | exact of_decide_eq_true rfl | (simp; omega)) rfl rfl ?_ | refine wl_storeAt 2 _ rfl el4 rfl rfl (by first | rfl | exact Rd.one ‹_› | exact (RdL.rd ‹_›).one) rfl rfl (by first | decide | (simp; done) | exact of_decide_eq_true rfl | (simp; omega)) rfl rfl ?_ | refine wl_storeAt 3 _ rfl el4 rfl rfl (by first | rfl | exact Rd.one ‹_› | exact (RdL.rd ‹_›).one) rfl rfl (by first | decide | (simp; done) | exact of_decide_eq_true rfl | (simp; omega)) rfl rfl ?_ | refine wl_storeAt 4 _ rfl el4 rfl rfl (by first | rfl | exact Rd.one ‹_› | exact (RdL.rd ‹_›).one) rfl rfl (by first | decide | (simp; done) | exact of_decide_eq_true rfl | (simp; omega)) rfl rfl ?_
      refine wl_nil ?_
      refine nx_then ?_
      refine ws_region ?_
      refine wl_x (ox_move rfl rfl) rfl rfl rfl ?_
      refine wl_x (ox_loadG rfl Try.underlying40 rfl el40 rfl rfl (by first | exact Seg.blk 0 rfl | exact Seg.blk 1 rfl | exact Seg.blk 2 rfl | exact Seg.blk 3 rfl | exact Seg.blk 4 rfl | exact hR.any.seg hkl)) rfl rfl rfl ?_
      refine wl_buildSlice1 [_, _, _, _, _, _] rfl Try.underlying25 el40 rfl (by first | rfl | exact Rd.cells ‹_› | exact (RdL.rd ‹_›).cells) rfl rfl (by omega) rfl rfl rfl (fun g49 => ?_)
      refine wl_appendL 3 hO (RdL.one cBr_len (x := made1 l[k]) (List.Mem.head _) rfl) rfl Try.underlying25 el40 rfl (by omega) rfl rfl rfl cBr_one (by simp; omega) (by simp; omega) rfl rfl rfl (fun v' m' hO' => ?_)
      refine wl_x (ox_assign rfl rfl) rfl rfl rfl ?_
      refine wl_nil ?_
      refine nx_block ?_
      refine nx_then ?_
      refine ws_region ?_
      refine wl_x (ox_move rfl rfl) rfl rfl rfl ?_
      refine wl_x (ox_add rfl rfl rfl (by omega)) rfl rfl rfl ?_
      refine wl_x (ox_assign rfl rfl) rfl rfl rfl ?_
      refine wl_nil ?_
      refine nx_drop (nx_drop (nx_drop ?_))
      refine nx_round (l.length - (k + 1)) _ (by omega) ⟨k + 1, v', m', rfl, rfl, rfl, rfl, by omega, by omega, by rw [hts]; exact hO'⟩ (by repeat (first | exact trivial | refine ⟨rfl, ?_⟩))
    · skip
      obtain rfl : k = 14 := by omega
      refine ws_exit ?_
      refine nx_then_exit ?_
      refine nx_then_exit ?_
      refine nx_block_exit ?_
      refine nx_then ?_
      refine ws_seq ?_
      refine ws_region ?_
      refine wl_x (ox_move rfl rfl) rfl rfl rfl ?_
      refine wl_x (ox_assign rfl rfl) rfl rfl rfl ?_
      refine wl_nil ?_
      refine nx_then ?_
      refine ws_ret ?_
      refine nx_freezeL hO (fun h' hle hR' => ?_)
      exact nx_ret1 rfl rfl (⟨rfl, hR'⟩)
  · skip
    have hkl : k = l.length := by omega
    have hmk : (l.take k).map made1 = made l := by unfold made; rw [List.take_of_length_le (show l.length ≤ k by omega), List.take_of_length_le (show l.length ≤ 14 by omega)]
    rw [hmk] at hO
    refine wl_skip rfl rfl rfl rfl rfl rfl rfl ?_
    refine wl_skip rfl rfl rfl rfl rfl rfl rfl ?_
    refine wl_x (ox_pick_f rfl rfl rfl) rfl rfl rfl ?_
    refine wl_nil ?_
    refine nx_then ?_
    refine ws_cond_f rfl ?_
    refine ws_exit ?_
    refine nx_then_exit ?_
    refine nx_then_exit ?_
    refine nx_block_exit ?_
    refine nx_then ?_
    refine ws_seq ?_
    refine ws_region ?_
    refine wl_x (ox_move rfl rfl) rfl rfl rfl ?_
    refine wl_x (ox_assign rfl rfl) rfl rfl rfl ?_
    refine wl_nil ?_
    refine nx_then ?_
    refine ws_ret ?_
    refine nx_freezeL hO (fun h' hle hR' => ?_)
    exact nx_ret1 rfl rfl (⟨rfl, hR'⟩)

/-- Bars in reach, of the three dimensions. -/
structure Bd (M : Int) (b : Br) : Prop where
  b1 : -M ≤ b.birth
  b2 : b.birth ≤ M
  d1 : -M ≤ b.death
  d2 : b.death ≤ M
  n1 : 0 ≤ b.dim
  n2 : b.dim ≤ 2
theorem Bd.ok {M : Int} {b : Br} (h : Bd M b) (hM : M ≤ 1000000000000) : BOk b := ⟨by have := h.b1; omega, by have := h.b2; omega, by have := h.d1; omega, by have := h.d2; omega⟩
theorem made_bd (l : List Tri) : (made l).length ≤ 14 ∧ ∀ b ∈ made l, Bd 2000000 b := by
  refine ⟨by simp [made]; omega, fun b hb => ?_⟩
  obtain ⟨t, _, rfl⟩ := List.mem_map.1 hb
  have m1 := tmod_bd t.1 1000000 (by omega)
  have m2 := tmod_bd t.2.1 1000 (by omega)
  exact ⟨by simp [made1]; omega, by simp [made1]; omega, by simp [made1]; omega, by simp [made1]; omega, by simp [made1]; omega, by simp [made1]; omega⟩

theorem moved_ok (M : Int) (l : List Br) (q : List Int) (vl vq : Value) (h : Hp) (hR : RdL cBr 6 h [] vl l) (hRq : RdL cI 1 h [] vq q) (hM : 0 ≤ M ∧ M ≤ 1000000000) (hl : l.length ≤ 1000000) (hA : ∀ b ∈ l, Bd M b) (hQ : ∀ n ∈ q, I64 n) :
    FnT Try.prog 11 #[vl, vq] h [] (fun r h' ms' => ms' = [] ∧ ∃ o, RdL cBr 6 h' [] r o ∧ (∀ b ∈ o, Bd (M + 10) b) ∧ o.length ≤ 2 * l.length) := by
  have hql := hRq.len_le
  refine fn_enter Try.func11 Try.ntmps11 rfl rfl (fun w0 hw0 => ?_)
  simp only [argS]
  refine ws_seq ?_
  refine ws_region ?_
  refine wl_x (ox_assign rfl rfl) rfl rfl rfl ?_
  refine wl_nil ?_
  refine nx_then ?_
  refine ws_seq ?_
  refine ws_region ?_
  refine wl_x (ox_assign rfl rfl) rfl rfl rfl ?_
  refine wl_nil ?_
  refine nx_then ?_
  refine ws_seq ?_
  refine ws_seq ?_
  refine ws_region ?_
  refine wl_x (ox_assign rfl rfl) rfl rfl rfl ?_
  refine wl_nil ?_
  refine nx_then ?_
  refine ws_block ?_
  refine ws_emp ?_
  refine ws_loop (fun n s h' ms' => ∃ (k : Nat) (v : Value) (m : Hp) (o : List Br), n = l.length - k ∧ s = [(0, vl), (1, vq), (5, v), (6, .int .i64 k)] ∧ h = h' ∧ ms' = [m] ∧ k ≤ l.length ∧ OwnL cBr 6 40 m v o ∧ (∀ b ∈ o, Bd (M + 10) b) ∧ o.length ≤ 2 * k)
    (l.length - 0) _ ⟨0, _, _, [], rfl, rfl, rfl, rfl, by omega, OwnL.nil cBr_len, by simp, by simp⟩ (by repeat (first | exact trivial | refine ⟨rfl, ?_⟩)) ?_
  rintro n s h' ms' ⟨k, v, m, o, rfl, rfl, rfl, rfl, hk, hO, hB, hol⟩
  refine ws_seq ?_
  refine ws_seq ?_
  refine ws_region ?_
  refine wl_x (ox_move rfl rfl) rfl rfl rfl ?_
  refine wl_x (ox_move rfl rfl) rfl rfl rfl ?_
  first | refine wl_x (ox_len (ty := 25) rfl Try.underlying25 rfl) rfl rfl rfl ?_ | refine wl_x (ox_lenR hR.rd.any rfl Try.underlying25 rfl) rfl rfl rfl ?_ | refine wl_x (ox_lenR hRq.rd.any rfl Try.underlying25 rfl) rfl rfl rfl ?_
  refine wl_x (ox_lss rfl rfl rfl) rfl rfl rfl ?_
  refine wl_nil ?_
  refine nx_then ?_
  refine ws_if rfl (fun hlt => ?_) (fun hlt => ?_)
  · skip
    have hkl : k < l.length := by omega
    obtain ⟨x1, x2, x3, x4, x5, x6⟩ := hA _ (List.getElem_mem hkl)
    refine ws_skip ?_
    refine nx_then ?_
    refine ws_seq ?_
    refine ws_block ?_
    refine ws_seq ?_
    refine ws_region ?_
    refine wl_x (ox_move rfl rfl) rfl rfl rfl ?_
    refine wl_x (ox_move rfl rfl) rfl rfl rfl ?_
    first | refine wl_x (ox_index _ rfl Try.underlying25 el40 rfl rfl rfl (by omega)) rfl rfl rfl ?_ | refine wl_x (ox_indexR _ hR.rd.any rfl Try.underlying25 el40 rfl rfl rfl (by omega)) rfl rfl rfl ?_ | refine wl_x (ox_indexR _ hRq.rd.any rfl Try.underlying25 el40 rfl rfl rfl (by omega)) rfl rfl rfl ?_
    refine wl_x (ox_loadG rfl Try.underlying40 rfl el40 rfl rfl (by first | exact hR.any.seg hkl)) rfl rfl rfl ?_
    refine wl_alloc [.int .i64 0, .int .i64 0, .int .i64 0, .bool false, .int .i64 0, .int .i64 0] rfl el40 rfl rfl rfl rfl (fun g7 => ?_)
    first | refine wl_storeAll 0 [_, _, _, _, _, _] rfl el40 rfl rfl rfl (by simp [Value.oneCell']) rfl rfl rfl rfl rfl ?_ | refine wl_storeAll 1 [_, _, _, _, _, _] rfl el40 rfl rfl rfl (by simp [Value.oneCell']) rfl rfl rfl rfl rfl ?_ | refine wl_storeAll 2 [_, _, _, _, _, _] rfl el40 rfl rfl rfl (by simp [Value.oneCell']) rfl rfl rfl rfl rfl ?_ | refine wl_storeAll 3 [_, _, _, _, _, _] rfl el40 rfl rfl rfl (by simp [Value.oneCell']) rfl rfl rfl rfl rfl ?_ | refine wl_storeAll 4 [_, _, _, _, _, _] rfl el40 rfl rfl rfl (by simp [Value.oneCell']) rfl rfl rfl rfl rfl ?_
    refine wl_nil ?_
    refine nx_then ?_
    refine ws_seq ?_
    refine ws_region ?_
    refine wl_x (ox_assign rfl rfl) rfl rfl rfl ?_
    refine wl_nil ?_
    refine nx_then ?_
    refine ws_cut (fun s h' ms' => ∃ n : Int, s = [(0, vl), (1, vq), (5, v), (6, .int .i64 k), (7, .pointer (some ⟨g7, 0, none⟩)), (8, .int .i64 n)] ∧ h' = h ∧ ms' = [Blk g7 40 (cBr l[k]), m] ∧ I64 n) ?_ (fun s h ms hI => ?_)
    · skip
      refine ws_seq ?_
      refine ws_region ?_
      refine wl_x (ox_move rfl rfl) rfl rfl rfl ?_
      first | refine wl_x (ox_len (ty := 23) rfl Try.underlying23 rfl) rfl rfl rfl ?_ | refine wl_x (ox_lenR hR.rd.any rfl Try.underlying23 rfl) rfl rfl rfl ?_ | refine wl_x (ox_lenR hRq.rd.any rfl Try.underlying23 rfl) rfl rfl rfl ?_
      refine wl_x (ox_gtr rfl rfl rfl) rfl rfl rfl ?_
      refine wl_nil ?_
      refine nx_then ?_
      refine ws_if rfl (fun hq0 => ?_) (fun hq0 => ?_)
      · skip
        have hqp : 0 < q.length := by omega
        have hmd : k % q.length < q.length := Nat.mod_lt _ hqp
        refine ws_region ?_
        refine wl_x (ox_move rfl rfl) rfl rfl rfl ?_
        refine wl_x (ox_move rfl rfl) rfl rfl rfl ?_
        refine wl_x (ox_move rfl rfl) rfl rfl rfl ?_
        first | refine wl_x (ox_len (ty := 23) rfl Try.underlying23 rfl) rfl rfl rfl ?_ | refine wl_x (ox_lenR hR.rd.any rfl Try.underlying23 rfl) rfl rfl rfl ?_ | refine wl_x (ox_lenR hRq.rd.any rfl Try.underlying23 rfl) rfl rfl rfl ?_
        first | refine wl_x (ox_remP rfl rfl rfl (by omega) (by omega)) rfl rfl rfl ?_ | refine wl_x (ox_rem rfl rfl rfl (by omega)) rfl rfl rfl ?_
        first | refine wl_x (ox_index (k % q.length) rfl Try.underlying23 el3 rfl rfl (by omega) (by omega)) rfl rfl rfl ?_ | refine wl_x (ox_indexR (k % q.length) hR.rd.any rfl Try.underlying23 el3 rfl rfl (by omega) (by omega)) rfl rfl rfl ?_ | refine wl_x (ox_indexR (k % q.length) hRq.rd.any rfl Try.underlying23 el3 rfl rfl (by omega) (by omega)) rfl rfl rfl ?_
        refine wl_x (ox_load rfl Try.underlying3 rfl rfl (by first | exact hRq.any.cell0 hmd rfl)) rfl rfl rfl ?_
        refine wl_x (ox_assign rfl rfl) rfl rfl rfl ?_
        refine wl_nil ?_
        refine nx_meet _ ⟨_, rfl, rfl, rfl, hQ _ (List.getElem_mem hmd)⟩ (by repeat (first | exact trivial | refine ⟨rfl, ?_⟩))
      · skip
        refine ws_skip ?_
        refine nx_meet _ ⟨0, rfl, rfl, rfl, by unfold I64; omega⟩ (by repeat (first | exact trivial | refine ⟨rfl, ?_⟩))
    obtain ⟨n, rfl, rfl, rfl, hn⟩ := hI
    · skip
      have hn1 := hn.1
      have hn2 := hn.2
      have y1 := tmod_bd n 4 (by omega)
      have y2 := tmod_bd (n.tdiv 4) 4 (by omega)
      refine ws_seq ?_
      refine ws_region ?_
      refine wl_x (ox_fieldF fd40_1 rfl rfl) rfl rfl rfl ?_
      refine wl_x (ox_load rfl Try.underlying3 rfl rfl (by first | exact Cell.blk 0 rfl rfl | exact Cell.blk 1 rfl rfl | exact Cell.blk 2 rfl rfl | exact Cell.blk 3 rfl rfl | exact Cell.blk 4 rfl rfl | exact hRq.any.cell0 hmd rfl)) rfl rfl rfl ?_
      refine wl_x (ox_move rfl rfl) rfl rfl rfl ?_
      first | refine wl_x (ox_remP rfl rfl rfl (by omega) (by omega)) rfl rfl rfl ?_ | refine wl_x (ox_rem rfl rfl rfl (by omega)) rfl rfl rfl ?_
      refine wl_x (ox_add rfl rfl rfl (by omega)) rfl rfl rfl ?_
      refine wl_x (ox_fieldF fd40_1 rfl rfl) rfl rfl rfl ?_
      first | refine wl_storeAt 0 _ rfl el3 rfl rfl (by first | rfl | exact Rd.one ‹_› | exact (RdL.rd ‹_›).one) rfl rfl (by first | decide | (simp; done) | exact of_decide_eq_true rfl | (simp; omega)) rfl rfl ?_ | refine wl_storeAt 1 _ rfl el3 rfl rfl (by first | rfl | exact Rd.one ‹_› | exact (RdL.rd ‹_›).one) rfl rfl (by first | decide | (simp; done) | exact of_decide_eq_true rfl | (simp; omega)) rfl rfl ?_ | refine wl_storeAt 2 _ rfl el3 rfl rfl (by first | rfl | exact Rd.one ‹_› | exact (RdL.rd ‹_›).one) rfl rfl (by first | decide | (simp; done) | exact of_decide_eq_true rfl | (simp; omega)) rfl rfl ?_ | refine wl_storeAt 3 _ rfl el3 rfl rfl (by first | rfl | exact Rd.one ‹_› | exact (RdL.rd ‹_›).one) rfl rfl (by first | decide | (simp; done) | exact of_decide_eq_true rfl | (simp; omega)) rfl rfl ?_ | refine wl_storeAt 4 _ rfl el3 rfl rfl (by first | rfl | exact Rd.one ‹_› | exact (RdL.rd ‹_›).one) rfl rfl (by first | decide | (simp; done) | exact of_decide_eq_true rfl | (simp; omega)) rfl rfl ?_
      refine wl_nil ?_
      refine nx_then ?_
      refine ws_seq ?_
      refine ws_region ?_
      refine wl_x (ox_fieldF fd40_2 rfl rfl) rfl rfl rfl ?_
      refine wl_x (ox_load rfl Try.underlying3 rfl rfl (by first | exact Cell.blk 0 rfl rfl | exact Cell.blk 1 rfl rfl | exact Cell.blk 2 rfl rfl | exact Cell.blk 3 rfl rfl | exact Cell.blk 4 rfl rfl | exact hRq.any.cell0 hmd rfl)) rfl rfl rfl ?_
      refine wl_x (ox_move rfl rfl) rfl rfl rfl ?_
      first | refine wl_x (ox_quoP rfl rfl rfl (by omega) (by omega)) rfl rfl rfl ?_ | refine wl_x (ox_quo rfl rfl rfl (by omega) (by omega)) rfl rfl rfl ?_
      first | refine wl_x (ox_remP rfl rfl rfl (by omega) (by omega)) rfl rfl rfl ?_ | refine wl_x (ox_rem rfl rfl rfl (by omega)) rfl rfl rfl ?_
      refine wl_x (ox_add rfl rfl rfl (by omega)) rfl rfl rfl ?_
      refine wl_x (ox_fieldF fd40_2 rfl rfl) rfl rfl rfl ?_
      first | refine wl_storeAt 0 _ rfl el3 rfl rfl (by first | rfl | exact Rd.one ‹_› | exact (RdL.rd ‹_›).one) rfl rfl (by first | decide | (simp; done) | exact of_decide_eq_true rfl | (simp; omega)) rfl rfl ?_ | refine wl_storeAt 1 _ rfl el3 rfl rfl (by first | rfl | exact Rd.one ‹_› | exact (RdL.rd ‹_›).one) rfl rfl (by first | decide | (simp; done) | exact of_decide_eq_true rfl | (simp; omega)) rfl rfl ?_ | refine wl_storeAt 2 _ rfl el3 rfl rfl (by first | rfl | exact Rd.one ‹_› | exact (RdL.rd ‹_›).one) rfl rfl (by first | decide | (simp; done) | exact of_decide_eq_true rfl | (simp; omega)) rfl rfl ?_ | refine wl_storeAt 3 _ rfl el3 rfl rfl (by first | rfl | exact Rd.one ‹_› | exact (RdL.rd ‹_›).one) rfl rfl (by first | decide | (simp; done) | exact of_decide_eq_true rfl | (simp; omega)) rfl rfl ?_ | refine wl_storeAt 4 _ rfl el3 rfl rfl (by first | rfl | exact Rd.one ‹_› | exact (RdL.rd ‹_›).one) rfl rfl (by first | decide | (simp; done) | exact of_decide_eq_true rfl | (simp; omega)) rfl rfl ?_
      refine wl_nil ?_
      refine nx_then ?_
      refine ws_seq ?_
      refine ws_region ?_
      refine wl_x (ox_fieldF fd40_4 rfl rfl) rfl rfl rfl ?_
      refine wl_x (ox_load rfl Try.underlying3 rfl rfl (by first | exact Cell.blk 0 rfl rfl | exact Cell.blk 1 rfl rfl | exact Cell.blk 2 rfl rfl | exact Cell.blk 3 rfl rfl | exact Cell.blk 4 rfl rfl | exact hRq.any.cell0 hmd rfl)) rfl rfl rfl ?_
      refine wl_x (ox_move rfl rfl) rfl rfl rfl ?_
      refine wl_x (ox_addW rfl rfl rfl) rfl rfl rfl ?_
      refine wl_x (ox_fieldF fd40_4 rfl rfl) rfl rfl rfl ?_
      first | refine wl_storeAt 0 _ rfl el3 rfl rfl (by first | rfl | exact Rd.one ‹_› | exact (RdL.rd ‹_›).one) rfl rfl (by first | decide | (simp; done) | exact of_decide_eq_true rfl | (simp; omega)) rfl rfl ?_ | refine wl_storeAt 1 _ rfl el3 rfl rfl (by first | rfl | exact Rd.one ‹_› | exact (RdL.rd ‹_›).one) rfl rfl (by first | decide | (simp; done) | exact of_decide_eq_true rfl | (simp; omega)) rfl rfl ?_ | refine wl_storeAt 2 _ rfl el3 rfl rfl (by first | rfl | exact Rd.one ‹_› | exact (RdL.rd ‹_›).one) rfl rfl (by first | decide | (simp; done) | exact of_decide_eq_true rfl | (simp; omega)) rfl rfl ?_ | refine wl_storeAt 3 _ rfl el3 rfl rfl (by first | rfl | exact Rd.one ‹_› | exact (RdL.rd ‹_›).one) rfl rfl (by first | decide | (simp; done) | exact of_decide_eq_true rfl | (simp; omega)) rfl rfl ?_ | refine wl_storeAt 4 _ rfl el3 rfl rfl (by first | rfl | exact Rd.one ‹_› | exact (RdL.rd ‹_›).one) rfl rfl (by first | decide | (simp; done) | exact of_decide_eq_true rfl | (simp; omega)) rfl rfl ?_
      refine wl_nil ?_
      refine nx_then ?_
      refine ws_cut (fun s h' ms' => ∃ (v2 : Value) (m2 : Hp) (o2 : List Br), s = [(0, vl), (1, vq), (5, v2), (6, .int .i64 k), (7, .pointer (some ⟨g7, 0, none⟩)), (8, .int .i64 n)] ∧ h' = h ∧ ms' = [Blk g7 40 (cBr ⟨l[k].dim, l[k].birth + n.tmod 4, l[k].death + (n.tdiv 4).tmod 4, l[k].opn, IntKind.i64.wrap (l[k].low + n), l[k].high⟩), m2] ∧ OwnL cBr 6 40 m2 v2 o2 ∧ (∀ b ∈ o2, Bd (M + 10) b) ∧ o2.length ≤ 2 * k + 1) ?_ (fun s h ms hI => ?_)
      · skip
        refine ws_seq ?_
        refine ws_region ?_
        refine wl_x (ox_move rfl rfl) rfl rfl rfl ?_
        first | refine wl_x (ox_remP rfl rfl rfl (by omega) (by omega)) rfl rfl rfl ?_ | refine wl_x (ox_rem rfl rfl rfl (by omega)) rfl rfl rfl ?_
        refine wl_x (ox_nei rfl rfl rfl) rfl rfl rfl ?_
        refine wl_x (ox_move rfl rfl) rfl rfl rfl ?_
        refine wl_split (t := 50) rfl (fun hn9 => ?_) (fun hn9 => ?_)
        · skip
          refine wl_skip rfl rfl rfl rfl rfl rfl rfl ?_
          refine wl_skip rfl rfl rfl rfl rfl rfl rfl ?_
          refine wl_x (ox_pick_t rfl rfl rfl) rfl rfl rfl ?_
          refine wl_nil ?_
          refine nx_then ?_
          refine ws_cond_t rfl ?_
          refine ws_region ?_
          refine wl_x (ox_move rfl rfl) rfl rfl rfl ?_
          refine wl_x (ox_loadG rfl Try.underlying40 rfl el40 rfl rfl (by first | exact Seg.blk 0 rfl | exact Seg.blk 1 rfl | exact Seg.blk 2 rfl | exact Seg.blk 3 rfl | exact Seg.blk 4 rfl | exact hR.any.seg hkl)) rfl rfl rfl ?_
          refine wl_buildSlice1 [_, _, _, _, _, _] rfl Try.underlying25 el40 rfl (by first | rfl | exact Rd.cells ‹_› | exact (RdL.rd ‹_›).cells) rfl rfl (by omega) rfl rfl rfl (fun g56 => ?_)
          refine wl_appendL 2 hO (RdL.one cBr_len (x := ⟨l[k].dim, l[k].birth + n.tmod 4, l[k].death + (n.tdiv 4).tmod 4, l[k].opn, IntKind.i64.wrap (l[k].low + n), l[k].high⟩) (List.Mem.head _) rfl) rfl Try.underlying25 el40 rfl (by omega) rfl rfl rfl cBr_one (by simp; omega) (by simp; omega) rfl rfl rfl (fun v' m' hO' => ?_)
          refine wl_x (ox_assign rfl rfl) rfl rfl rfl ?_
          refine wl_nil ?_
          refine nx_perm (List.Perm.refl _) (nx_drop ?_)
          refine nx_meet _ ⟨v', m', _, rfl, rfl, rfl, hO', fun b hb => by
            rcases List.mem_append.1 hb with hb | hb
            · exact hB b hb
            · obtain rfl := List.mem_singleton.1 hb
              exact ⟨by show _ ≤ l[k].birth + n.tmod 4; omega, by show l[k].birth + n.tmod 4 ≤ _; omega, by show _ ≤ l[k].death + (n.tdiv 4).tmod 4; omega, by show l[k].death + (n.tdiv 4).tmod 4 ≤ _; omega, x5, x6⟩, by simp; omega⟩ (by repeat (first | exact trivial | refine ⟨rfl, ?_⟩))
        · skip
          refine wl_gx (ox_fieldF fd40_3 rfl rfl) rfl rfl rfl rfl rfl rfl ?_
          refine wl_gx (ox_load rfl Try.underlying4 rfl rfl (by first | exact Cell.blk 0 rfl rfl | exact Cell.blk 1 rfl rfl | exact Cell.blk 2 rfl rfl | exact Cell.blk 3 rfl rfl | exact Cell.blk 4 rfl rfl | exact hRq.any.cell0 hmd rfl)) rfl rfl rfl rfl rfl rfl ?_
          refine wl_x (ox_pick_f rfl rfl rfl) rfl rfl rfl ?_
          refine wl_nil ?_
          refine nx_then ?_
          refine ws_cond rfl (fun ho => ?_) (fun ho => ?_)
          · skip
            refine ws_region ?_
            refine wl_x (ox_move rfl rfl) rfl rfl rfl ?_
            refine wl_x (ox_loadG rfl Try.underlying40 rfl el40 rfl rfl (by first | exact Seg.blk 0 rfl | exact Seg.blk 1 rfl | exact Seg.blk 2 rfl | exact Seg.blk 3 rfl | exact Seg.blk 4 rfl | exact hR.any.seg hkl)) rfl rfl rfl ?_
            refine wl_buildSlice1 [_, _, _, _, _, _] rfl Try.underlying25 el40 rfl (by first | rfl | exact Rd.cells ‹_› | exact (RdL.rd ‹_›).cells) rfl rfl (by omega) rfl rfl rfl (fun g56 => ?_)
            refine wl_appendL 2 hO (RdL.one cBr_len (x := ⟨l[k].dim, l[k].birth + n.tmod 4, l[k].death + (n.tdiv 4).tmod 4, l[k].opn, IntKind.i64.wrap (l[k].low + n), l[k].high⟩) (List.Mem.head _) rfl) rfl Try.underlying25 el40 rfl (by omega) rfl rfl rfl cBr_one (by simp; omega) (by simp; omega) rfl rfl rfl (fun v' m' hO' => ?_)
            refine wl_x (ox_assign rfl rfl) rfl rfl rfl ?_
            refine wl_nil ?_
            refine nx_perm (List.Perm.refl _) (nx_drop ?_)
            refine nx_meet _ ⟨v', m', _, rfl, rfl, rfl, hO', fun b hb => by
              rcases List.mem_append.1 hb with hb | hb
              · exact hB b hb
              · obtain rfl := List.mem_singleton.1 hb
                exact ⟨by show _ ≤ l[k].birth + n.tmod 4; omega, by show l[k].birth + n.tmod 4 ≤ _; omega, by show _ ≤ l[k].death + (n.tdiv 4).tmod 4; omega, by show l[k].death + (n.tdiv 4).tmod 4 ≤ _; omega, x5, x6⟩, by simp; omega⟩ (by repeat (first | exact trivial | refine ⟨rfl, ?_⟩))
          · skip
            refine ws_skip ?_
            refine nx_meet _ ⟨v, m, o, rfl, rfl, rfl, hO, hB, by omega⟩ (by repeat (first | exact trivial | refine ⟨rfl, ?_⟩))
      obtain ⟨v2, m2, o2, rfl, rfl, rfl, hO2, hB2, hol2⟩ := hI
      · skip
        refine ws_seq ?_
        refine ws_region ?_
        refine wl_x (ox_move rfl rfl) rfl rfl rfl ?_
        first | refine wl_x (ox_remP rfl rfl rfl (by omega) (by omega)) rfl rfl rfl ?_ | refine wl_x (ox_rem rfl rfl rfl (by omega)) rfl rfl rfl ?_
        refine wl_x (ox_eqi rfl rfl rfl) rfl rfl rfl ?_
        refine wl_x (ox_move rfl rfl) rfl rfl rfl ?_
        refine wl_split (t := 61) rfl (fun hn3 => ?_) (fun hn3 => ?_)
        · skip
          refine wl_gx (ox_fieldF fd40_3 rfl rfl) rfl rfl rfl rfl rfl rfl ?_
          refine wl_gx (ox_load rfl Try.underlying4 rfl rfl (by first | exact Cell.blk 0 rfl rfl | exact Cell.blk 1 rfl rfl | exact Cell.blk 2 rfl rfl | exact Cell.blk 3 rfl rfl | exact Cell.blk 4 rfl rfl | exact hRq.any.cell0 hmd rfl)) rfl rfl rfl rfl rfl rfl ?_
          refine wl_gx (ox_not rfl rfl) rfl rfl rfl rfl rfl rfl ?_
          refine wl_x (ox_pick_t rfl rfl rfl) rfl rfl rfl ?_
          refine wl_nil ?_
          refine nx_then ?_
          refine ws_cond rfl (fun ho => ?_) (fun ho => ?_)
          · skip
            refine ws_seq ?_
            refine ws_draw 5 fol (by kernel_rfl) rfl ?_
            simp only [List.take_succ_cons, List.take_zero, List.drop_succ_cons, List.drop_zero, List.take_nil, List.drop_nil]
            refine wr_x (ox_fieldF fd40_1 rfl rfl) rfl rfl ?_
            refine wr_x (ox_load rfl Try.underlying3 rfl rfl (by first | exact Cell.blk 0 rfl rfl | exact Cell.blk 1 rfl rfl | exact Cell.blk 2 rfl rfl | exact Cell.blk 3 rfl rfl | exact Cell.blk 4 rfl rfl | exact hRq.any.cell0 hmd rfl)) rfl rfl ?_
            refine wr_x (ox_add rfl rfl rfl (by dsimp only; omega)) rfl rfl ?_
            refine wr_x (ox_move rfl rfl) rfl rfl ?_
            refine wr_x (ox_call rfl Try.call24 rfl (mod_ok _ _ (by omega) (by omega) _ _)) rfl rfl ?_
            refine wr_nil ?_
            refine wl_x (ox_add rfl rfl rfl (by dsimp only; omega)) rfl rfl rfl ?_
            refine wl_x (ox_fieldF fd40_2 rfl rfl) rfl rfl rfl ?_
            first | refine wl_storeAt 0 _ rfl el3 rfl rfl (by first | rfl | exact Rd.one ‹_› | exact (RdL.rd ‹_›).one) rfl rfl (by first | decide | (simp; done) | exact of_decide_eq_true rfl | (simp; omega)) rfl rfl ?_ | refine wl_storeAt 1 _ rfl el3 rfl rfl (by first | rfl | exact Rd.one ‹_› | exact (RdL.rd ‹_›).one) rfl rfl (by first | decide | (simp; done) | exact of_decide_eq_true rfl | (simp; omega)) rfl rfl ?_ | refine wl_storeAt 2 _ rfl el3 rfl rfl (by first | rfl | exact Rd.one ‹_› | exact (RdL.rd ‹_›).one) rfl rfl (by first | decide | (simp; done) | exact of_decide_eq_true rfl | (simp; omega)) rfl rfl ?_ | refine wl_storeAt 3 _ rfl el3 rfl rfl (by first | rfl | exact Rd.one ‹_› | exact (RdL.rd ‹_›).one) rfl rfl (by first | decide | (simp; done) | exact of_decide_eq_true rfl | (simp; omega)) rfl rfl ?_ | refine wl_storeAt 4 _ rfl el3 rfl rfl (by first | rfl | exact Rd.one ‹_› | exact (RdL.rd ‹_›).one) rfl rfl (by first | decide | (simp; done) | exact of_decide_eq_true rfl | (simp; omega)) rfl rfl ?_
            refine wl_nil ?_
            refine nx_then ?_
            refine ws_region ?_
            refine wl_x (ox_move rfl rfl) rfl rfl rfl ?_
            refine wl_x (ox_loadG rfl Try.underlying40 rfl el40 rfl rfl (by first | exact Seg.blk 0 rfl | exact Seg.blk 1 rfl | exact Seg.blk 2 rfl | exact Seg.blk 3 rfl | exact Seg.blk 4 rfl | exact hR.any.seg hkl)) rfl rfl rfl ?_
            refine wl_buildSlice1 [_, _, _, _, _, _] rfl Try.underlying25 el40 rfl (by first | rfl | exact Rd.cells ‹_› | exact (RdL.rd ‹_›).cells) rfl rfl (by omega) rfl rfl rfl (fun g75 => ?_)
            refine wl_appendL 2 hO2 (RdL.one cBr_len (x := ⟨l[k].dim, l[k].birth + n.tmod 4, l[k].birth + n.tmod 4 + 1 + n % 5, l[k].opn, IntKind.i64.wrap (l[k].low + n), l[k].high⟩) (List.Mem.head _) rfl) rfl Try.underlying25 el40 rfl (by omega) rfl rfl rfl cBr_one (by simp; omega) (by simp; omega) rfl rfl rfl (fun v3 m3 hO3 => ?_)
            refine wl_x (ox_assign rfl rfl) rfl rfl rfl ?_
            refine wl_nil ?_
            refine nx_block ?_
            refine nx_then ?_
            refine ws_region ?_
            refine wl_x (ox_move rfl rfl) rfl rfl rfl ?_
            refine wl_x (ox_add rfl rfl rfl (by omega)) rfl rfl rfl ?_
            refine wl_x (ox_assign rfl rfl) rfl rfl rfl ?_
            refine wl_nil ?_
            refine nx_drop (nx_drop ?_)
            refine nx_round (l.length - (k + 1)) _ (by omega) ⟨k + 1, v3, m3, _, rfl, rfl, rfl, rfl, by omega, hO3, fun b hb => by
              rcases List.mem_append.1 hb with hb | hb
              · exact hB2 b hb
              · obtain rfl := List.mem_singleton.1 hb
                exact ⟨by show _ ≤ l[k].birth + n.tmod 4; omega, by show l[k].birth + n.tmod 4 ≤ _; omega, by show _ ≤ l[k].birth + n.tmod 4 + 1 + n % 5; omega, by show l[k].birth + n.tmod 4 + 1 + n % 5 ≤ _; omega, x5, x6⟩, by simp; omega⟩ (by repeat (first | exact trivial | refine ⟨rfl, ?_⟩))
          · skip
            refine ws_skip ?_
            refine nx_block ?_
            refine nx_then ?_
            refine ws_region ?_
            refine wl_x (ox_move rfl rfl) rfl rfl rfl ?_
            refine wl_x (ox_add rfl rfl rfl (by omega)) rfl rfl rfl ?_
            refine wl_x (ox_assign rfl rfl) rfl rfl rfl ?_
            refine wl_nil ?_
            refine nx_drop ?_
            refine nx_round (l.length - (k + 1)) _ (by omega) ⟨k + 1, v2, m2, _, rfl, rfl, rfl, rfl, by omega, hO2, hB2, by omega⟩ (by repeat (first | exact trivial | refine ⟨rfl, ?_⟩))
        · skip
          refine wl_skip rfl rfl rfl rfl rfl rfl rfl ?_
          refine wl_skip rfl rfl rfl rfl rfl rfl rfl ?_
          refine wl_skip rfl rfl rfl rfl rfl rfl rfl ?_
          refine wl_x (ox_pick_f rfl rfl rfl) rfl rfl rfl ?_
          refine wl_nil ?_
          refine nx_then ?_
          refine ws_cond_f rfl ?_
          refine ws_skip ?_
          refine nx_block ?_
          refine nx_then ?_
          refine ws_region ?_
          refine wl_x (ox_move rfl rfl) rfl rfl rfl ?_
          refine wl_x (ox_add rfl rfl rfl (by omega)) rfl rfl rfl ?_
          refine wl_x (ox_assign rfl rfl) rfl rfl rfl ?_
          refine wl_nil ?_
          refine nx_drop ?_
          refine nx_round (l.length - (k + 1)) _ (by omega) ⟨k + 1, v2, m2, _, rfl, rfl, rfl, rfl, by omega, hO2, hB2, by omega⟩ (by repeat (first | exact trivial | refine ⟨rfl, ?_⟩))
  · skip
    refine ws_exit ?_
    refine nx_then_exit ?_
    refine nx_then_exit ?_
    refine nx_block_exit ?_
    refine nx_then ?_
    refine ws_seq ?_
    refine ws_region ?_
    refine wl_x (ox_move rfl rfl) rfl rfl rfl ?_
    refine wl_x (ox_assign rfl rfl) rfl rfl rfl ?_
    refine wl_nil ?_
    refine nx_then ?_
    refine ws_ret ?_
    refine nx_freezeL hO (fun h' hle hR' => ?_)
    exact nx_ret1 rfl rfl (⟨rfl, o, hR', hB, by omega⟩)
end Go.Proofs.Ythdkhnjnhhofgaa
