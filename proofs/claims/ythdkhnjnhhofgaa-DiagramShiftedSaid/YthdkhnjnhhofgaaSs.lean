/- Walks: the library's sort at integers: the patterns that are broken; the sort that gives up. -/
import Derived.Test.YthdkhnjnhhofgaaSr
set_option linter.unusedSimpArgs false
set_option linter.unusedVariables false
set_option maxRecDepth 100000
namespace Go.Proofs.Ythdkhnjnhhofgaa
open Go.Eng Go.RowKit Go.Sort

def bkRest (a l md i0 : Nat) : Nat → UInt64 × Array Int → Array Int
  | 0, st => st.2
  | n + 1, st => bkRest a l md i0 n (breakStep a l md st (i0 + (3 - (n + 1))))
theorem breakStep_size (a l md idx : Nat) (st : UInt64 × Array Int) : (breakStep a l md st idx).2.size = st.2.size := size_swp _ _ _

theorem breakPatterns_ok (d : Array Int) (v : Value) (m : Hp) (hO : OI m v d) (a b : Nat) (hab : a < b) (hb : b ≤ d.size) (hsz : d.size ≤ 2305843009213693951) (h : Hp) {a' b' : Int} (ea : a' = a) (eb : b' = b) :
    FnT Try.prog 55 #[v, .int .i64 a', .int .i64 b'] h [m] (Left h v (breakPatterns d a b)) := by
  subst ea eb
  refine fn_enter Try.func55 Try.ntmps55 rfl rfl (fun w0 hw0 => ?_)
  simp only [argS]
  refine ws_seq ?_
  refine ws_region ?_
  refine wl_x (ox_move rfl rfl) rfl rfl rfl ?_
  refine wl_x (ox_move rfl rfl) rfl rfl rfl ?_
  refine wl_x (ox_sub rfl rfl rfl (by omega)) rfl rfl rfl ?_
  refine wl_x (ox_assign rfl rfl) rfl rfl rfl ?_
  refine wl_nil ?_
  refine nx_then ?_
  refine ws_seq ?_
  refine ws_region ?_
  refine wl_x (ox_move rfl rfl) rfl rfl rfl ?_
  refine wl_x (ox_geq rfl rfl rfl) rfl rfl rfl ?_
  refine wl_nil ?_
  refine nx_then ?_
  refine ws_if rfl (fun h8 => ?_) (fun h8 => ?_)
  · skip
    refine ws_seq ?_
    refine ws_region ?_
    refine wl_x (ox_move rfl rfl) rfl rfl rfl ?_
    refine wl_x (ox_conv rfl Try.underlying3 Try.underlying88 rfl (wrap_u64 (by omega))) rfl rfl rfl ?_
    refine wl_alloc [.int .u64 0] rfl el88 rfl rfl rfl rfl (fun g7 => ?_)
    first | refine wl_storeAt 0 0 rfl el88 rfl rfl (by first | rfl | exact Rd.one ‹_› | exact (RdL.rd ‹_›).one) rfl rfl (by first | decide | (simp; done) | (simp; omega)) rfl rfl ?_ | refine wl_storeAt 1 0 rfl el88 rfl rfl (by first | rfl | exact Rd.one ‹_› | exact (RdL.rd ‹_›).one) rfl rfl (by first | decide | (simp; done) | (simp; omega)) rfl rfl ?_
    refine wl_nil ?_
    refine nx_then ?_
    refine ws_seq ?_
    refine ws_region ?_
    refine wl_x (ox_move rfl rfl) rfl rfl rfl ?_
    refine wl_x (ox_call rfl Try.call66 rfl (nextPow_ok (b - a) (by omega) _ _ (by omega))) rfl rfl rfl ?_
    refine wl_x (ox_assign rfl rfl) rfl rfl rfl ?_
    refine wl_nil ?_
    refine nx_then ?_
    refine ws_seq ?_
    refine ws_region ?_
    refine wl_x (ox_move rfl rfl) rfl rfl rfl ?_
    refine wl_x (ox_move rfl rfl) rfl rfl rfl ?_
    first | refine wl_x (ox_quoP rfl rfl rfl (by omega) (by omega)) rfl rfl rfl ?_ | refine wl_x (ox_quo rfl rfl rfl (by omega) (by omega)) rfl rfl rfl ?_
    refine wl_x (ox_mul rfl rfl rfl (by omega)) rfl rfl rfl ?_
    refine wl_x (ox_add rfl rfl rfl (by omega)) rfl rfl rfl ?_
    refine wl_x (ox_sub rfl rfl rfl (by omega)) rfl rfl rfl ?_
    refine wl_x (ox_assign rfl rfl) rfl rfl rfl ?_
    refine wl_nil ?_
    refine nx_then ?_
    refine ws_block ?_
    have hmd : 1 <<< bitsLen (b - a) = 2 ^ bitsLen (b - a) := by rw [Nat.shiftLeft_eq, Nat.one_mul]
    have hp := two_pow_bitsLen_le (n := b - a) (by omega)
    have hpos : 0 < 2 ^ bitsLen (b - a) := Nat.two_pow_pos _
    generalize hM : 1 <<< bitsLen (b - a) = M
    rw [hM] at hmd
    have hbp : breakPatterns d a b = bkRest a (b - a) M (a + (b - a) / 4 * 2 - 1) 3 (UInt64.ofNat (b - a), d) := by
      unfold breakPatterns; simp only [if_pos (show b - a ≥ 8 by omega), hM]; rfl
    have hr0 : (b : Int) - a = ((UInt64.ofNat (b - a)).toNat : Int) := by
      rw [UInt64.toNat_ofNat_of_lt' (by have : UInt64.size = 18446744073709551616 := rfl; omega)]; omega
    refine ws_loop (fun n s h' ms' => ∃ (y : Int) (r : UInt64) (d' : Array Int) (m : Hp), s = [(0, v), (1, .int .i64 a), (6, .int .i64 ((b : Int) - a)), (7, .pointer (some ⟨g7, 0, none⟩)), (8, .int .u64 M), (9, .int .i64 y)] ∧ h = h' ∧ ms' = [Blk g7 88 [.int .u64 r.toNat], m] ∧ y = (a + (b - a) / 4 * 2 - 1 + (3 - n) : Nat) ∧ n ≤ 3 ∧ OI m v d' ∧ d'.size = d.size ∧ bkRest a (b - a) M (a + (b - a) / 4 * 2 - 1) n (r, d') = breakPatterns d a b)
      3 _ ⟨(a : Int) + ((b : Int) - a) / 4 * 2 - 1, UInt64.ofNat (b - a), d, m, rfl, rfl, by simp only [← hr0]; rfl, by omega, by omega, hO, rfl, hbp.symm⟩ (by repeat (first | exact trivial | refine ⟨rfl, ?_⟩)) ?_
    rintro n s h' ms' ⟨y, r, d0, m0, rfl, rfl, rfl, hy, hn, hO0, hds, hR⟩
    refine ws_seq ?_
    refine ws_seq ?_
    refine ws_region ?_
    refine wl_x (ox_move rfl rfl) rfl rfl rfl ?_
    refine wl_x (ox_move rfl rfl) rfl rfl rfl ?_
    refine wl_x (ox_move rfl rfl) rfl rfl rfl ?_
    first | refine wl_x (ox_quoP rfl rfl rfl (by omega) (by omega)) rfl rfl rfl ?_ | refine wl_x (ox_quo rfl rfl rfl (by omega) (by omega)) rfl rfl rfl ?_
    refine wl_x (ox_mul rfl rfl rfl (by omega)) rfl rfl rfl ?_
    refine wl_x (ox_add rfl rfl rfl (by omega)) rfl rfl rfl ?_
    refine wl_x (ox_add rfl rfl rfl (by omega)) rfl rfl rfl ?_
    refine wl_x (ox_leq rfl rfl rfl) rfl rfl rfl ?_
    refine wl_nil ?_
    refine nx_then ?_
    refine ws_if rfl (fun hle => ?_) (fun hle => ?_)
    · skip
      obtain ⟨k, rfl⟩ : ∃ k, n = k + 1 := ⟨n - 1, by omega⟩
      refine ws_skip ?_
      refine nx_then ?_
      refine ws_seq ?_
      refine ws_block ?_
      refine ws_seq ?_
      refine ws_region ?_
      refine wl_call_ (pre := [Blk g7 88 [.int .u64 r.toNat]]) rfl Try.call67 rfl (next_ok r.toNat g7 r.toNat_lt _) rfl rfl rfl rfl (fun _ _ _ _ hL => ?_)
      obtain ⟨rfl, rfl, rfl⟩ := hL
      rw [← xorNext_toNat]
      have hq := (xorNext r).toNat_lt
      refine wl_x (ox_move rfl rfl) rfl rfl rfl ?_
      refine wl_x (v := .int .u64 ((M - 1 : Nat) : Int)) (by
        have e1 : ((M - 1 : Nat) : Int) = IntKind.u64.wrap ((M : Int) - 1) := by rw [wrap_u64 (by omega)]; omega
        rw [e1]; exact ox_subW rfl rfl rfl) rfl rfl rfl ?_
      have hand : (xorNext r).toNat &&& (M - 1) ≤ M - 1 := Nat.and_le_right
      refine wl_x (ox_andU rfl rfl rfl (by omega) (by omega)) rfl rfl rfl ?_
      refine wl_x (ox_conv rfl Try.underlying69 Try.underlying3 rfl (wrap_i64 (by omega))) rfl rfl rfl ?_
      refine wl_x (ox_assign rfl rfl) rfl rfl rfl ?_
      refine wl_nil ?_
      refine nx_then ?_
      refine ws_seq ?_
      refine ws_seq ?_
      refine ws_region ?_
      refine wl_x (ox_move rfl rfl) rfl rfl rfl ?_
      refine wl_x (ox_move rfl rfl) rfl rfl rfl ?_
      refine wl_x (ox_geq rfl rfl rfl) rfl rfl rfl ?_
      refine wl_nil ?_
      refine nx_then ?_
      generalize ho : (xorNext r).toNat &&& (M - 1) = ot at hand ⊢
      refine ws_if rfl (fun hge => ?_) (fun hge => ?_)
      · skip
        refine ws_region ?_
        refine wl_x (ox_move rfl rfl) rfl rfl rfl ?_
        refine wl_x (ox_move rfl rfl) rfl rfl rfl ?_
        refine wl_x (ox_sub rfl rfl rfl (by omega)) rfl rfl rfl ?_
        refine wl_x (ox_assign rfl rfl) rfl rfl rfl ?_
        refine wl_nil ?_
        refine nx_then ?_
        refine ws_drawP 16 [false, false, true, true, true, true] fol (by kernel_rfl) (by kernel_rfl) (by kernel_rfl) ?_
        refine pz_x rfl rfl rfl rfl (px_move rfl rfl) ?_
        refine pz_x rfl rfl rfl rfl (px_move rfl rfl) ?_
        refine pz_x rfl rfl rfl rfl (px_move rfl rfl) ?_
        refine pz_x rfl rfl rfl rfl (px_add rfl rfl rfl (by omega)) ?_
        refine ⟨rfl, ?_⟩
        simp only [zapL, zap, List.cons_append, List.nil_append, List.take_succ_cons, List.take_zero, List.drop_succ_cons, List.drop_zero, List.take_nil, List.drop_nil]
        refine wr_x (ox_move rfl rfl) rfl rfl ?_
        refine wr_x (ox_move rfl rfl) rfl rfl ?_
        refine wr_z rfl rfl rfl ?_
        refine wr_z rfl rfl rfl ?_
        refine wr_z rfl rfl rfl ?_
        refine wr_z rfl rfl rfl ?_
        refine wr_x (ox_move rfl rfl) rfl rfl ?_
        refine wr_x (ox_move rfl rfl) rfl rfl ?_
        refine wr_x (ox_move rfl rfl) rfl rfl ?_
        refine wr_x (ox_add rfl rfl rfl (by omega)) rfl rfl ?_
        first | refine wr_x (ox_index (a + (ot - (b - a))) rfl Try.underlying23 el3 rfl rfl (by omega) (by omega)) rfl rfl ?_ | refine wr_x (ox_indexR (a + (ot - (b - a))) (hO0.rd (.tail _ (.head _))) rfl Try.underlying23 el3 rfl rfl (by omega) (by omega)) rfl rfl ?_
        refine wr_x (ox_load rfl Try.underlying3 rfl rfl (by first | exact hO0.get (.tail _ (.head _)) (by omega))) rfl rfl ?_
        refine wr_x (ox_move rfl rfl) rfl rfl ?_
        refine wr_x (ox_move rfl rfl) rfl rfl ?_
        first | refine wr_x (ox_index (a + (b - a) / 4 * 2 - 1 + (3 - (k + 1))) rfl Try.underlying23 el3 rfl rfl (by omega) (by omega)) rfl rfl ?_ | refine wr_x (ox_indexR (a + (b - a) / 4 * 2 - 1 + (3 - (k + 1))) (hO0.rd (.tail _ (.head _))) rfl Try.underlying23 el3 rfl rfl (by omega) (by omega)) rfl rfl ?_
        refine wr_x (ox_load rfl Try.underlying3 rfl rfl (by first | exact hO0.get (.tail _ (.head _)) (by omega))) rfl rfl ?_
        refine wr_nil ?_
        first | refine wl_x (ox_index (a + (b - a) / 4 * 2 - 1 + (3 - (k + 1))) rfl Try.underlying23 el3 rfl rfl (by omega) (by omega)) rfl rfl rfl ?_ | refine wl_x (ox_indexR (a + (b - a) / 4 * 2 - 1 + (3 - (k + 1))) (hO0.rd (.tail _ (.head _))) rfl Try.underlying23 el3 rfl rfl (by omega) (by omega)) rfl rfl rfl ?_
        refine wl_storeI 1 _ hO0 rfl el3 rfl rfl rfl (by omega) rfl rfl (fun mhO1 hzhO1 hO1 => ?_)
        first | refine wl_x (ox_index (a + (ot - (b - a))) rfl Try.underlying23 el3 rfl rfl (by omega) (by omega)) rfl rfl rfl ?_ | refine wl_x (ox_indexR (a + (ot - (b - a))) (hO1.rd (.tail _ (.head _))) rfl Try.underlying23 el3 rfl rfl (by omega) (by omega)) rfl rfl rfl ?_
        refine wl_storeI 1 _ hO1 rfl el3 rfl rfl rfl (by omega) rfl rfl (fun mhO2 hzhO2 hO2 => ?_)
        refine wl_nil ?_
        refine nx_q0 ?_
        refine nx_block ?_
        refine nx_then ?_
        refine ws_region ?_
        refine wl_x (ox_move rfl rfl) rfl rfl rfl ?_
        refine wl_x (ox_add rfl rfl rfl (by omega)) rfl rfl rfl ?_
        refine wl_x (ox_assign rfl rfl) rfl rfl rfl ?_
        refine wl_nil ?_
        refine nx_round k _ (by omega) ⟨y + 1, xorNext r, _, mhO2, rfl, rfl, rfl, by omega, by omega, hO2, by omega, ?_⟩ (by repeat (first | exact trivial | refine ⟨rfl, ?_⟩))
        rw [← hR]
        show bkRest _ _ _ _ k _ = bkRest _ _ _ _ k (breakStep _ _ _ _ _)
        unfold breakStep
        simp only [ho]
        rw [if_pos (by omega)]; rfl
      · skip
        refine ws_skip ?_
        refine nx_then ?_
        refine ws_drawP 16 [false, false, true, true, true, true] fol (by kernel_rfl) (by kernel_rfl) (by kernel_rfl) ?_
        refine pz_x rfl rfl rfl rfl (px_move rfl rfl) ?_
        refine pz_x rfl rfl rfl rfl (px_move rfl rfl) ?_
        refine pz_x rfl rfl rfl rfl (px_move rfl rfl) ?_
        refine pz_x rfl rfl rfl rfl (px_add rfl rfl rfl (by omega)) ?_
        refine ⟨rfl, ?_⟩
        simp only [zapL, zap, List.cons_append, List.nil_append, List.take_succ_cons, List.take_zero, List.drop_succ_cons, List.drop_zero, List.take_nil, List.drop_nil]
        refine wr_x (ox_move rfl rfl) rfl rfl ?_
        refine wr_x (ox_move rfl rfl) rfl rfl ?_
        refine wr_z rfl rfl rfl ?_
        refine wr_z rfl rfl rfl ?_
        refine wr_z rfl rfl rfl ?_
        refine wr_z rfl rfl rfl ?_
        refine wr_x (ox_move rfl rfl) rfl rfl ?_
        refine wr_x (ox_move rfl rfl) rfl rfl ?_
        refine wr_x (ox_move rfl rfl) rfl rfl ?_
        refine wr_x (ox_add rfl rfl rfl (by omega)) rfl rfl ?_
        first | refine wr_x (ox_index (a + ot) rfl Try.underlying23 el3 rfl rfl (by omega) (by omega)) rfl rfl ?_ | refine wr_x (ox_indexR (a + ot) (hO0.rd (.tail _ (.head _))) rfl Try.underlying23 el3 rfl rfl (by omega) (by omega)) rfl rfl ?_
        refine wr_x (ox_load rfl Try.underlying3 rfl rfl (by first | exact hO0.get (.tail _ (.head _)) (by omega))) rfl rfl ?_
        refine wr_x (ox_move rfl rfl) rfl rfl ?_
        refine wr_x (ox_move rfl rfl) rfl rfl ?_
        first | refine wr_x (ox_index (a + (b - a) / 4 * 2 - 1 + (3 - (k + 1))) rfl Try.underlying23 el3 rfl rfl (by omega) (by omega)) rfl rfl ?_ | refine wr_x (ox_indexR (a + (b - a) / 4 * 2 - 1 + (3 - (k + 1))) (hO0.rd (.tail _ (.head _))) rfl Try.underlying23 el3 rfl rfl (by omega) (by omega)) rfl rfl ?_
        refine wr_x (ox_load rfl Try.underlying3 rfl rfl (by first | exact hO0.get (.tail _ (.head _)) (by omega))) rfl rfl ?_
        refine wr_nil ?_
        first | refine wl_x (ox_index (a + (b - a) / 4 * 2 - 1 + (3 - (k + 1))) rfl Try.underlying23 el3 rfl rfl (by omega) (by omega)) rfl rfl rfl ?_ | refine wl_x (ox_indexR (a + (b - a) / 4 * 2 - 1 + (3 - (k + 1))) (hO0.rd (.tail _ (.head _))) rfl Try.underlying23 el3 rfl rfl (by omega) (by omega)) rfl rfl rfl ?_
        refine wl_storeI 1 _ hO0 rfl el3 rfl rfl rfl (by omega) rfl rfl (fun mhO1 hzhO1 hO1 => ?_)
        first | refine wl_x (ox_index (a + ot) rfl Try.underlying23 el3 rfl rfl (by omega) (by omega)) rfl rfl rfl ?_ | refine wl_x (ox_indexR (a + ot) (hO1.rd (.tail _ (.head _))) rfl Try.underlying23 el3 rfl rfl (by omega) (by omega)) rfl rfl rfl ?_
        refine wl_storeI 1 _ hO1 rfl el3 rfl rfl rfl (by omega) rfl rfl (fun mhO2 hzhO2 hO2 => ?_)
        refine wl_nil ?_
        refine nx_q0 ?_
        refine nx_block ?_
        refine nx_then ?_
        refine ws_region ?_
        refine wl_x (ox_move rfl rfl) rfl rfl rfl ?_
        refine wl_x (ox_add rfl rfl rfl (by omega)) rfl rfl rfl ?_
        refine wl_x (ox_assign rfl rfl) rfl rfl rfl ?_
        refine wl_nil ?_
        refine nx_round k _ (by omega) ⟨y + 1, xorNext r, _, mhO2, rfl, rfl, rfl, by omega, by omega, hO2, by omega, ?_⟩ (by repeat (first | exact trivial | refine ⟨rfl, ?_⟩))
        rw [← hR]
        show bkRest _ _ _ _ k _ = bkRest _ _ _ _ k (breakStep _ _ _ _ _)
        unfold breakStep
        simp only [ho]
        rw [if_neg (by omega)]; rfl
    · skip
      refine ws_exit ?_
      refine nx_then_exit ?_
      refine nx_then_exit ?_
      refine nx_block_exit ?_
      have hn0 : n = 0 := by omega
      subst hn0
      refine nx_drop ?_
      exact nx_end0 rfl (⟨rfl, m0, rfl, by rw [← hR]; exact hO0⟩)
  · skip
    refine ws_skip ?_
    exact nx_end0 rfl (⟨rfl, m, rfl, by unfold breakPatterns; simp only [if_neg (show ¬ b - a ≥ 8 by omega)]; exact hO⟩)
end Go.Proofs.Ythdkhnjnhhofgaa
