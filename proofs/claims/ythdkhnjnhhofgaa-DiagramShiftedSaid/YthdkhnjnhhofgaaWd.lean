/- Walks: a list of one number, repeated. -/
import Derived.Test.YthdkhnjnhhofgaaWc
import Derived.Test.YthdkhnjnhhofgaaEng12
set_option linter.unusedSimpArgs false
set_option linter.unusedVariables false
set_option maxRecDepth 100000
namespace Go.Proofs.Ythdkhnjnhhofgaa
open Go.Eng Go.RowKit

theorem mul_ok (x y : Nat) (hx : x < 18446744073709551616) (hy : y < 18446744073709551616) (h : Hp) (ms : List Hp) {x' y' : Int} (ex : x' = x) (ey : y' = y) :
    FnV Try.prog 64 #[.int .u64 x', .int .u64 y'] h ms (.tuple #[.int .u64 ((x * y / 18446744073709551616 : Nat) : Int), .int .u64 ((x * y % 18446744073709551616 : Nat) : Int)]) := by
  subst ex ey
  exact FnV.ofCalls fun w => Try.bits_Mul x y hx hy w

theorem rep_split (n k j : Nat) (a : Int) (h : k + j ≤ n) :
    ((List.replicate k (Value.int .i64 a) ++ List.replicate (n - k) (Value.int .i64 0)).take k ++ (List.replicate k (Value.int .i64 a)).take j ++ (List.replicate k (Value.int .i64 a) ++ List.replicate (n - k) (Value.int .i64 0)).drop (k + j)) = List.replicate (k + min j k) (Value.int .i64 a) ++ List.replicate (n - (k + j)) (Value.int .i64 0) := by
  rw [List.take_left' (by simp), List.take_replicate, List.drop_append, List.drop_eq_nil_of_le (by simp), List.nil_append, List.drop_replicate, List.length_replicate, List.replicate_append_replicate]
  congr 2; omega

theorem repeat_ok (n : Nat) (hn : n ≤ 1000000000) (vx : Value) (h : Hp) (hR : RdL cI 1 h [] vx [-1]) {n' : Int} (en : n' = n) :
    FnT Try.prog 49 #[vx, .int .i64 n'] h [] (fun r h' ms' => h = h' ∧ ∃ m, ms' = [m] ∧ OwnL cI 1 3 m r (List.replicate n (-1))) := by
  subst en
  have hm1 : 1 * n / 18446744073709551616 = 0 := by omega
  have hm2 : 1 * n % 18446744073709551616 = n := by omega
  refine fn_enter Try.func49 Try.ntmps49 rfl rfl (fun w0 hw0 => ?_)
  simp only [argS]
  refine ws_seq ?_
  refine ws_region ?_
  refine wl_x (ox_assign rfl rfl) rfl rfl rfl ?_
  refine wl_nil ?_
  refine nx_then ?_
  refine ws_seq ?_
  refine ws_seq ?_
  refine ws_region ?_
  refine wl_x (ox_move rfl rfl) rfl rfl rfl ?_
  refine wl_x (ox_lss rfl rfl rfl) rfl rfl rfl ?_
  refine wl_nil ?_
  refine nx_then ?_
  refine ws_if rfl (fun hc => absurd hc (by omega)) (fun hc => ?_)
  refine ws_skip ?_
  refine nx_then ?_
  refine ws_seq ?_
  refine ws_region ?_
  refine wl_x (ox_move rfl rfl) rfl rfl rfl ?_
  first | refine wl_x (ox_len (ty := 23) rfl Try.underlying23 rfl) rfl rfl rfl ?_ | refine wl_x (ox_lenR hR.rd.any rfl Try.underlying23 rfl) rfl rfl rfl ?_
  refine wl_x (ox_conv rfl Try.underlying3 Try.underlying69 rfl (wrap_u64 (by simp))) rfl rfl rfl ?_
  refine wl_x (ox_move rfl rfl) rfl rfl rfl ?_
  refine wl_x (ox_conv rfl Try.underlying3 Try.underlying69 rfl (wrap_u64 (by omega))) rfl rfl rfl ?_
  refine wl_x (ox_call rfl Try.call64 rfl (mul_ok 1 n (by omega) (by omega) _ _ (by simp) rfl)) rfl rfl rfl ?_
  refine wl_x (ox_move rfl rfl) rfl rfl rfl ?_
  rw [hm1, hm2]
  refine wl_x (ox_extract rfl rfl rfl) rfl rfl rfl ?_
  refine wl_x (ox_extract rfl rfl rfl) rfl rfl rfl ?_
  refine wl_x (ox_assign rfl rfl) rfl rfl rfl ?_
  refine wl_x (ox_assign rfl rfl) rfl rfl rfl ?_
  refine wl_nil ?_
  refine nx_then ?_
  refine ws_seq ?_
  refine ws_seq ?_
  refine ws_region ?_
  refine wl_x (ox_move rfl rfl) rfl rfl rfl ?_
  refine wl_x (ox_gtr rfl rfl rfl) rfl rfl rfl ?_
  refine wl_x (ox_move rfl rfl) rfl rfl rfl ?_
  refine wl_split (t := 23) rfl (fun hs => absurd hs (by omega)) (fun hs => ?_)
  refine wl_gx (ox_move rfl rfl) rfl rfl rfl rfl rfl rfl ?_
  refine wl_gx (ox_gtr rfl rfl rfl) rfl rfl rfl rfl rfl rfl ?_
  refine wl_x (ox_pick_f rfl rfl rfl) rfl rfl rfl ?_
  refine wl_nil ?_
  refine nx_then ?_
  refine ws_if rfl (fun hc => absurd hc (by omega)) (fun hc => ?_)
  refine ws_skip ?_
  refine nx_then ?_
  refine ws_seq ?_
  refine ws_region ?_
  refine wl_x (ox_move rfl rfl) rfl rfl rfl ?_
  refine wl_x (ox_conv rfl Try.underlying69 Try.underlying3 rfl (wrap_i64 (by omega))) rfl rfl rfl ?_
  refine wl_make (n := n) rfl Try.underlying23 el3 rfl rfl rfl (by first | rfl | omega) (by first | rfl | omega) (by omega) (by omega) rfl rfl rfl (fun g30 => ?_)
  refine wl_x (ox_assign rfl rfl) rfl rfl rfl ?_
  refine wl_nil ?_
  refine nx_then ?_
  refine ws_seq ?_
  refine ws_region ?_
  refine wl_x (ox_move rfl rfl) rfl rfl rfl ?_
  refine wl_x (ox_move rfl rfl) rfl rfl rfl ?_
  refine wl_copyB (n := min 1 n) 0 rfl Try.underlying23 el3 rfl rfl rfl hR.rd.any (by simp) rfl rfl (by simp; omega) (fun c hc => by simp [cI] at hc; subst hc; rfl) rfl rfl rfl ?_
  have e0 : ((List.replicate n (Value.int .i64 0)).take 0 ++ ([-1].flatMap cI).take (min 1 n) ++ (List.replicate n (Value.int .i64 0)).drop (0 + min 1 n)) = List.replicate (min 1 n) (Value.int .i64 (-1)) ++ List.replicate (n - min 1 n) (Value.int .i64 0) := by
    rcases Nat.eq_zero_or_pos n with h0 | h0
    · subst h0; rfl
    · rw [show min 1 n = 1 by omega]; simp [cI]
  rw [e0]
  refine wl_x (ox_assign rfl rfl) rfl rfl rfl ?_
  refine wl_nil ?_
  refine nx_then ?_
  refine ws_seq ?_
  refine ws_block ?_
  refine ws_loop (fun q s h' ms' => ∃ (k : Nat) (y : Int), q = n - k ∧ s = [(7, .slice (some ⟨g30, 0, none⟩) n n), (8, .int .i64 y)] ∧ h = h' ∧ ms' = [Blk g30 3 (List.replicate k (Value.int .i64 (-1)) ++ List.replicate (n - k) (Value.int .i64 0))] ∧ y = k ∧ k ≤ n ∧ (0 < n → 0 < k))
    _ _ ⟨min 1 n, (min 1 n : Nat), rfl, rfl, rfl, rfl, rfl, by omega, by omega⟩ (by repeat (first | exact trivial | refine ⟨rfl, ?_⟩)) ?_
  rintro q s h' ms' ⟨k, y, rfl, rfl, rfl, rfl, hy, hk, hk0⟩
  refine ws_seq ?_
  refine ws_seq ?_
  refine ws_region ?_
  refine wl_x (ox_move rfl rfl) rfl rfl rfl ?_
  refine wl_x (ox_move rfl rfl) rfl rfl rfl ?_
  first | refine wl_x (ox_len (ty := 23) rfl Try.underlying23 rfl) rfl rfl rfl ?_ | refine wl_x (ox_lenR hR.rd.any rfl Try.underlying23 rfl) rfl rfl rfl ?_
  refine wl_x (ox_lss rfl rfl rfl) rfl rfl rfl ?_
  refine wl_nil ?_
  refine nx_then ?_
  refine ws_if rfl (fun hlt => ?_) (fun hlt => ?_)
  · skip
    refine ws_skip ?_
    refine nx_then ?_
    refine ws_block ?_
    refine ws_drawP 7 [true] fol (by kernel_rfl) (by kernel_rfl) (by kernel_rfl) ?_
    refine pz_x rfl rfl rfl rfl (px_move rfl rfl) ?_
    refine ⟨rfl, ?_⟩
    simp only [zapL, zap, List.cons_append, List.nil_append, List.take_succ_cons, List.take_zero, List.drop_succ_cons, List.drop_zero, List.take_nil, List.drop_nil]
    refine wr_z rfl rfl rfl ?_
    refine wr_x (ox_move rfl rfl) rfl rfl ?_
    refine wr_x (ox_move rfl rfl) rfl rfl ?_
    refine wr_x (ox_slice_l k rfl Try.underlying23 el3 rfl rfl hy (by omega)) rfl rfl ?_
    refine wr_x (ox_move rfl rfl) rfl rfl ?_
    refine wr_x (ox_move rfl rfl) rfl rfl ?_
    refine wr_x (ox_slice_h k rfl Try.underlying23 el3 rfl rfl hy (by omega)) rfl rfl ?_
    refine wr_nil ?_
    have hRd : Rd h [Blk g30 3 (List.replicate k (Value.int .i64 (-1)) ++ List.replicate (n - k) (Value.int .i64 0))] (.slice (some ⟨g30, 0, none⟩) k n) 1 k (List.replicate k (Value.int .i64 (-1))) :=
      ⟨_, n, rfl, by omega, by omega, by simp, fun _ => ⟨_, rfl, fun j v hv => Cell.blk 0 rfl (by rw [List.getElem?_append_left (List.getElem?_eq_some_iff.1 hv).1]; exact hv)⟩⟩
    refine wl_copyB (a := if n = k then ⟨g30, 0, none⟩ else (⟨g30, 0, none⟩ : Addr).add (k * 1)) (n := min k (n - k)) (of := k) 0 rfl Try.underlying23 el3 rfl rfl (by rw [if_neg (by omega)]; simp [Addr.add]; omega) hRd (by omega) rfl rfl (by simp; omega) (fun c hc => by rw [(List.mem_replicate.1 hc).2]; rfl) rfl rfl rfl ?_
    have e1 : ((List.replicate k (Value.int .i64 (-1)) ++ List.replicate (n - k) (Value.int .i64 0)).take k ++ (List.replicate k (Value.int .i64 (-1))).take (min k (n - k)) ++ (List.replicate k (Value.int .i64 (-1)) ++ List.replicate (n - k) (Value.int .i64 0)).drop (k + min k (n - k))) = List.replicate (k + min k (n - k)) (Value.int .i64 (-1)) ++ List.replicate (n - (k + min k (n - k))) (Value.int .i64 0) := by
      rw [rep_split n k _ _ (by omega)]; congr 2; omega
    rw [e1]
    refine wl_x (ox_add rfl rfl rfl (by omega)) rfl rfl rfl ?_
    refine wl_x (ox_assign rfl rfl) rfl rfl rfl ?_
    refine wl_nil ?_
    refine nx_q0 ?_
    refine nx_block ?_
    refine nx_round (n - (k + min k (n - k))) _ (by omega) ⟨k + min k (n - k), y + (min k (n - k) : Nat), rfl, rfl, rfl, rfl, by omega, by omega, by omega⟩ (by repeat (first | exact trivial | refine ⟨rfl, ?_⟩))
  · skip
    obtain rfl : k = n := by omega
    refine ws_exit ?_
    refine nx_then_exit ?_
    refine nx_then_exit ?_
    refine nx_block_exit ?_
    refine nx_then ?_
    refine ws_seq ?_
    refine ws_region ?_
    refine wl_x (ox_move rfl rfl) rfl rfl rfl ?_
    refine wl_x (ox_assign rfl rfl) rfl rfl rfl ?_
    refine wl_nil ?_
    refine nx_then ?_
    refine ws_ret ?_
    exact nx_ret1 rfl rfl (⟨rfl, _, rfl, ⟨⟨by simp [flatMap_cI], .inr ⟨g30, k, [], by simp, by simp [flatMap_cI], by simp [flatMap_cI], by simp, by omega⟩⟩, cI_len⟩⟩)
end Go.Proofs.Ythdkhnjnhhofgaa
