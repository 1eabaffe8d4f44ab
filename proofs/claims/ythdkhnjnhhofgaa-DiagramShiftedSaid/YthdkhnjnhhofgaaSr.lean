/- Walks: the library's sort at integers: random numbers; the patterns. -/
import Derived.Test.YthdkhnjnhhofgaaSq
import Derived.Test.YthdkhnjnhhofgaaSh
import Derived.Test.YthdkhnjnhhofgaaEng11
set_option linter.unusedSimpArgs false
set_option linter.unusedVariables false
set_option maxRecDepth 100000
namespace Go.Proofs.Ythdkhnjnhhofgaa
open Go.Eng Go.RowKit Go.Sort
theorem next_ok (r g : Nat) (hr : r < 18446744073709551616) (h : Hp) : FnT Try.prog 67 #[.pointer (some ⟨g, 0, none⟩)] h [Blk g 88 [.int .u64 r]] (fun v h' ms' => v = .int .u64 (xorNextN r : Nat) ∧ h = h' ∧ ms' = [Blk g 88 [.int .u64 (xorNextN r : Nat)]]) := by
  have p : (18446744073709551616 : Nat) = 2 ^ 64 := by decide
  obtain ⟨x1, hx1⟩ : ∃ x, x = r ^^^ (r * 2 ^ 13 % 18446744073709551616) := ⟨_, rfl⟩
  have b1 : x1 < 18446744073709551616 := by rw [hx1, p]; exact Nat.xor_lt_two_pow (by omega) (by omega)
  obtain ⟨x2, hx2⟩ : ∃ x, x = x1 ^^^ (x1 / 2 ^ 7) := ⟨_, rfl⟩
  have b2 : x2 < 18446744073709551616 := by rw [hx2, p]; exact Nat.xor_lt_two_pow (by omega) (by omega)
  have hN : xorNextN r = x2 ^^^ (x2 * 2 ^ 17 % 18446744073709551616) := by rw [hx2, hx1]; rfl
  rw [hN]
  refine fn_enter Try.func67 Try.ntmps67 rfl rfl (fun w0 hw0 => ?_)
  simp only [argS]
  refine ws_seq ?_
  refine ws_region ?_
  refine wl_x (ox_assign rfl rfl) rfl rfl rfl ?_
  refine wl_nil ?_
  refine nx_then ?_
  refine ws_seq ?_
  refine ws_draw 7 fol (by kernel_rfl) rfl ?_
  simp only [List.take_succ_cons, List.take_zero, List.drop_succ_cons, List.drop_zero, List.take_nil, List.drop_nil]
  refine wr_x (ox_move rfl rfl) rfl rfl ?_
  refine wr_x (ox_nilCheck rfl rfl) rfl rfl ?_
  refine wr_x (ox_load rfl Try.underlying88 rfl rfl (by first | exact Cell.blk0 0 rfl rfl | exact Cell.blk0 1 rfl rfl)) rfl rfl ?_
  refine wr_x (ox_move rfl rfl) rfl rfl ?_
  refine wr_x (ox_nilCheck rfl rfl) rfl rfl ?_
  refine wr_x (ox_load rfl Try.underlying88 rfl rfl (by first | exact Cell.blk0 0 rfl rfl | exact Cell.blk0 1 rfl rfl)) rfl rfl ?_
  refine wr_x (ox_shlU (n := 13) rfl rfl rfl (by omega)) rfl rfl ?_
  refine wr_nil ?_
  refine wl_x (ox_xorU rfl rfl rfl (by omega) (by omega)) rfl rfl rfl ?_
  refine wl_x (ox_nilCheck rfl rfl) rfl rfl rfl ?_
  first | refine wl_storeAt 0 0 rfl el88 rfl rfl (by first | rfl | exact Rd.one ‹_› | exact (RdL.rd ‹_›).one) rfl rfl (by first | decide | (simp; done) | (simp; omega)) rfl rfl ?_ | refine wl_storeAt 1 0 rfl el88 rfl rfl (by first | rfl | exact Rd.one ‹_› | exact (RdL.rd ‹_›).one) rfl rfl (by first | decide | (simp; done) | (simp; omega)) rfl rfl ?_
  refine wl_nil ?_
  refine nx_then ?_
  rw [← hx1]
  refine ws_seq ?_
  refine ws_draw 7 fol (by kernel_rfl) rfl ?_
  simp only [List.take_succ_cons, List.take_zero, List.drop_succ_cons, List.drop_zero, List.take_nil, List.drop_nil]
  refine wr_x (ox_move rfl rfl) rfl rfl ?_
  refine wr_x (ox_nilCheck rfl rfl) rfl rfl ?_
  refine wr_x (ox_load rfl Try.underlying88 rfl rfl (by first | exact Cell.blk0 0 rfl rfl | exact Cell.blk0 1 rfl rfl)) rfl rfl ?_
  refine wr_x (ox_move rfl rfl) rfl rfl ?_
  refine wr_x (ox_nilCheck rfl rfl) rfl rfl ?_
  refine wr_x (ox_load rfl Try.underlying88 rfl rfl (by first | exact Cell.blk0 0 rfl rfl | exact Cell.blk0 1 rfl rfl)) rfl rfl ?_
  refine wr_x (ox_shrU (n := 7) rfl rfl rfl (by omega)) rfl rfl ?_
  refine wr_nil ?_
  refine wl_x (ox_xorU rfl rfl rfl (by omega) (by omega)) rfl rfl rfl ?_
  refine wl_x (ox_nilCheck rfl rfl) rfl rfl rfl ?_
  first | refine wl_storeAt 0 0 rfl el88 rfl rfl (by first | rfl | exact Rd.one ‹_› | exact (RdL.rd ‹_›).one) rfl rfl (by first | decide | (simp; done) | (simp; omega)) rfl rfl ?_ | refine wl_storeAt 1 0 rfl el88 rfl rfl (by first | rfl | exact Rd.one ‹_› | exact (RdL.rd ‹_›).one) rfl rfl (by first | decide | (simp; done) | (simp; omega)) rfl rfl ?_
  refine wl_nil ?_
  refine nx_then ?_
  rw [← hx2]
  refine ws_seq ?_
  refine ws_draw 7 fol (by kernel_rfl) rfl ?_
  simp only [List.take_succ_cons, List.take_zero, List.drop_succ_cons, List.drop_zero, List.take_nil, List.drop_nil]
  refine wr_x (ox_move rfl rfl) rfl rfl ?_
  refine wr_x (ox_nilCheck rfl rfl) rfl rfl ?_
  refine wr_x (ox_load rfl Try.underlying88 rfl rfl (by first | exact Cell.blk0 0 rfl rfl | exact Cell.blk0 1 rfl rfl)) rfl rfl ?_
  refine wr_x (ox_move rfl rfl) rfl rfl ?_
  refine wr_x (ox_nilCheck rfl rfl) rfl rfl ?_
  refine wr_x (ox_load rfl Try.underlying88 rfl rfl (by first | exact Cell.blk0 0 rfl rfl | exact Cell.blk0 1 rfl rfl)) rfl rfl ?_
  refine wr_x (ox_shlU (n := 17) rfl rfl rfl (by omega)) rfl rfl ?_
  refine wr_nil ?_
  refine wl_x (ox_xorU rfl rfl rfl (by omega) (by omega)) rfl rfl rfl ?_
  refine wl_x (ox_nilCheck rfl rfl) rfl rfl rfl ?_
  first | refine wl_storeAt 0 0 rfl el88 rfl rfl (by first | rfl | exact Rd.one ‹_› | exact (RdL.rd ‹_›).one) rfl rfl (by first | decide | (simp; done) | (simp; omega)) rfl rfl ?_ | refine wl_storeAt 1 0 rfl el88 rfl rfl (by first | rfl | exact Rd.one ‹_› | exact (RdL.rd ‹_›).one) rfl rfl (by first | decide | (simp; done) | (simp; omega)) rfl rfl ?_
  refine wl_nil ?_
  refine nx_then ?_
  refine ws_seq ?_
  refine ws_region ?_
  refine wl_x (ox_move rfl rfl) rfl rfl rfl ?_
  refine wl_x (ox_nilCheck rfl rfl) rfl rfl rfl ?_
  refine wl_x (ox_load rfl Try.underlying88 rfl rfl (by first | exact Cell.blk0 0 rfl rfl | exact Cell.blk0 1 rfl rfl)) rfl rfl rfl ?_
  refine wl_x (ox_assign rfl rfl) rfl rfl rfl ?_
  refine wl_nil ?_
  refine nx_then ?_
  refine ws_ret ?_
  exact nx_ret1 rfl rfl (⟨rfl, rfl, rfl⟩)
theorem bitsLen_ok (n : Nat) (hn : n < 18446744073709551616) (h : Hp) (ms : List Hp) {n' : Int} (e : n' = n) : FnV Try.prog 47 #[.int .u64 n'] h ms (.int .i64 (bitsLen n : Nat)) := by
  subst e
  have := Try.bits_Len (n : Int)
  exact FnV.ofCalls fun w => by
    have := Try.bits_Len (n : Int) w (by omega) (by omega)
    rwa [Int.toNat_natCast, bitLen_eq n hn] at this
theorem nextPow_ok (n : Nat) (hn : n < 4611686018427387904) (h : Hp) (ms : List Hp) {n' : Int} (e : n' = n) : FnV Try.prog 66 #[.int .i64 n'] h ms (.int .u64 (1 <<< bitsLen n : Nat)) := by
  subst e
  refine FnV.weaken (FnT.toV ?_) (Hp.emp_le h)
  have hb : bitsLen n ≤ 62 := (bitsLen_le_iff n 62).2 (by omega)
  refine fn_enter Try.func66 Try.ntmps66 rfl rfl (fun w0 hw0 => ?_)
  simp only [argS]
  refine ws_seq ?_
  refine ws_region ?_
  refine wl_x (ox_assign rfl rfl) rfl rfl rfl ?_
  refine wl_nil ?_
  refine nx_then ?_
  refine ws_seq ?_
  refine ws_region ?_
  refine wl_x (ox_move rfl rfl) rfl rfl rfl ?_
  refine wl_x (ox_conv rfl Try.underlying3 Try.underlying69 rfl (wrap_u64 (by omega))) rfl rfl rfl ?_
  refine wl_x (ox_call rfl Try.call47 rfl (bitsLen_ok n (by omega) _ _ rfl)) rfl rfl rfl ?_
  refine wl_x (ox_shlU rfl rfl rfl (by omega)) rfl rfl rfl ?_
  refine wl_x (ox_assign rfl rfl) rfl rfl rfl ?_
  refine wl_nil ?_
  refine nx_then ?_
  refine ws_ret ?_
  have e1 : 1 * 2 ^ bitsLen n % 18446744073709551616 = 1 <<< bitsLen n := by
    have : 2 ^ bitsLen n ≤ 2 ^ 62 := Nat.pow_le_pow_right (by decide) hb
    rw [Nat.one_mul, Nat.mod_eq_of_lt (by omega), Nat.shiftLeft_eq, Nat.one_mul]
  exact nx_ret1 rfl rfl (by rw [← e1])
end Go.Proofs.Ythdkhnjnhhofgaa
