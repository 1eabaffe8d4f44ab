/- Walks: the library's sort at integers: the partitions. -/
import Derived.Test.YthdkhnjnhhofgaaSo
set_option linter.unusedSimpArgs false
set_option linter.unusedVariables false
set_option maxRecDepth 100000
namespace Go.Proofs.Ythdkhnjnhhofgaa
open Go.Eng Go.RowKit Go.Sort

theorem scanUp_step {p : Int → Bool} {d : Array Int} {j i : Nat} (h1 : i ≤ j) (h2 : p d[i]! = true) : scanUp p d j i = scanUp p d j (i + 1) := by
  conv => lhs; unfold scanUp
  rw [if_pos (by simp [h1, h2])]
theorem scanUp_stop {p : Int → Bool} {d : Array Int} {j i : Nat} (h : ¬ i ≤ j ∨ p d[i]! = false) : scanUp p d j i = i := by
  unfold scanUp
  rw [if_neg (by rcases h with h | h <;> simp [h])]
theorem scanDown_step {p : Int → Bool} {d : Array Int} {j i : Nat} (hj : 0 < j) (h1 : i ≤ j) (h2 : p d[j]! = true) : scanDown p d i j = scanDown p d i (j - 1) := by
  obtain ⟨k, rfl⟩ : ∃ k, j = k + 1 := ⟨j - 1, by omega⟩
  conv => lhs; unfold scanDown
  rw [if_pos (by simp [h1, h2])]; rfl
theorem scanDown_stop {p : Int → Bool} {d : Array Int} {j i : Nat} (h : ¬ i ≤ j ∨ p d[j]! = false) : scanDown p d i j = j := by
  cases j with
  | zero => rfl
  | succ k => unfold scanDown; rw [if_neg (by rcases h with h | h <;> simp [h])]


abbrev peS (v : Value) (a x z : Int) : Slots := [(0, v), (1, .int .i64 a), (9, .int .i64 x), (10, .int .i64 z)]

theorem partitionEqual_ok (d : Array Int) (v : Value) (m : Hp) (hO : OI m v d) (a b pivot : Nat) (hap : a ≤ pivot) (hpb : pivot < b) (hb : b ≤ d.size) (hsz : d.size ≤ 2305843009213693951) (h : Hp) {a' b' c' : Int} (ea : a' = a) (eb : b' = b) (ec : c' = pivot) :
    FnT Try.prog 60 #[v, .int .i64 a', .int .i64 b', .int .i64 c'] h [m] (fun r h' ms' => r = .int .i64 (partitionEqual ltInt d a b pivot).1 ∧ Left h v (partitionEqual ltInt d a b pivot).2 r h' ms') := by
  subst ea eb ec
  have hO0 := hO
  refine fn_enter Try.func60 Try.ntmps60 rfl rfl (fun w0 hw0 => ?_)
  simp only [argS]
  refine ws_seq ?_
  refine ws_region ?_
  refine wl_x (ox_assign rfl rfl) rfl rfl rfl ?_
  refine wl_nil ?_
  refine nx_then ?_
  refine ws_seq ?_
  refine ws_drawP 12 [false, false, true, true] fol (by kernel_rfl) (by kernel_rfl) (by kernel_rfl) ?_
  refine pz_x rfl rfl rfl rfl (px_move rfl rfl) ?_
  refine pz_x rfl rfl rfl rfl (px_move rfl rfl) ?_
  refine ⟨rfl, ?_⟩
  simp only [zapL, zap, List.cons_append, List.nil_append, List.take_succ_cons, List.take_zero, List.drop_succ_cons, List.drop_zero, List.take_nil, List.drop_nil]
  refine wr_x (ox_move rfl rfl) rfl rfl ?_
  refine wr_x (ox_move rfl rfl) rfl rfl ?_
  refine wr_z rfl rfl rfl ?_
  refine wr_z rfl rfl rfl ?_
  refine wr_x (ox_move rfl rfl) rfl rfl ?_
  refine wr_x (ox_move rfl rfl) rfl rfl ?_
  first | refine wr_x (ox_index pivot rfl Try.underlying23 el3 rfl rfl (by omega) (by omega)) rfl rfl ?_ | refine wr_x (ox_indexR pivot (hO0.rd (.head _)) rfl Try.underlying23 el3 rfl rfl (by omega) (by omega)) rfl rfl ?_
  refine wr_x (ox_load rfl Try.underlying3 rfl rfl (by first | exact hO0.get (.head _) (by omega))) rfl rfl ?_
  refine wr_x (ox_move rfl rfl) rfl rfl ?_
  refine wr_x (ox_move rfl rfl) rfl rfl ?_
  first | refine wr_x (ox_index a rfl Try.underlying23 el3 rfl rfl (by omega) (by omega)) rfl rfl ?_ | refine wr_x (ox_indexR a (hO0.rd (.head _)) rfl Try.underlying23 el3 rfl rfl (by omega) (by omega)) rfl rfl ?_
  refine wr_x (ox_load rfl Try.underlying3 rfl rfl (by first | exact hO0.get (.head _) (by omega))) rfl rfl ?_
  refine wr_nil ?_
  first | refine wl_x (ox_index a rfl Try.underlying23 el3 rfl rfl (by omega) (by omega)) rfl rfl rfl ?_ | refine wl_x (ox_indexR a (hO0.rd (.head _)) rfl Try.underlying23 el3 rfl rfl (by omega) (by omega)) rfl rfl rfl ?_
  refine wl_storeI 0 _ hO0 rfl el3 rfl rfl rfl (by omega) rfl rfl (fun mhO1 hzhO1 hO1 => ?_)
  first | refine wl_x (ox_index pivot rfl Try.underlying23 el3 rfl rfl (by omega) (by omega)) rfl rfl rfl ?_ | refine wl_x (ox_indexR pivot (hO1.rd (.head _)) rfl Try.underlying23 el3 rfl rfl (by omega) (by omega)) rfl rfl rfl ?_
  refine wl_storeI 0 _ hO1 rfl el3 rfl rfl rfl (by omega) rfl rfl (fun mhO2 hzhO2 hO2 => ?_)
  refine wl_nil ?_
  refine nx_q0 ?_
  refine nx_then ?_
  refine ws_seq ?_
  refine ws_region ?_
  refine wl_x (ox_move rfl rfl) rfl rfl rfl ?_
  refine wl_x (ox_add rfl rfl rfl (by omega)) rfl rfl rfl ?_
  refine wl_x (ox_move rfl rfl) rfl rfl rfl ?_
  refine wl_x (ox_sub rfl rfl rfl (by omega)) rfl rfl rfl ?_
  refine wl_x (ox_assign rfl rfl) rfl rfl rfl ?_
  refine wl_x (ox_assign rfl rfl) rfl rfl rfl ?_
  refine wl_nil ?_
  refine nx_then ?_
  refine ws_seq ?_
  refine ws_block ?_
  refine ws_loop (fun n s h' ms' => ∃ (i j : Nat) (y z : Int) (d' : Array Int) (m : Hp), n = j + 1 - i ∧ s = [(0, v), (1, .int .i64 a), (9, .int .i64 y), (10, .int .i64 z)] ∧ h = h' ∧ ms' = [m] ∧ y = i ∧ z = j ∧ a < i ∧ i ≤ j + 2 ∧ j < b ∧ OI m v d' ∧ d'.size = d.size ∧ partEqLoop ltInt a i j d' = partitionEqual ltInt d a b pivot)
    _ _ ⟨a + 1, b - 1, (a : Int) + 1, (b : Int) - 1, _, mhO2, rfl, rfl, rfl, rfl, by omega, by omega, by omega, by omega, by omega, hO2, by omega, rfl⟩ (by repeat (first | exact trivial | refine ⟨rfl, ?_⟩)) ?_
  rintro n s h' ms' ⟨i, j, y, z, d0, m0, rfl, rfl, rfl, rfl, hy, hz, hai, hij, hjb, hO0, hds, hR⟩
  refine ws_block ?_
  refine ws_cut (fun s h' ms' => ∃ (i2 : Nat) (x : Int), s = peS v a x z ∧ h = h' ∧ ms' = [m0] ∧ x = i2 ∧ i ≤ i2 ∧ i2 ≤ j + 2 ∧ i2 = scanUp (fun x => !ltInt d0[a]! x) d0 j i) ?_ (fun s h ms hI => ?_)
  · skip
    refine ws_block ?_
    refine ws_loop (fun n s h' ms' => ∃ (i1 : Nat) (x : Int), n = j + 1 - i1 ∧ s = peS v a x z ∧ h = h' ∧ ms' = [m0] ∧ x = i1 ∧ i ≤ i1 ∧ i1 ≤ j + 2 ∧ scanUp (fun x => !ltInt d0[a]! x) d0 j i1 = scanUp (fun x => !ltInt d0[a]! x) d0 j i)
      _ _ ⟨i, y, rfl, rfl, rfl, rfl, hy, by omega, by omega, rfl⟩ (by repeat (first | exact trivial | refine ⟨rfl, ?_⟩)) ?_
    rintro n s h' ms' ⟨i1, x, rfl, rfl, rfl, rfl, hx, hi1, hi1j, hS⟩
    refine ws_seq ?_
    refine ws_seq ?_
    refine ws_draw 12 fol (by kernel_rfl) rfl ?_
    simp only [List.take_succ_cons, List.take_zero, List.drop_succ_cons, List.drop_zero, List.take_nil, List.drop_nil]
    refine wr_x (ox_move rfl rfl) rfl rfl ?_
    refine wr_x (ox_move rfl rfl) rfl rfl ?_
    refine wr_x (ox_leq rfl rfl rfl) rfl rfl ?_
    refine wr_x (ox_move rfl rfl) rfl rfl ?_
    refine wr_split (t := 32) rfl (fun hle => ?_) (fun hle => ?_)
    · skip
      refine wr_gx (ox_move rfl rfl) rfl rfl rfl rfl ?_
      refine wr_gx (ox_move rfl rfl) rfl rfl rfl rfl ?_
      first | refine wr_gx (ox_index a rfl Try.underlying23 el3 rfl rfl (by omega) (by omega)) rfl rfl rfl rfl ?_ | refine wr_gx (ox_indexR a (hO0.rd (.head _)) rfl Try.underlying23 el3 rfl rfl (by omega) (by omega)) rfl rfl rfl rfl ?_
      refine wr_gx (ox_load rfl Try.underlying3 rfl rfl (by first | exact hO0.get (.head _) (by omega))) rfl rfl rfl rfl ?_
      refine wr_gx (ox_move rfl rfl) rfl rfl rfl rfl ?_
      refine wr_gx (ox_move rfl rfl) rfl rfl rfl rfl ?_
      first | refine wr_gx (ox_index i1 rfl Try.underlying23 el3 rfl rfl (by omega) (by omega)) rfl rfl rfl rfl ?_ | refine wr_gx (ox_indexR i1 (hO0.rd (.head _)) rfl Try.underlying23 el3 rfl rfl (by omega) (by omega)) rfl rfl rfl rfl ?_
      refine wr_gx (ox_load rfl Try.underlying3 rfl rfl (by first | exact hO0.get (.head _) (by omega))) rfl rfl rfl rfl ?_
      refine wr_nil ?_
      refine wl_gx (ox_call rfl Try.call59 rfl (less_ok _ _ _ _)) rfl rfl rfl rfl rfl rfl ?_
      refine wl_gx (ox_not rfl rfl) rfl rfl rfl rfl rfl rfl ?_
      refine wl_x (ox_pick_t rfl rfl rfl) rfl rfl rfl ?_
      refine wl_nil ?_
      refine nx_then ?_
      refine ws_cond rfl (fun hp => ?_) (fun hp => ?_)
      · skip
        refine ws_skip ?_
        refine nx_then ?_
        refine ws_block ?_
        refine ws_region ?_
        refine wl_x (ox_move rfl rfl) rfl rfl rfl ?_
        refine wl_x (ox_add rfl rfl rfl (by omega)) rfl rfl rfl ?_
        refine wl_x (ox_assign rfl rfl) rfl rfl rfl ?_
        refine wl_nil ?_
        refine nx_block ?_
        refine nx_round (j + 1 - (i1 + 1)) _ (by omega) ⟨i1 + 1, x + 1, rfl, rfl, rfl, rfl, by omega, by omega, by omega, by rw [← hS]; exact (scanUp_step (p := (fun x => !ltInt d0[a]! x)) (by omega) hp).symm⟩ (by repeat (first | exact trivial | refine ⟨rfl, ?_⟩))
      · skip
        refine ws_exit ?_
        refine nx_then_exit ?_
        refine nx_then_exit ?_
        refine nx_block_exit ?_
        refine nx_meet _ ⟨i1, x, rfl, rfl, rfl, hx, hi1, hi1j, by rw [← hS]; exact (scanUp_stop (p := (fun x => !ltInt d0[a]! x)) (.inr hp)).symm⟩ (by repeat (first | exact trivial | refine ⟨rfl, ?_⟩))
    · skip
      refine wr_skip rfl rfl rfl rfl rfl ?_
      refine wr_skip rfl rfl rfl rfl rfl ?_
      refine wr_skip rfl rfl rfl rfl rfl ?_
      refine wr_skip rfl rfl rfl rfl rfl ?_
      refine wr_skip rfl rfl rfl rfl rfl ?_
      refine wr_skip rfl rfl rfl rfl rfl ?_
      refine wr_skip rfl rfl rfl rfl rfl ?_
      refine wr_skip rfl rfl rfl rfl rfl ?_
      refine wr_nil ?_
      refine wl_skip rfl rfl rfl rfl rfl rfl rfl ?_
      refine wl_skip rfl rfl rfl rfl rfl rfl rfl ?_
      refine wl_x (ox_pick_f rfl rfl rfl) rfl rfl rfl ?_
      refine wl_nil ?_
      refine nx_then ?_
      refine ws_cond_f rfl ?_
      refine ws_exit ?_
      refine nx_then_exit ?_
      refine nx_then_exit ?_
      refine nx_block_exit ?_
      refine nx_meet _ ⟨i1, x, rfl, rfl, rfl, hx, hi1, hi1j, by rw [← hS]; exact (scanUp_stop (.inl (by omega))).symm⟩ (by repeat (first | exact trivial | refine ⟨rfl, ?_⟩))
  · skip
    obtain ⟨i2, x, rfl, rfl, rfl, hx, hi2, hi2j, hu⟩ := hI
    refine ws_cut (fun s h' ms' => ∃ (j2 : Nat) (q : Int), s = peS v a x q ∧ h = h' ∧ ms' = [m0] ∧ q = j2 ∧ j2 ≤ j ∧ i2 ≤ j2 + 2 ∧ j2 = scanDown (fun x => ltInt d0[a]! x) d0 i2 j) ?_ (fun s h ms hI => ?_)
    · skip
      refine ws_block ?_
      refine ws_loop (fun n s h' ms' => ∃ (j1 : Nat) (q : Int), n = j1 + 1 - i2 ∧ s = peS v a x q ∧ h = h' ∧ ms' = [m0] ∧ q = j1 ∧ j1 ≤ j ∧ i2 ≤ j1 + 2 ∧ scanDown (fun x => ltInt d0[a]! x) d0 i2 j1 = scanDown (fun x => ltInt d0[a]! x) d0 i2 j)
        _ _ ⟨j, z, rfl, rfl, rfl, rfl, hz, by omega, by omega, rfl⟩ (by repeat (first | exact trivial | refine ⟨rfl, ?_⟩)) ?_
      rintro n s h' ms' ⟨j1, q, rfl, rfl, rfl, rfl, hq, hj1, hj1i, hS⟩
      refine ws_seq ?_
      refine ws_seq ?_
      refine ws_draw 12 fol (by kernel_rfl) rfl ?_
      simp only [List.take_succ_cons, List.take_zero, List.drop_succ_cons, List.drop_zero, List.take_nil, List.drop_nil]
      refine wr_x (ox_move rfl rfl) rfl rfl ?_
      refine wr_x (ox_move rfl rfl) rfl rfl ?_
      refine wr_x (ox_leq rfl rfl rfl) rfl rfl ?_
      refine wr_x (ox_move rfl rfl) rfl rfl ?_
      refine wr_split (t := 49) rfl (fun hle => ?_) (fun hle => ?_)
      · skip
        refine wr_gx (ox_move rfl rfl) rfl rfl rfl rfl ?_
        refine wr_gx (ox_move rfl rfl) rfl rfl rfl rfl ?_
        first | refine wr_gx (ox_index a rfl Try.underlying23 el3 rfl rfl (by omega) (by omega)) rfl rfl rfl rfl ?_ | refine wr_gx (ox_indexR a (hO0.rd (.head _)) rfl Try.underlying23 el3 rfl rfl (by omega) (by omega)) rfl rfl rfl rfl ?_
        refine wr_gx (ox_load rfl Try.underlying3 rfl rfl (by first | exact hO0.get (.head _) (by omega))) rfl rfl rfl rfl ?_
        refine wr_gx (ox_move rfl rfl) rfl rfl rfl rfl ?_
        refine wr_gx (ox_move rfl rfl) rfl rfl rfl rfl ?_
        first | refine wr_gx (ox_index j1 rfl Try.underlying23 el3 rfl rfl (by omega) (by omega)) rfl rfl rfl rfl ?_ | refine wr_gx (ox_indexR j1 (hO0.rd (.head _)) rfl Try.underlying23 el3 rfl rfl (by omega) (by omega)) rfl rfl rfl rfl ?_
        refine wr_gx (ox_load rfl Try.underlying3 rfl rfl (by first | exact hO0.get (.head _) (by omega))) rfl rfl rfl rfl ?_
        refine wr_nil ?_
        refine wl_gx (ox_call rfl Try.call59 rfl (less_ok _ _ _ _)) rfl rfl rfl rfl rfl rfl ?_
        refine wl_x (ox_pick_t rfl rfl rfl) rfl rfl rfl ?_
        refine wl_nil ?_
        refine nx_then ?_
        refine ws_cond rfl (fun hp => ?_) (fun hp => ?_)
        · skip
          refine ws_skip ?_
          refine nx_then ?_
          refine ws_block ?_
          refine ws_region ?_
          refine wl_x (ox_move rfl rfl) rfl rfl rfl ?_
          refine wl_x (ox_sub rfl rfl rfl (by omega)) rfl rfl rfl ?_
          refine wl_x (ox_assign rfl rfl) rfl rfl rfl ?_
          refine wl_nil ?_
          refine nx_block ?_
          refine nx_round (j1 - 1 + 1 - i2) _ (by omega) ⟨j1 - 1, q - 1, rfl, rfl, rfl, rfl, by omega, by omega, by omega, by rw [← hS]; exact (scanDown_step (p := (fun x => ltInt d0[a]! x)) (by omega) (by omega) hp).symm⟩ (by repeat (first | exact trivial | refine ⟨rfl, ?_⟩))
        · skip
          refine ws_exit ?_
          refine nx_then_exit ?_
          refine nx_then_exit ?_
          refine nx_block_exit ?_
          refine nx_meet _ ⟨j1, q, rfl, rfl, rfl, hq, hj1, hj1i, by rw [← hS]; exact (scanDown_stop (p := (fun x => ltInt d0[a]! x)) (.inr hp)).symm⟩ (by repeat (first | exact trivial | refine ⟨rfl, ?_⟩))
      · skip
        refine wr_skip rfl rfl rfl rfl rfl ?_
        refine wr_skip rfl rfl rfl rfl rfl ?_
        refine wr_skip rfl rfl rfl rfl rfl ?_
        refine wr_skip rfl rfl rfl rfl rfl ?_
        refine wr_skip rfl rfl rfl rfl rfl ?_
        refine wr_skip rfl rfl rfl rfl rfl ?_
        refine wr_skip rfl rfl rfl rfl rfl ?_
        refine wr_skip rfl rfl rfl rfl rfl ?_
        refine wr_nil ?_
        refine wl_skip rfl rfl rfl rfl rfl rfl rfl ?_
        refine wl_x (ox_pick_f rfl rfl rfl) rfl rfl rfl ?_
        refine wl_nil ?_
        refine nx_then ?_
        refine ws_cond_f rfl ?_
        refine ws_exit ?_
        refine nx_then_exit ?_
        refine nx_then_exit ?_
        refine nx_block_exit ?_
        refine nx_meet _ ⟨j1, q, rfl, rfl, rfl, hq, hj1, hj1i, by rw [← hS]; exact (scanDown_stop (.inl (by omega))).symm⟩ (by repeat (first | exact trivial | refine ⟨rfl, ?_⟩))
    · skip
      obtain ⟨j2, q, rfl, rfl, rfl, hq, hj2, hj2i, hd2⟩ := hI
      refine ws_seq ?_
      refine ws_seq ?_
      refine ws_region ?_
      refine wl_x (ox_move rfl rfl) rfl rfl rfl ?_
      refine wl_x (ox_move rfl rfl) rfl rfl rfl ?_
      refine wl_x (ox_gtr rfl rfl rfl) rfl rfl rfl ?_
      refine wl_nil ?_
      refine nx_then ?_
      refine ws_if rfl (fun hgt => ?_) (fun hgt => ?_)
      · skip
        refine ws_exit ?_
        refine nx_then_exit ?_
        refine nx_block_out rfl ?_
        refine nx_then_exit ?_
        refine nx_block_exit ?_
        refine nx_then ?_
        refine ws_seq ?_
        refine ws_region ?_
        refine wl_x (ox_move rfl rfl) rfl rfl rfl ?_
        refine wl_x (ox_assign rfl rfl) rfl rfl rfl ?_
        refine wl_nil ?_
        refine nx_then ?_
        refine ws_ret ?_
        have hE : partEqLoop ltInt a i j d0 = (i2, d0) := by unfold partEqLoop; simp only [← hu, ← hd2]; rw [if_pos (by omega)]
        rw [← hR, hE]
        exact nx_ret1 rfl rfl (⟨by rw [hx], rfl, m0, rfl, hO0⟩)
      · skip
        refine ws_skip ?_
        refine nx_then ?_
        refine ws_seq ?_
        refine ws_drawP 12 [false, false, true, true] fol (by kernel_rfl) (by kernel_rfl) (by kernel_rfl) ?_
        refine pz_x rfl rfl rfl rfl (px_move rfl rfl) ?_
        refine pz_x rfl rfl rfl rfl (px_move rfl rfl) ?_
        refine ⟨rfl, ?_⟩
        simp only [zapL, zap, List.cons_append, List.nil_append, List.take_succ_cons, List.take_zero, List.drop_succ_cons, List.drop_zero, List.take_nil, List.drop_nil]
        refine wr_x (ox_move rfl rfl) rfl rfl ?_
        refine wr_x (ox_move rfl rfl) rfl rfl ?_
        refine wr_z rfl rfl rfl ?_
        refine wr_z rfl rfl rfl ?_
        refine wr_x (ox_move rfl rfl) rfl rfl ?_
        refine wr_x (ox_move rfl rfl) rfl rfl ?_
        first | refine wr_x (ox_index j2 rfl Try.underlying23 el3 rfl rfl (by omega) (by omega)) rfl rfl ?_ | refine wr_x (ox_indexR j2 (hO0.rd (.head _)) rfl Try.underlying23 el3 rfl rfl (by omega) (by omega)) rfl rfl ?_
        refine wr_x (ox_load rfl Try.underlying3 rfl rfl (by first | exact hO0.get (.head _) (by omega))) rfl rfl ?_
        refine wr_x (ox_move rfl rfl) rfl rfl ?_
        refine wr_x (ox_move rfl rfl) rfl rfl ?_
        first | refine wr_x (ox_index i2 rfl Try.underlying23 el3 rfl rfl (by omega) (by omega)) rfl rfl ?_ | refine wr_x (ox_indexR i2 (hO0.rd (.head _)) rfl Try.underlying23 el3 rfl rfl (by omega) (by omega)) rfl rfl ?_
        refine wr_x (ox_load rfl Try.underlying3 rfl rfl (by first | exact hO0.get (.head _) (by omega))) rfl rfl ?_
        refine wr_nil ?_
        first | refine wl_x (ox_index i2 rfl Try.underlying23 el3 rfl rfl (by omega) (by omega)) rfl rfl rfl ?_ | refine wl_x (ox_indexR i2 (hO0.rd (.head _)) rfl Try.underlying23 el3 rfl rfl (by omega) (by omega)) rfl rfl rfl ?_
        refine wl_storeI 0 _ hO0 rfl el3 rfl rfl rfl (by omega) rfl rfl (fun mhO1 hzhO1 hO1 => ?_)
        first | refine wl_x (ox_index j2 rfl Try.underlying23 el3 rfl rfl (by omega) (by omega)) rfl rfl rfl ?_ | refine wl_x (ox_indexR j2 (hO1.rd (.head _)) rfl Try.underlying23 el3 rfl rfl (by omega) (by omega)) rfl rfl rfl ?_
        refine wl_storeI 0 _ hO1 rfl el3 rfl rfl rfl (by omega) rfl rfl (fun mhO2 hzhO2 hO2 => ?_)
        refine wl_nil ?_
        refine nx_q0 ?_
        refine nx_then ?_
        refine ws_seq ?_
        refine ws_region ?_
        refine wl_x (ox_move rfl rfl) rfl rfl rfl ?_
        refine wl_x (ox_add rfl rfl rfl (by omega)) rfl rfl rfl ?_
        refine wl_x (ox_assign rfl rfl) rfl rfl rfl ?_
        refine wl_nil ?_
        refine nx_then ?_
        refine ws_region ?_
        refine wl_x (ox_move rfl rfl) rfl rfl rfl ?_
        refine wl_x (ox_sub rfl rfl rfl (by omega)) rfl rfl rfl ?_
        refine wl_x (ox_assign rfl rfl) rfl rfl rfl ?_
        refine wl_nil ?_
        refine nx_block ?_
        refine nx_round ((j2 - 1) + 1 - (i2 + 1)) _ (by omega) ⟨i2 + 1, j2 - 1, x + 1, q - 1, _, mhO2, rfl, rfl, rfl, rfl, by omega, by omega, by omega, by omega, by omega, hO2, by omega, ?_⟩ (by repeat (first | exact trivial | refine ⟨rfl, ?_⟩))
        rw [← hR]; conv => rhs; unfold partEqLoop
        simp only [← hu, ← hd2]
        rw [if_neg (by omega), dif_pos (by omega)]; rfl

abbrev prS (v : Value) (a x z : Int) : Slots := [(0, v), (1, .int .i64 a), (10, .int .i64 x), (11, .int .i64 z)]
theorem partition_ok (d : Array Int) (v : Value) (m : Hp) (hO : OI m v d) (a b pivot : Nat) (hap : a ≤ pivot) (hpb : pivot < b) (hb : b ≤ d.size) (hsz : d.size ≤ 2305843009213693951) (h : Hp) {a' b' c' : Int} (ea : a' = a) (eb : b' = b) (ec : c' = pivot) :
    FnT Try.prog 61 #[v, .int .i64 a', .int .i64 b', .int .i64 c'] h [m] (fun r h' ms' => r = .tuple #[.int .i64 (Sort.partition ltInt d a b pivot).1, .bool (Sort.partition ltInt d a b pivot).2.1] ∧ Left h v (Sort.partition ltInt d a b pivot).2.2 r h' ms') := by
  subst ea eb ec
  have hO0 := hO
  refine fn_enter Try.func61 Try.ntmps61 rfl rfl (fun w0 hw0 => ?_)
  simp only [argS]
  refine ws_seq ?_
  refine ws_region ?_
  refine wl_x (ox_assign rfl rfl) rfl rfl rfl ?_
  refine wl_x (ox_assign rfl rfl) rfl rfl rfl ?_
  refine wl_nil ?_
  refine nx_then ?_
  refine ws_seq ?_
  refine ws_drawP 12 [false, false, true, true] fol (by kernel_rfl) (by kernel_rfl) (by kernel_rfl) ?_
  refine pz_x rfl rfl rfl rfl (px_move rfl rfl) ?_
  refine pz_x rfl rfl rfl rfl (px_move rfl rfl) ?_
  refine ⟨rfl, ?_⟩
  simp only [zapL, zap, List.cons_append, List.nil_append, List.take_succ_cons, List.take_zero, List.drop_succ_cons, List.drop_zero, List.take_nil, List.drop_nil]
  refine wr_x (ox_move rfl rfl) rfl rfl ?_
  refine wr_x (ox_move rfl rfl) rfl rfl ?_
  refine wr_z rfl rfl rfl ?_
  refine wr_z rfl rfl rfl ?_
  refine wr_x (ox_move rfl rfl) rfl rfl ?_
  refine wr_x (ox_move rfl rfl) rfl rfl ?_
  first | refine wr_x (ox_index pivot rfl Try.underlying23 el3 rfl rfl (by omega) (by omega)) rfl rfl ?_ | refine wr_x (ox_indexR pivot (hO0.rd (.head _)) rfl Try.underlying23 el3 rfl rfl (by omega) (by omega)) rfl rfl ?_
  refine wr_x (ox_load rfl Try.underlying3 rfl rfl (by first | exact hO0.get (.head _) (by omega))) rfl rfl ?_
  refine wr_x (ox_move rfl rfl) rfl rfl ?_
  refine wr_x (ox_move rfl rfl) rfl rfl ?_
  first | refine wr_x (ox_index a rfl Try.underlying23 el3 rfl rfl (by omega) (by omega)) rfl rfl ?_ | refine wr_x (ox_indexR a (hO0.rd (.head _)) rfl Try.underlying23 el3 rfl rfl (by omega) (by omega)) rfl rfl ?_
  refine wr_x (ox_load rfl Try.underlying3 rfl rfl (by first | exact hO0.get (.head _) (by omega))) rfl rfl ?_
  refine wr_nil ?_
  first | refine wl_x (ox_index a rfl Try.underlying23 el3 rfl rfl (by omega) (by omega)) rfl rfl rfl ?_ | refine wl_x (ox_indexR a (hO0.rd (.head _)) rfl Try.underlying23 el3 rfl rfl (by omega) (by omega)) rfl rfl rfl ?_
  refine wl_storeI 0 _ hO0 rfl el3 rfl rfl rfl (by omega) rfl rfl (fun mhO1 hzhO1 hO1 => ?_)
  first | refine wl_x (ox_index pivot rfl Try.underlying23 el3 rfl rfl (by omega) (by omega)) rfl rfl rfl ?_ | refine wl_x (ox_indexR pivot (hO1.rd (.head _)) rfl Try.underlying23 el3 rfl rfl (by omega) (by omega)) rfl rfl rfl ?_
  refine wl_storeI 0 _ hO1 rfl el3 rfl rfl rfl (by omega) rfl rfl (fun mhO2 hzhO2 hO2 => ?_)
  refine wl_nil ?_
  refine nx_q0 ?_
  refine nx_then ?_
  refine ws_seq ?_
  refine ws_region ?_
  refine wl_x (ox_move rfl rfl) rfl rfl rfl ?_
  refine wl_x (ox_add rfl rfl rfl (by omega)) rfl rfl rfl ?_
  refine wl_x (ox_move rfl rfl) rfl rfl rfl ?_
  refine wl_x (ox_sub rfl rfl rfl (by omega)) rfl rfl rfl ?_
  refine wl_x (ox_assign rfl rfl) rfl rfl rfl ?_
  refine wl_x (ox_assign rfl rfl) rfl rfl rfl ?_
  refine wl_nil ?_
  refine nx_then ?_
  generalize hy : (a : Int) + 1 = y
  generalize hz : (b : Int) - 1 = z
  obtain ⟨i, hi⟩ : ∃ i, i = a + 1 := ⟨_, rfl⟩
  obtain ⟨j, hj⟩ : ∃ j, j = b - 1 := ⟨_, rfl⟩
  obtain ⟨m0, rfl⟩ : ∃ m0, m0 = mhO2 := ⟨_, rfl⟩
  obtain ⟨d0, hd0⟩ : ∃ d0, d0 = swp d a pivot := ⟨_, rfl⟩
  have hO0 : OI m0 v d0 := by rw [hd0]; exact hO2
  have hds : d0.size = d.size := by rw [hd0]; exact size_swp _ _ _
  have hy : y = i := by omega
  have hz : z = j := by omega
  refine ws_cut (fun s h' ms' => ∃ (i2 : Nat) (x : Int), s = prS v a x z ∧ h = h' ∧ ms' = [m0] ∧ x = i2 ∧ i ≤ i2 ∧ i2 ≤ j + 2 ∧ i2 = scanUp (fun x => ltInt x d0[a]!) d0 j i) ?_ (fun s h ms hI => ?_)
  · skip
    refine ws_block ?_
    refine ws_loop (fun n s h' ms' => ∃ (i1 : Nat) (x : Int), n = j + 1 - i1 ∧ s = prS v a x z ∧ h = h' ∧ ms' = [m0] ∧ x = i1 ∧ i ≤ i1 ∧ i1 ≤ j + 2 ∧ scanUp (fun x => ltInt x d0[a]!) d0 j i1 = scanUp (fun x => ltInt x d0[a]!) d0 j i)
      _ _ ⟨i, y, rfl, rfl, rfl, rfl, hy, by omega, by omega, rfl⟩ (by repeat (first | exact trivial | refine ⟨rfl, ?_⟩)) ?_
    rintro n s h' ms' ⟨i1, x, rfl, rfl, rfl, rfl, hx, hi1, hi1j, hS⟩
    refine ws_seq ?_
    refine ws_seq ?_
    refine ws_draw 12 fol (by kernel_rfl) rfl ?_
    simp only [List.take_succ_cons, List.take_zero, List.drop_succ_cons, List.drop_zero, List.take_nil, List.drop_nil]
    refine wr_x (ox_move rfl rfl) rfl rfl ?_
    refine wr_x (ox_move rfl rfl) rfl rfl ?_
    refine wr_x (ox_leq rfl rfl rfl) rfl rfl ?_
    refine wr_x (ox_move rfl rfl) rfl rfl ?_
    refine wr_split (t := 33) rfl (fun hle => ?_) (fun hle => ?_)
    · skip
      refine wr_gx (ox_move rfl rfl) rfl rfl rfl rfl ?_
      refine wr_gx (ox_move rfl rfl) rfl rfl rfl rfl ?_
      first | refine wr_gx (ox_index i1 rfl Try.underlying23 el3 rfl rfl (by omega) (by omega)) rfl rfl rfl rfl ?_ | refine wr_gx (ox_indexR i1 (hO0.rd (.head _)) rfl Try.underlying23 el3 rfl rfl (by omega) (by omega)) rfl rfl rfl rfl ?_
      refine wr_gx (ox_load rfl Try.underlying3 rfl rfl (by first | exact hO0.get (.head _) (by omega))) rfl rfl rfl rfl ?_
      refine wr_gx (ox_move rfl rfl) rfl rfl rfl rfl ?_
      refine wr_gx (ox_move rfl rfl) rfl rfl rfl rfl ?_
      first | refine wr_gx (ox_index a rfl Try.underlying23 el3 rfl rfl (by omega) (by omega)) rfl rfl rfl rfl ?_ | refine wr_gx (ox_indexR a (hO0.rd (.head _)) rfl Try.underlying23 el3 rfl rfl (by omega) (by omega)) rfl rfl rfl rfl ?_
      refine wr_gx (ox_load rfl Try.underlying3 rfl rfl (by first | exact hO0.get (.head _) (by omega))) rfl rfl rfl rfl ?_
      refine wr_nil ?_
      refine wl_gx (ox_call rfl Try.call59 rfl (less_ok _ _ _ _)) rfl rfl rfl rfl rfl rfl ?_
      refine wl_x (ox_pick_t rfl rfl rfl) rfl rfl rfl ?_
      refine wl_nil ?_
      refine nx_then ?_
      refine ws_cond rfl (fun hp => ?_) (fun hp => ?_)
      · skip
        refine ws_skip ?_
        refine nx_then ?_
        refine ws_block ?_
        refine ws_region ?_
        refine wl_x (ox_move rfl rfl) rfl rfl rfl ?_
        refine wl_x (ox_add rfl rfl rfl (by omega)) rfl rfl rfl ?_
        refine wl_x (ox_assign rfl rfl) rfl rfl rfl ?_
        refine wl_nil ?_
        refine nx_block ?_
        refine nx_round (j + 1 - (i1 + 1)) _ (by omega) ⟨i1 + 1, x + 1, rfl, rfl, rfl, rfl, by omega, by omega, by omega, by rw [← hS]; exact (scanUp_step (p := (fun x => ltInt x d0[a]!)) (by omega) hp).symm⟩ (by repeat (first | exact trivial | refine ⟨rfl, ?_⟩))
      · skip
        refine ws_exit ?_
        refine nx_then_exit ?_
        refine nx_then_exit ?_
        refine nx_block_exit ?_
        refine nx_meet _ ⟨i1, x, rfl, rfl, rfl, hx, hi1, hi1j, by rw [← hS]; exact (scanUp_stop (p := (fun x => ltInt x d0[a]!)) (.inr hp)).symm⟩ (by repeat (first | exact trivial | refine ⟨rfl, ?_⟩))
    · skip
      refine wr_skip rfl rfl rfl rfl rfl ?_
      refine wr_skip rfl rfl rfl rfl rfl ?_
      refine wr_skip rfl rfl rfl rfl rfl ?_
      refine wr_skip rfl rfl rfl rfl rfl ?_
      refine wr_skip rfl rfl rfl rfl rfl ?_
      refine wr_skip rfl rfl rfl rfl rfl ?_
      refine wr_skip rfl rfl rfl rfl rfl ?_
      refine wr_skip rfl rfl rfl rfl rfl ?_
      refine wr_nil ?_
      refine wl_skip rfl rfl rfl rfl rfl rfl rfl ?_
      refine wl_x (ox_pick_f rfl rfl rfl) rfl rfl rfl ?_
      refine wl_nil ?_
      refine nx_then ?_
      refine ws_cond_f rfl ?_
      refine ws_exit ?_
      refine nx_then_exit ?_
      refine nx_then_exit ?_
      refine nx_block_exit ?_
      refine nx_meet _ ⟨i1, x, rfl, rfl, rfl, hx, hi1, hi1j, by rw [← hS]; exact (scanUp_stop (.inl (by omega))).symm⟩ (by repeat (first | exact trivial | refine ⟨rfl, ?_⟩))
  · skip
    obtain ⟨i2, x, rfl, rfl, rfl, hx, hi2, hi2j, hu⟩ := hI
    refine ws_cut (fun s h' ms' => ∃ (j2 : Nat) (q : Int), s = prS v a x q ∧ h = h' ∧ ms' = [m0] ∧ q = j2 ∧ j2 ≤ j ∧ i2 ≤ j2 + 2 ∧ j2 = scanDown (fun x => !ltInt x d0[a]!) d0 i2 j) ?_ (fun s h ms hI => ?_)
    · skip
      refine ws_block ?_
      refine ws_loop (fun n s h' ms' => ∃ (j1 : Nat) (q : Int), n = j1 + 1 - i2 ∧ s = prS v a x q ∧ h = h' ∧ ms' = [m0] ∧ q = j1 ∧ j1 ≤ j ∧ i2 ≤ j1 + 2 ∧ scanDown (fun x => !ltInt x d0[a]!) d0 i2 j1 = scanDown (fun x => !ltInt x d0[a]!) d0 i2 j)
        _ _ ⟨j, z, rfl, rfl, rfl, rfl, hz, by omega, by omega, rfl⟩ (by repeat (first | exact trivial | refine ⟨rfl, ?_⟩)) ?_
      rintro n s h' ms' ⟨j1, q, rfl, rfl, rfl, rfl, hq, hj1, hj1i, hS⟩
      refine ws_seq ?_
      refine ws_seq ?_
      refine ws_draw 12 fol (by kernel_rfl) rfl ?_
      simp only [List.take_succ_cons, List.take_zero, List.drop_succ_cons, List.drop_zero, List.take_nil, List.drop_nil]
      refine wr_x (ox_move rfl rfl) rfl rfl ?_
      refine wr_x (ox_move rfl rfl) rfl rfl ?_
      refine wr_x (ox_leq rfl rfl rfl) rfl rfl ?_
      refine wr_x (ox_move rfl rfl) rfl rfl ?_
      refine wr_split (t := 49) rfl (fun hle => ?_) (fun hle => ?_)
      · skip
        refine wr_gx (ox_move rfl rfl) rfl rfl rfl rfl ?_
        refine wr_gx (ox_move rfl rfl) rfl rfl rfl rfl ?_
        first | refine wr_gx (ox_index j1 rfl Try.underlying23 el3 rfl rfl (by omega) (by omega)) rfl rfl rfl rfl ?_ | refine wr_gx (ox_indexR j1 (hO0.rd (.head _)) rfl Try.underlying23 el3 rfl rfl (by omega) (by omega)) rfl rfl rfl rfl ?_
        refine wr_gx (ox_load rfl Try.underlying3 rfl rfl (by first | exact hO0.get (.head _) (by omega))) rfl rfl rfl rfl ?_
        refine wr_gx (ox_move rfl rfl) rfl rfl rfl rfl ?_
        refine wr_gx (ox_move rfl rfl) rfl rfl rfl rfl ?_
        first | refine wr_gx (ox_index a rfl Try.underlying23 el3 rfl rfl (by omega) (by omega)) rfl rfl rfl rfl ?_ | refine wr_gx (ox_indexR a (hO0.rd (.head _)) rfl Try.underlying23 el3 rfl rfl (by omega) (by omega)) rfl rfl rfl rfl ?_
        refine wr_gx (ox_load rfl Try.underlying3 rfl rfl (by first | exact hO0.get (.head _) (by omega))) rfl rfl rfl rfl ?_
        refine wr_nil ?_
        refine wl_gx (ox_call rfl Try.call59 rfl (less_ok _ _ _ _)) rfl rfl rfl rfl rfl rfl ?_
        refine wl_gx (ox_not rfl rfl) rfl rfl rfl rfl rfl rfl ?_
        refine wl_x (ox_pick_t rfl rfl rfl) rfl rfl rfl ?_
        refine wl_nil ?_
        refine nx_then ?_
        refine ws_cond rfl (fun hp => ?_) (fun hp => ?_)
        · skip
          refine ws_skip ?_
          refine nx_then ?_
          refine ws_block ?_
          refine ws_region ?_
          refine wl_x (ox_move rfl rfl) rfl rfl rfl ?_
          refine wl_x (ox_sub rfl rfl rfl (by omega)) rfl rfl rfl ?_
          refine wl_x (ox_assign rfl rfl) rfl rfl rfl ?_
          refine wl_nil ?_
          refine nx_block ?_
          refine nx_round (j1 - 1 + 1 - i2) _ (by omega) ⟨j1 - 1, q - 1, rfl, rfl, rfl, rfl, by omega, by omega, by omega, by rw [← hS]; exact (scanDown_step (p := (fun x => !ltInt x d0[a]!)) (by omega) (by omega) hp).symm⟩ (by repeat (first | exact trivial | refine ⟨rfl, ?_⟩))
        · skip
          refine ws_exit ?_
          refine nx_then_exit ?_
          refine nx_then_exit ?_
          refine nx_block_exit ?_
          refine nx_meet _ ⟨j1, q, rfl, rfl, rfl, hq, hj1, hj1i, by rw [← hS]; exact (scanDown_stop (p := (fun x => !ltInt x d0[a]!)) (.inr hp)).symm⟩ (by repeat (first | exact trivial | refine ⟨rfl, ?_⟩))
      · skip
        refine wr_skip rfl rfl rfl rfl rfl ?_
        refine wr_skip rfl rfl rfl rfl rfl ?_
        refine wr_skip rfl rfl rfl rfl rfl ?_
        refine wr_skip rfl rfl rfl rfl rfl ?_
        refine wr_skip rfl rfl rfl rfl rfl ?_
        refine wr_skip rfl rfl rfl rfl rfl ?_
        refine wr_skip rfl rfl rfl rfl rfl ?_
        refine wr_skip rfl rfl rfl rfl rfl ?_
        refine wr_nil ?_
        refine wl_skip rfl rfl rfl rfl rfl rfl rfl ?_
        refine wl_skip rfl rfl rfl rfl rfl rfl rfl ?_
        refine wl_x (ox_pick_f rfl rfl rfl) rfl rfl rfl ?_
        refine wl_nil ?_
        refine nx_then ?_
        refine ws_cond_f rfl ?_
        refine ws_exit ?_
        refine nx_then_exit ?_
        refine nx_then_exit ?_
        refine nx_block_exit ?_
        refine nx_meet _ ⟨j1, q, rfl, rfl, rfl, hq, hj1, hj1i, by rw [← hS]; exact (scanDown_stop (.inl (by omega))).symm⟩ (by repeat (first | exact trivial | refine ⟨rfl, ?_⟩))
    · skip
      obtain ⟨j2, q, rfl, rfl, rfl, hq, hj2, hj2i, hd2⟩ := hI
      refine ws_seq ?_
      refine ws_seq ?_
      refine ws_region ?_
      refine wl_x (ox_move rfl rfl) rfl rfl rfl ?_
      refine wl_x (ox_move rfl rfl) rfl rfl rfl ?_
      refine wl_x (ox_gtr rfl rfl rfl) rfl rfl rfl ?_
      refine wl_nil ?_
      refine nx_then ?_
      refine ws_if rfl (fun hgt => ?_) (fun hgt => ?_)
      · skip
        refine ws_seq ?_
        refine ws_drawP 12 [false, false, true, true] fol (by kernel_rfl) (by kernel_rfl) (by kernel_rfl) ?_
        refine pz_x rfl rfl rfl rfl (px_move rfl rfl) ?_
        refine pz_x rfl rfl rfl rfl (px_move rfl rfl) ?_
        refine ⟨rfl, ?_⟩
        simp only [zapL, zap, List.cons_append, List.nil_append, List.take_succ_cons, List.take_zero, List.drop_succ_cons, List.drop_zero, List.take_nil, List.drop_nil]
        refine wr_x (ox_move rfl rfl) rfl rfl ?_
        refine wr_x (ox_move rfl rfl) rfl rfl ?_
        refine wr_z rfl rfl rfl ?_
        refine wr_z rfl rfl rfl ?_
        refine wr_x (ox_move rfl rfl) rfl rfl ?_
        refine wr_x (ox_move rfl rfl) rfl rfl ?_
        first | refine wr_x (ox_index a rfl Try.underlying23 el3 rfl rfl (by omega) (by omega)) rfl rfl ?_ | refine wr_x (ox_indexR a (hO0.rd (.head _)) rfl Try.underlying23 el3 rfl rfl (by omega) (by omega)) rfl rfl ?_
        refine wr_x (ox_load rfl Try.underlying3 rfl rfl (by first | exact hO0.get (.head _) (by omega))) rfl rfl ?_
        refine wr_x (ox_move rfl rfl) rfl rfl ?_
        refine wr_x (ox_move rfl rfl) rfl rfl ?_
        first | refine wr_x (ox_index j2 rfl Try.underlying23 el3 rfl rfl (by omega) (by omega)) rfl rfl ?_ | refine wr_x (ox_indexR j2 (hO0.rd (.head _)) rfl Try.underlying23 el3 rfl rfl (by omega) (by omega)) rfl rfl ?_
        refine wr_x (ox_load rfl Try.underlying3 rfl rfl (by first | exact hO0.get (.head _) (by omega))) rfl rfl ?_
        refine wr_nil ?_
        first | refine wl_x (ox_index j2 rfl Try.underlying23 el3 rfl rfl (by omega) (by omega)) rfl rfl rfl ?_ | refine wl_x (ox_indexR j2 (hO0.rd (.head _)) rfl Try.underlying23 el3 rfl rfl (by omega) (by omega)) rfl rfl rfl ?_
        refine wl_storeI 0 _ hO0 rfl el3 rfl rfl rfl (by omega) rfl rfl (fun mhO1 hzhO1 hO1 => ?_)
        first | refine wl_x (ox_index a rfl Try.underlying23 el3 rfl rfl (by omega) (by omega)) rfl rfl rfl ?_ | refine wl_x (ox_indexR a (hO1.rd (.head _)) rfl Try.underlying23 el3 rfl rfl (by omega) (by omega)) rfl rfl rfl ?_
        refine wl_storeI 0 _ hO1 rfl el3 rfl rfl rfl (by omega) rfl rfl (fun mhO2 hzhO2 hO2 => ?_)
        refine wl_nil ?_
        refine nx_q0 ?_
        refine nx_then ?_
        refine ws_seq ?_
        refine ws_region ?_
        refine wl_x (ox_move rfl rfl) rfl rfl rfl ?_
        refine wl_x (ox_assign rfl rfl) rfl rfl rfl ?_
        refine wl_x (ox_assign rfl rfl) rfl rfl rfl ?_
        refine wl_nil ?_
        refine nx_then ?_
        refine ws_ret ?_
        refine nx_then_ret ?_
        have hE : Sort.partition ltInt d a b pivot = (j2, true, swp d0 j2 a) := by
          unfold Sort.partition; simp only [← hd0, ← hi, ← hj, ← hu, ← hd2]; rw [if_pos (by omega)]
        rw [hE]
        exact nx_ret2 rfl rfl rfl (⟨by rw [hq], rfl, mhO2, rfl, hO2⟩)
      · skip
        refine ws_skip ?_
        refine nx_then ?_
        refine ws_seq ?_
        refine ws_drawP 12 [false, false, true, true] fol (by kernel_rfl) (by kernel_rfl) (by kernel_rfl) ?_
        refine pz_x rfl rfl rfl rfl (px_move rfl rfl) ?_
        refine pz_x rfl rfl rfl rfl (px_move rfl rfl) ?_
        refine ⟨rfl, ?_⟩
        simp only [zapL, zap, List.cons_append, List.nil_append, List.take_succ_cons, List.take_zero, List.drop_succ_cons, List.drop_zero, List.take_nil, List.drop_nil]
        refine wr_x (ox_move rfl rfl) rfl rfl ?_
        refine wr_x (ox_move rfl rfl) rfl rfl ?_
        refine wr_z rfl rfl rfl ?_
        refine wr_z rfl rfl rfl ?_
        refine wr_x (ox_move rfl rfl) rfl rfl ?_
        refine wr_x (ox_move rfl rfl) rfl rfl ?_
        first | refine wr_x (ox_index j2 rfl Try.underlying23 el3 rfl rfl (by omega) (by omega)) rfl rfl ?_ | refine wr_x (ox_indexR j2 (hO0.rd (.head _)) rfl Try.underlying23 el3 rfl rfl (by omega) (by omega)) rfl rfl ?_
        refine wr_x (ox_load rfl Try.underlying3 rfl rfl (by first | exact hO0.get (.head _) (by omega))) rfl rfl ?_
        refine wr_x (ox_move rfl rfl) rfl rfl ?_
        refine wr_x (ox_move rfl rfl) rfl rfl ?_
        first | refine wr_x (ox_index i2 rfl Try.underlying23 el3 rfl rfl (by omega) (by omega)) rfl rfl ?_ | refine wr_x (ox_indexR i2 (hO0.rd (.head _)) rfl Try.underlying23 el3 rfl rfl (by omega) (by omega)) rfl rfl ?_
        refine wr_x (ox_load rfl Try.underlying3 rfl rfl (by first | exact hO0.get (.head _) (by omega))) rfl rfl ?_
        refine wr_nil ?_
        first | refine wl_x (ox_index i2 rfl Try.underlying23 el3 rfl rfl (by omega) (by omega)) rfl rfl rfl ?_ | refine wl_x (ox_indexR i2 (hO0.rd (.head _)) rfl Try.underlying23 el3 rfl rfl (by omega) (by omega)) rfl rfl rfl ?_
        refine wl_storeI 0 _ hO0 rfl el3 rfl rfl rfl (by omega) rfl rfl (fun mhO1 hzhO1 hO1 => ?_)
        first | refine wl_x (ox_index j2 rfl Try.underlying23 el3 rfl rfl (by omega) (by omega)) rfl rfl rfl ?_ | refine wl_x (ox_indexR j2 (hO1.rd (.head _)) rfl Try.underlying23 el3 rfl rfl (by omega) (by omega)) rfl rfl rfl ?_
        refine wl_storeI 0 _ hO1 rfl el3 rfl rfl rfl (by omega) rfl rfl (fun mhO2 hzhO2 hO2 => ?_)
        refine wl_nil ?_
        refine nx_q0 ?_
        refine nx_then ?_
        refine ws_seq ?_
        refine ws_region ?_
        refine wl_x (ox_move rfl rfl) rfl rfl rfl ?_
        refine wl_x (ox_add rfl rfl rfl (by omega)) rfl rfl rfl ?_
        refine wl_x (ox_assign rfl rfl) rfl rfl rfl ?_
        refine wl_nil ?_
        refine nx_then ?_
        refine ws_seq ?_
        refine ws_region ?_
        refine wl_x (ox_move rfl rfl) rfl rfl rfl ?_
        refine wl_x (ox_sub rfl rfl rfl (by omega)) rfl rfl rfl ?_
        refine wl_x (ox_assign rfl rfl) rfl rfl rfl ?_
        refine wl_nil ?_
        refine nx_then ?_
        have hE : Sort.partition ltInt d a b pivot = ((partLoop ltInt a (i2 + 1) (j2 - 1) (swp d0 i2 j2)).1, false, swp (partLoop ltInt a (i2 + 1) (j2 - 1) (swp d0 i2 j2)).2 (partLoop ltInt a (i2 + 1) (j2 - 1) (swp d0 i2 j2)).1 a) := by
          unfold Sort.partition; simp only [← hd0, ← hi, ← hj, ← hu, ← hd2]; rw [if_neg (by omega)]
        rw [hE]
        clear hE
        generalize hF : partLoop ltInt a (i2 + 1) (j2 - 1) (swp d0 i2 j2) = F
        refine ws_cut (fun s h' ms' => ∃ (jj : Nat) (q : Int) (d' : Array Int) (m : Hp), s = [(0, v), (1, .int .i64 a), (11, .int .i64 q)] ∧ h = h' ∧ ms' = [m] ∧ q = jj ∧ jj < b ∧ OI m v d' ∧ d'.size = d.size ∧ F = (jj, d')) ?_ (fun s h ms hI => ?_)
        · skip
          refine ws_block ?_
          refine ws_loop (fun n s h' ms' => ∃ (i j : Nat) (y z : Int) (d' : Array Int) (m : Hp), n = j + 1 - i ∧ s = prS v a y z ∧ h = h' ∧ ms' = [m] ∧ y = i ∧ z = j ∧ a < i ∧ i ≤ j + 2 ∧ j < b ∧ OI m v d' ∧ d'.size = d.size ∧ partLoop ltInt a i j d' = F)
            _ _ ⟨i2 + 1, j2 - 1, x + 1, q - 1, _, mhO2, rfl, rfl, rfl, rfl, by omega, by omega, by omega, by omega, by omega, hO2, by omega, hF⟩ (by repeat (first | exact trivial | refine ⟨rfl, ?_⟩)) ?_
          clear hd0 hy hz hu hd2 hF hO0 hO1 hO2 hds
          rintro n s h' ms' ⟨i, j, y, z, d0, m0, rfl, rfl, rfl, rfl, hy, hz, hai, hij, hjb, hO0, hds, hR⟩
          refine ws_block ?_
          refine ws_cut (fun s h' ms' => ∃ (i2 : Nat) (x : Int), s = prS v a x z ∧ h = h' ∧ ms' = [m0] ∧ x = i2 ∧ i ≤ i2 ∧ i2 ≤ j + 2 ∧ i2 = scanUp (fun x => ltInt x d0[a]!) d0 j i) ?_ (fun s h ms hI => ?_)
          · skip
            refine ws_block ?_
            refine ws_loop (fun n s h' ms' => ∃ (i1 : Nat) (x : Int), n = j + 1 - i1 ∧ s = prS v a x z ∧ h = h' ∧ ms' = [m0] ∧ x = i1 ∧ i ≤ i1 ∧ i1 ≤ j + 2 ∧ scanUp (fun x => ltInt x d0[a]!) d0 j i1 = scanUp (fun x => ltInt x d0[a]!) d0 j i)
              _ _ ⟨i, y, rfl, rfl, rfl, rfl, hy, by omega, by omega, rfl⟩ (by repeat (first | exact trivial | refine ⟨rfl, ?_⟩)) ?_
            rintro n s h' ms' ⟨i1, x, rfl, rfl, rfl, rfl, hx, hi1, hi1j, hS⟩
            refine ws_seq ?_
            refine ws_seq ?_
            refine ws_draw 12 fol (by kernel_rfl) rfl ?_
            simp only [List.take_succ_cons, List.take_zero, List.drop_succ_cons, List.drop_zero, List.take_nil, List.drop_nil]
            refine wr_x (ox_move rfl rfl) rfl rfl ?_
            refine wr_x (ox_move rfl rfl) rfl rfl ?_
            refine wr_x (ox_leq rfl rfl rfl) rfl rfl ?_
            refine wr_x (ox_move rfl rfl) rfl rfl ?_
            refine wr_split (t := 102) rfl (fun hle => ?_) (fun hle => ?_)
            · skip
              refine wr_gx (ox_move rfl rfl) rfl rfl rfl rfl ?_
              refine wr_gx (ox_move rfl rfl) rfl rfl rfl rfl ?_
              first | refine wr_gx (ox_index i1 rfl Try.underlying23 el3 rfl rfl (by omega) (by omega)) rfl rfl rfl rfl ?_ | refine wr_gx (ox_indexR i1 (hO0.rd (.head _)) rfl Try.underlying23 el3 rfl rfl (by omega) (by omega)) rfl rfl rfl rfl ?_
              refine wr_gx (ox_load rfl Try.underlying3 rfl rfl (by first | exact hO0.get (.head _) (by omega))) rfl rfl rfl rfl ?_
              refine wr_gx (ox_move rfl rfl) rfl rfl rfl rfl ?_
              refine wr_gx (ox_move rfl rfl) rfl rfl rfl rfl ?_
              first | refine wr_gx (ox_index a rfl Try.underlying23 el3 rfl rfl (by omega) (by omega)) rfl rfl rfl rfl ?_ | refine wr_gx (ox_indexR a (hO0.rd (.head _)) rfl Try.underlying23 el3 rfl rfl (by omega) (by omega)) rfl rfl rfl rfl ?_
              refine wr_gx (ox_load rfl Try.underlying3 rfl rfl (by first | exact hO0.get (.head _) (by omega))) rfl rfl rfl rfl ?_
              refine wr_nil ?_
              refine wl_gx (ox_call rfl Try.call59 rfl (less_ok _ _ _ _)) rfl rfl rfl rfl rfl rfl ?_
              refine wl_x (ox_pick_t rfl rfl rfl) rfl rfl rfl ?_
              refine wl_nil ?_
              refine nx_then ?_
              refine ws_cond rfl (fun hp => ?_) (fun hp => ?_)
              · skip
                refine ws_skip ?_
                refine nx_then ?_
                refine ws_block ?_
                refine ws_region ?_
                refine wl_x (ox_move rfl rfl) rfl rfl rfl ?_
                refine wl_x (ox_add rfl rfl rfl (by omega)) rfl rfl rfl ?_
                refine wl_x (ox_assign rfl rfl) rfl rfl rfl ?_
                refine wl_nil ?_
                refine nx_block ?_
                refine nx_round (j + 1 - (i1 + 1)) _ (by omega) ⟨i1 + 1, x + 1, rfl, rfl, rfl, rfl, by omega, by omega, by omega, by rw [← hS]; exact (scanUp_step (p := (fun x => ltInt x d0[a]!)) (by omega) hp).symm⟩ (by repeat (first | exact trivial | refine ⟨rfl, ?_⟩))
              · skip
                refine ws_exit ?_
                refine nx_then_exit ?_
                refine nx_then_exit ?_
                refine nx_block_exit ?_
                refine nx_meet _ ⟨i1, x, rfl, rfl, rfl, hx, hi1, hi1j, by rw [← hS]; exact (scanUp_stop (p := (fun x => ltInt x d0[a]!)) (.inr hp)).symm⟩ (by repeat (first | exact trivial | refine ⟨rfl, ?_⟩))
            · skip
              refine wr_skip rfl rfl rfl rfl rfl ?_
              refine wr_skip rfl rfl rfl rfl rfl ?_
              refine wr_skip rfl rfl rfl rfl rfl ?_
              refine wr_skip rfl rfl rfl rfl rfl ?_
              refine wr_skip rfl rfl rfl rfl rfl ?_
              refine wr_skip rfl rfl rfl rfl rfl ?_
              refine wr_skip rfl rfl rfl rfl rfl ?_
              refine wr_skip rfl rfl rfl rfl rfl ?_
              refine wr_nil ?_
              refine wl_skip rfl rfl rfl rfl rfl rfl rfl ?_
              refine wl_x (ox_pick_f rfl rfl rfl) rfl rfl rfl ?_
              refine wl_nil ?_
              refine nx_then ?_
              refine ws_cond_f rfl ?_
              refine ws_exit ?_
              refine nx_then_exit ?_
              refine nx_then_exit ?_
              refine nx_block_exit ?_
              refine nx_meet _ ⟨i1, x, rfl, rfl, rfl, hx, hi1, hi1j, by rw [← hS]; exact (scanUp_stop (.inl (by omega))).symm⟩ (by repeat (first | exact trivial | refine ⟨rfl, ?_⟩))
          · skip
            obtain ⟨i2, x, rfl, rfl, rfl, hx, hi2, hi2j, hu⟩ := hI
            refine ws_cut (fun s h' ms' => ∃ (j2 : Nat) (q : Int), s = prS v a x q ∧ h = h' ∧ ms' = [m0] ∧ q = j2 ∧ j2 ≤ j ∧ i2 ≤ j2 + 2 ∧ j2 = scanDown (fun x => !ltInt x d0[a]!) d0 i2 j) ?_ (fun s h ms hI => ?_)
            · skip
              refine ws_block ?_
              refine ws_loop (fun n s h' ms' => ∃ (j1 : Nat) (q : Int), n = j1 + 1 - i2 ∧ s = prS v a x q ∧ h = h' ∧ ms' = [m0] ∧ q = j1 ∧ j1 ≤ j ∧ i2 ≤ j1 + 2 ∧ scanDown (fun x => !ltInt x d0[a]!) d0 i2 j1 = scanDown (fun x => !ltInt x d0[a]!) d0 i2 j)
                _ _ ⟨j, z, rfl, rfl, rfl, rfl, hz, by omega, by omega, rfl⟩ (by repeat (first | exact trivial | refine ⟨rfl, ?_⟩)) ?_
              rintro n s h' ms' ⟨j1, q, rfl, rfl, rfl, rfl, hq, hj1, hj1i, hS⟩
              refine ws_seq ?_
              refine ws_seq ?_
              refine ws_draw 12 fol (by kernel_rfl) rfl ?_
              simp only [List.take_succ_cons, List.take_zero, List.drop_succ_cons, List.drop_zero, List.take_nil, List.drop_nil]
              refine wr_x (ox_move rfl rfl) rfl rfl ?_
              refine wr_x (ox_move rfl rfl) rfl rfl ?_
              refine wr_x (ox_leq rfl rfl rfl) rfl rfl ?_
              refine wr_x (ox_move rfl rfl) rfl rfl ?_
              refine wr_split (t := 118) rfl (fun hle => ?_) (fun hle => ?_)
              · skip
                refine wr_gx (ox_move rfl rfl) rfl rfl rfl rfl ?_
                refine wr_gx (ox_move rfl rfl) rfl rfl rfl rfl ?_
                first | refine wr_gx (ox_index j1 rfl Try.underlying23 el3 rfl rfl (by omega) (by omega)) rfl rfl rfl rfl ?_ | refine wr_gx (ox_indexR j1 (hO0.rd (.head _)) rfl Try.underlying23 el3 rfl rfl (by omega) (by omega)) rfl rfl rfl rfl ?_
                refine wr_gx (ox_load rfl Try.underlying3 rfl rfl (by first | exact hO0.get (.head _) (by omega))) rfl rfl rfl rfl ?_
                refine wr_gx (ox_move rfl rfl) rfl rfl rfl rfl ?_
                refine wr_gx (ox_move rfl rfl) rfl rfl rfl rfl ?_
                first | refine wr_gx (ox_index a rfl Try.underlying23 el3 rfl rfl (by omega) (by omega)) rfl rfl rfl rfl ?_ | refine wr_gx (ox_indexR a (hO0.rd (.head _)) rfl Try.underlying23 el3 rfl rfl (by omega) (by omega)) rfl rfl rfl rfl ?_
                refine wr_gx (ox_load rfl Try.underlying3 rfl rfl (by first | exact hO0.get (.head _) (by omega))) rfl rfl rfl rfl ?_
                refine wr_nil ?_
                refine wl_gx (ox_call rfl Try.call59 rfl (less_ok _ _ _ _)) rfl rfl rfl rfl rfl rfl ?_
                refine wl_gx (ox_not rfl rfl) rfl rfl rfl rfl rfl rfl ?_
                refine wl_x (ox_pick_t rfl rfl rfl) rfl rfl rfl ?_
                refine wl_nil ?_
                refine nx_then ?_
                refine ws_cond rfl (fun hp => ?_) (fun hp => ?_)
                · skip
                  refine ws_skip ?_
                  refine nx_then ?_
                  refine ws_block ?_
                  refine ws_region ?_
                  refine wl_x (ox_move rfl rfl) rfl rfl rfl ?_
                  refine wl_x (ox_sub rfl rfl rfl (by omega)) rfl rfl rfl ?_
                  refine wl_x (ox_assign rfl rfl) rfl rfl rfl ?_
                  refine wl_nil ?_
                  refine nx_block ?_
                  refine nx_round (j1 - 1 + 1 - i2) _ (by omega) ⟨j1 - 1, q - 1, rfl, rfl, rfl, rfl, by omega, by omega, by omega, by rw [← hS]; exact (scanDown_step (p := (fun x => !ltInt x d0[a]!)) (by omega) (by omega) hp).symm⟩ (by repeat (first | exact trivial | refine ⟨rfl, ?_⟩))
                · skip
                  refine ws_exit ?_
                  refine nx_then_exit ?_
                  refine nx_then_exit ?_
                  refine nx_block_exit ?_
                  refine nx_meet _ ⟨j1, q, rfl, rfl, rfl, hq, hj1, hj1i, by rw [← hS]; exact (scanDown_stop (p := (fun x => !ltInt x d0[a]!)) (.inr hp)).symm⟩ (by repeat (first | exact trivial | refine ⟨rfl, ?_⟩))
              · skip
                refine wr_skip rfl rfl rfl rfl rfl ?_
                refine wr_skip rfl rfl rfl rfl rfl ?_
                refine wr_skip rfl rfl rfl rfl rfl ?_
                refine wr_skip rfl rfl rfl rfl rfl ?_
                refine wr_skip rfl rfl rfl rfl rfl ?_
                refine wr_skip rfl rfl rfl rfl rfl ?_
                refine wr_skip rfl rfl rfl rfl rfl ?_
                refine wr_skip rfl rfl rfl rfl rfl ?_
                refine wr_nil ?_
                refine wl_skip rfl rfl rfl rfl rfl rfl rfl ?_
                refine wl_skip rfl rfl rfl rfl rfl rfl rfl ?_
                refine wl_x (ox_pick_f rfl rfl rfl) rfl rfl rfl ?_
                refine wl_nil ?_
                refine nx_then ?_
                refine ws_cond_f rfl ?_
                refine ws_exit ?_
                refine nx_then_exit ?_
                refine nx_then_exit ?_
                refine nx_block_exit ?_
                refine nx_meet _ ⟨j1, q, rfl, rfl, rfl, hq, hj1, hj1i, by rw [← hS]; exact (scanDown_stop (.inl (by omega))).symm⟩ (by repeat (first | exact trivial | refine ⟨rfl, ?_⟩))
            · skip
              obtain ⟨j2, q, rfl, rfl, rfl, hq, hj2, hj2i, hd2⟩ := hI
              refine ws_seq ?_
              refine ws_seq ?_
              refine ws_region ?_
              refine wl_x (ox_move rfl rfl) rfl rfl rfl ?_
              refine wl_x (ox_move rfl rfl) rfl rfl rfl ?_
              refine wl_x (ox_gtr rfl rfl rfl) rfl rfl rfl ?_
              refine wl_nil ?_
              refine nx_then ?_
              refine ws_if rfl (fun hgt => ?_) (fun hgt => ?_)
              · skip
                refine ws_exit ?_
                refine nx_then_exit ?_
                refine nx_block_out rfl ?_
                refine nx_then_exit ?_
                refine nx_block_exit ?_
                have hE : partLoop ltInt a i j d0 = (j2, d0) := by unfold partLoop; simp only [← hu, ← hd2]; rw [if_pos (by omega)]
                refine nx_meet _ ⟨j2, q, d0, m0, rfl, rfl, rfl, hq, by omega, hO0, hds, by rw [← hR, hE]⟩ (by repeat (first | exact trivial | refine ⟨rfl, ?_⟩))
              · skip
                refine ws_skip ?_
                refine nx_then ?_
                refine ws_seq ?_
                refine ws_drawP 12 [false, false, true, true] fol (by kernel_rfl) (by kernel_rfl) (by kernel_rfl) ?_
                refine pz_x rfl rfl rfl rfl (px_move rfl rfl) ?_
                refine pz_x rfl rfl rfl rfl (px_move rfl rfl) ?_
                refine ⟨rfl, ?_⟩
                simp only [zapL, zap, List.cons_append, List.nil_append, List.take_succ_cons, List.take_zero, List.drop_succ_cons, List.drop_zero, List.take_nil, List.drop_nil]
                refine wr_x (ox_move rfl rfl) rfl rfl ?_
                refine wr_x (ox_move rfl rfl) rfl rfl ?_
                refine wr_z rfl rfl rfl ?_
                refine wr_z rfl rfl rfl ?_
                refine wr_x (ox_move rfl rfl) rfl rfl ?_
                refine wr_x (ox_move rfl rfl) rfl rfl ?_
                first | refine wr_x (ox_index j2 rfl Try.underlying23 el3 rfl rfl (by omega) (by omega)) rfl rfl ?_ | refine wr_x (ox_indexR j2 (hO0.rd (.head _)) rfl Try.underlying23 el3 rfl rfl (by omega) (by omega)) rfl rfl ?_
                refine wr_x (ox_load rfl Try.underlying3 rfl rfl (by first | exact hO0.get (.head _) (by omega))) rfl rfl ?_
                refine wr_x (ox_move rfl rfl) rfl rfl ?_
                refine wr_x (ox_move rfl rfl) rfl rfl ?_
                first | refine wr_x (ox_index i2 rfl Try.underlying23 el3 rfl rfl (by omega) (by omega)) rfl rfl ?_ | refine wr_x (ox_indexR i2 (hO0.rd (.head _)) rfl Try.underlying23 el3 rfl rfl (by omega) (by omega)) rfl rfl ?_
                refine wr_x (ox_load rfl Try.underlying3 rfl rfl (by first | exact hO0.get (.head _) (by omega))) rfl rfl ?_
                refine wr_nil ?_
                first | refine wl_x (ox_index i2 rfl Try.underlying23 el3 rfl rfl (by omega) (by omega)) rfl rfl rfl ?_ | refine wl_x (ox_indexR i2 (hO0.rd (.head _)) rfl Try.underlying23 el3 rfl rfl (by omega) (by omega)) rfl rfl rfl ?_
                refine wl_storeI 0 _ hO0 rfl el3 rfl rfl rfl (by omega) rfl rfl (fun mhO1 hzhO1 hO1 => ?_)
                first | refine wl_x (ox_index j2 rfl Try.underlying23 el3 rfl rfl (by omega) (by omega)) rfl rfl rfl ?_ | refine wl_x (ox_indexR j2 (hO1.rd (.head _)) rfl Try.underlying23 el3 rfl rfl (by omega) (by omega)) rfl rfl rfl ?_
                refine wl_storeI 0 _ hO1 rfl el3 rfl rfl rfl (by omega) rfl rfl (fun mhO2 hzhO2 hO2 => ?_)
                refine wl_nil ?_
                refine nx_q0 ?_
                refine nx_then ?_
                refine ws_seq ?_
                refine ws_region ?_
                refine wl_x (ox_move rfl rfl) rfl rfl rfl ?_
                refine wl_x (ox_add rfl rfl rfl (by omega)) rfl rfl rfl ?_
                refine wl_x (ox_assign rfl rfl) rfl rfl rfl ?_
                refine wl_nil ?_
                refine nx_then ?_
                refine ws_region ?_
                refine wl_x (ox_move rfl rfl) rfl rfl rfl ?_
                refine wl_x (ox_sub rfl rfl rfl (by omega)) rfl rfl rfl ?_
                refine wl_x (ox_assign rfl rfl) rfl rfl rfl ?_
                refine wl_nil ?_
                refine nx_block ?_
                refine nx_round ((j2 - 1) + 1 - (i2 + 1)) _ (by omega) ⟨i2 + 1, j2 - 1, x + 1, q - 1, _, mhO2, rfl, rfl, rfl, rfl, by omega, by omega, by omega, by omega, by omega, hO2, by omega, ?_⟩ (by repeat (first | exact trivial | refine ⟨rfl, ?_⟩))
                rw [← hR]; conv => rhs; unfold partLoop
                simp only [← hu, ← hd2]
                rw [if_neg (by omega), dif_pos (by omega)]; rfl
        · skip
          obtain ⟨jj, q, d0, m0, rfl, rfl, rfl, hq, hjj, hO0, hds, rfl⟩ := hI
          refine ws_seq ?_
          refine ws_drawP 12 [false, false, true, true] fol (by kernel_rfl) (by kernel_rfl) (by kernel_rfl) ?_
          refine pz_x rfl rfl rfl rfl (px_move rfl rfl) ?_
          refine pz_x rfl rfl rfl rfl (px_move rfl rfl) ?_
          refine ⟨rfl, ?_⟩
          simp only [zapL, zap, List.cons_append, List.nil_append, List.take_succ_cons, List.take_zero, List.drop_succ_cons, List.drop_zero, List.take_nil, List.drop_nil]
          refine wr_x (ox_move rfl rfl) rfl rfl ?_
          refine wr_x (ox_move rfl rfl) rfl rfl ?_
          refine wr_z rfl rfl rfl ?_
          refine wr_z rfl rfl rfl ?_
          refine wr_x (ox_move rfl rfl) rfl rfl ?_
          refine wr_x (ox_move rfl rfl) rfl rfl ?_
          first | refine wr_x (ox_index a rfl Try.underlying23 el3 rfl rfl (by omega) (by omega)) rfl rfl ?_ | refine wr_x (ox_indexR a (hO0.rd (.head _)) rfl Try.underlying23 el3 rfl rfl (by omega) (by omega)) rfl rfl ?_
          refine wr_x (ox_load rfl Try.underlying3 rfl rfl (by first | exact hO0.get (.head _) (by omega))) rfl rfl ?_
          refine wr_x (ox_move rfl rfl) rfl rfl ?_
          refine wr_x (ox_move rfl rfl) rfl rfl ?_
          first | refine wr_x (ox_index jj rfl Try.underlying23 el3 rfl rfl (by omega) (by omega)) rfl rfl ?_ | refine wr_x (ox_indexR jj (hO0.rd (.head _)) rfl Try.underlying23 el3 rfl rfl (by omega) (by omega)) rfl rfl ?_
          refine wr_x (ox_load rfl Try.underlying3 rfl rfl (by first | exact hO0.get (.head _) (by omega))) rfl rfl ?_
          refine wr_nil ?_
          first | refine wl_x (ox_index jj rfl Try.underlying23 el3 rfl rfl (by omega) (by omega)) rfl rfl rfl ?_ | refine wl_x (ox_indexR jj (hO0.rd (.head _)) rfl Try.underlying23 el3 rfl rfl (by omega) (by omega)) rfl rfl rfl ?_
          refine wl_storeI 0 _ hO0 rfl el3 rfl rfl rfl (by omega) rfl rfl (fun mhO1 hzhO1 hO1 => ?_)
          first | refine wl_x (ox_index a rfl Try.underlying23 el3 rfl rfl (by omega) (by omega)) rfl rfl rfl ?_ | refine wl_x (ox_indexR a (hO1.rd (.head _)) rfl Try.underlying23 el3 rfl rfl (by omega) (by omega)) rfl rfl rfl ?_
          refine wl_storeI 0 _ hO1 rfl el3 rfl rfl rfl (by omega) rfl rfl (fun mhO2 hzhO2 hO2 => ?_)
          refine wl_nil ?_
          refine nx_q0 ?_
          refine nx_then ?_
          refine ws_seq ?_
          refine ws_region ?_
          refine wl_x (ox_move rfl rfl) rfl rfl rfl ?_
          refine wl_x (ox_assign rfl rfl) rfl rfl rfl ?_
          refine wl_x (ox_assign rfl rfl) rfl rfl rfl ?_
          refine wl_nil ?_
          refine nx_then ?_
          refine ws_ret ?_
          exact nx_ret2 rfl rfl rfl (⟨by rw [hq], rfl, mhO2, rfl, hO2⟩)
end Go.Proofs.Ythdkhnjnhhofgaa
