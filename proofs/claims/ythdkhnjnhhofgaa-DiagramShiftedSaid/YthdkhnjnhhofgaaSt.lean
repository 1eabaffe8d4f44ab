/- Walks: the library's sort at integers: the partial insertion sort. -/
import Derived.Test.YthdkhnjnhhofgaaSs
set_option linter.unusedSimpArgs false
set_option linter.unusedVariables false
set_option maxRecDepth 100000
namespace Go.Proofs.Ythdkhnjnhhofgaa
open Go.Eng Go.RowKit Go.Sort

theorem scanSorted_step {d : Array Int} {b i : Nat} (h1 : i < b) (h2 : (!ltInt d[i]! d[i - 1]!) = true) : scanSorted ltInt d b i = scanSorted ltInt d b (i + 1) := by
  conv => lhs; unfold scanSorted
  rw [if_pos (by rw [h2]; simp [h1])]
theorem scanSorted_stop {d : Array Int} {b i : Nat} (h : ¬ i < b ∨ (!ltInt d[i]! d[i - 1]!) = false) : scanSorted ltInt d b i = i := by
  unfold scanSorted
  rw [if_neg (by rcases h with h | h <;> rw [Bool.and_eq_true] <;> simp [h])]
theorem shiftDown_size : ∀ (j : Nat) (d : Array Int), (shiftDown ltInt j d).size = d.size
  | 0, d => rfl
  | j + 1, d => by unfold shiftDown; split; · rfl
                   · rw [shiftDown_size j, size_swp]
theorem shiftUp_size (b : Nat) : ∀ (n j : Nat) (d : Array Int), b - j ≤ n → (shiftUp ltInt b j d).size = d.size
  | 0, j, d, h => by unfold shiftUp; rw [if_neg (by omega)]
  | n + 1, j, d, h => by
    unfold shiftUp
    split
    · split
      · rfl
      · rw [shiftUp_size b n _ _ (by omega), size_swp]
    · rfl

theorem partialIns_ok (d : Array Int) (v : Value) (m : Hp) (hO : OI m v d) (a b : Nat) (hab : a < b) (hb : b ≤ d.size) (hsz : d.size ≤ 2305843009213693951) (h : Hp) {a' b' : Int} (ea : a' = a) (eb : b' = b) :
    FnT Try.prog 58 #[v, .int .i64 a', .int .i64 b'] h [m] (fun r h' ms' => r = .bool (partialInsertionSort ltInt d a b).2 ∧ Left h v (partialInsertionSort ltInt d a b).1 r h' ms') := by
  subst ea eb
  refine fn_enter Try.func58 Try.ntmps58 rfl rfl (fun w0 hw0 => ?_)
  simp only [argS]
  refine ws_seq ?_
  refine ws_region ?_
  refine wl_x (ox_assign rfl rfl) rfl rfl rfl ?_
  refine wl_nil ?_
  refine nx_then ?_
  refine ws_seq ?_
  refine ws_region ?_
  refine wl_x (ox_move rfl rfl) rfl rfl rfl ?_
  refine wl_x (ox_add rfl rfl rfl (by omega)) rfl rfl rfl ?_
  refine wl_x (ox_assign rfl rfl) rfl rfl rfl ?_
  refine wl_nil ?_
  refine nx_then ?_
  refine ws_seq ?_
  refine ws_seq ?_
  refine ws_region ?_
  refine wl_x (ox_assign rfl rfl) rfl rfl rfl ?_
  refine wl_nil ?_
  refine nx_then ?_
  refine ws_block ?_
  refine ws_loop (fun n s h' ms' => ∃ (i : Nat) (y x : Int) (d' : Array Int) (m : Hp), s = [(0, v), (1, .int .i64 a), (2, .int .i64 b), (7, .int .i64 y), (8, .int .i64 x)] ∧ h = h' ∧ ms' = [m] ∧ y = i ∧ x = 5 - (n : Int) ∧ n ≤ 5 ∧ a < i ∧ i ≤ b ∧ OI m v d' ∧ d'.size = d.size ∧ partialIns ltInt a b n i d' = partialInsertionSort ltInt d a b)
    5 _ ⟨a + 1, (a : Int) + 1, 0, d, m, rfl, rfl, rfl, by omega, by omega, by omega, by omega, by omega, hO, rfl, rfl⟩ (by repeat (first | exact trivial | refine ⟨rfl, ?_⟩)) ?_
  rintro n s h' ms' ⟨i, y, x, d0, m0, rfl, rfl, rfl, hy, hx, hn, hai, hib, hO0, hds, hR⟩
  refine ws_seq ?_
  refine ws_seq ?_
  refine ws_region ?_
  refine wl_x (ox_move rfl rfl) rfl rfl rfl ?_
  refine wl_x (ox_lss rfl rfl rfl) rfl rfl rfl ?_
  refine wl_nil ?_
  refine nx_then ?_
  refine ws_if rfl (fun hlt => ?_) (fun hlt => ?_)
  · skip
    obtain ⟨sn, rfl⟩ : ∃ sn, n = sn + 1 := ⟨n - 1, by omega⟩
    refine ws_skip ?_
    refine nx_then ?_
    refine ws_seq ?_
    refine ws_block ?_
    refine ws_cut (fun s h' ms' => ∃ (i2 : Nat) (z : Int), s = [(0, v), (1, .int .i64 a), (2, .int .i64 b), (7, .int .i64 z), (8, .int .i64 x)] ∧ h = h' ∧ ms' = [m0] ∧ z = i2 ∧ i ≤ i2 ∧ i2 ≤ b ∧ i2 = scanSorted ltInt d0 b i) ?_ (fun s h ms hI => ?_)
    · skip
      refine ws_block ?_
      refine ws_loop (fun n s h' ms' => ∃ (i1 : Nat) (z : Int), n = b - i1 ∧ s = [(0, v), (1, .int .i64 a), (2, .int .i64 b), (7, .int .i64 z), (8, .int .i64 x)] ∧ h = h' ∧ ms' = [m0] ∧ z = i1 ∧ i ≤ i1 ∧ i1 ≤ b ∧ scanSorted ltInt d0 b i1 = scanSorted ltInt d0 b i)
        _ _ ⟨i, y, rfl, rfl, rfl, rfl, hy, by omega, by omega, rfl⟩ (by repeat (first | exact trivial | refine ⟨rfl, ?_⟩)) ?_
      rintro n s h' ms' ⟨i1, z, rfl, rfl, rfl, rfl, hz, hi1, hi1b, hS⟩
      refine ws_seq ?_
      refine ws_seq ?_
      refine ws_draw 13 fol (by kernel_rfl) rfl ?_
      simp only [List.take_succ_cons, List.take_zero, List.drop_succ_cons, List.drop_zero, List.take_nil, List.drop_nil]
      refine wr_x (ox_move rfl rfl) rfl rfl ?_
      refine wr_x (ox_move rfl rfl) rfl rfl ?_
      refine wr_x (ox_lss rfl rfl rfl) rfl rfl ?_
      refine wr_x (ox_move rfl rfl) rfl rfl ?_
      refine wr_split (t := 20) rfl (fun hle => ?_) (fun hle => ?_)
      · skip
        refine wr_gx (ox_move rfl rfl) rfl rfl rfl rfl ?_
        refine wr_gx (ox_move rfl rfl) rfl rfl rfl rfl ?_
        first | refine wr_gx (ox_index i1 rfl Try.underlying23 el3 rfl rfl (by omega) (by omega)) rfl rfl rfl rfl ?_ | refine wr_gx (ox_indexR i1 (hO0.rd (.head _)) rfl Try.underlying23 el3 rfl rfl (by omega) (by omega)) rfl rfl rfl rfl ?_
        refine wr_gx (ox_load rfl Try.underlying3 rfl rfl (by first | exact hO0.get (.head _) (by omega))) rfl rfl rfl rfl ?_
        refine wr_gx (ox_move rfl rfl) rfl rfl rfl rfl ?_
        refine wr_gx (ox_move rfl rfl) rfl rfl rfl rfl ?_
        refine wr_gx (ox_sub rfl rfl rfl (by omega)) rfl rfl rfl rfl ?_
        first | refine wr_gx (ox_index (i1 - 1) rfl Try.underlying23 el3 rfl rfl (by omega) (by omega)) rfl rfl rfl rfl ?_ | refine wr_gx (ox_indexR (i1 - 1) (hO0.rd (.head _)) rfl Try.underlying23 el3 rfl rfl (by omega) (by omega)) rfl rfl rfl rfl ?_
        refine wr_gx (ox_load rfl Try.underlying3 rfl rfl (by first | exact hO0.get (.head _) (by omega))) rfl rfl rfl rfl ?_
        refine wr_nil ?_
        refine wl_gx (ox_call rfl Try.call59 rfl (less_ok _ _ _ _)) rfl rfl rfl rfl rfl rfl ?_
        refine wl_gx (ox_not rfl rfl) rfl rfl rfl rfl rfl rfl ?_
        refine wl_x (ox_pick_t rfl rfl rfl) rfl rfl rfl ?_
        refine wl_nil ?_
        refine nx_then ?_
        refine ws_cond rfl (fun hp => ?_) (fun hp => ?_)
        · skip
          refine ws_skip ?_
          refine nx_then ?_
          refine ws_block ?_
          refine ws_region ?_
          refine wl_x (ox_move rfl rfl) rfl rfl rfl ?_
          refine wl_x (ox_add rfl rfl rfl (by omega)) rfl rfl rfl ?_
          refine wl_x (ox_assign rfl rfl) rfl rfl rfl ?_
          refine wl_nil ?_
          refine nx_block ?_
          refine nx_round (b - (i1 + 1)) _ (by omega) ⟨i1 + 1, z + 1, rfl, rfl, rfl, rfl, by omega, by omega, by omega, by rw [← hS]; exact (scanSorted_step (by omega) hp).symm⟩ (by repeat (first | exact trivial | refine ⟨rfl, ?_⟩))
        · skip
          refine ws_exit ?_
          refine nx_then_exit ?_
          refine nx_then_exit ?_
          refine nx_block_exit ?_
          refine nx_meet _ ⟨i1, z, rfl, rfl, rfl, hz, hi1, hi1b, by rw [← hS]; exact (scanSorted_stop (.inr hp)).symm⟩ (by repeat (first | exact trivial | refine ⟨rfl, ?_⟩))
      · skip
        refine wr_skip rfl rfl rfl rfl rfl ?_
        refine wr_skip rfl rfl rfl rfl rfl ?_
        refine wr_skip rfl rfl rfl rfl rfl ?_
        refine wr_skip rfl rfl rfl rfl rfl ?_
        refine wr_skip rfl rfl rfl rfl rfl ?_
        refine wr_skip rfl rfl rfl rfl rfl ?_
        refine wr_skip rfl rfl rfl rfl rfl ?_
        refine wr_skip rfl rfl rfl rfl rfl ?_
        refine wr_skip rfl rfl rfl rfl rfl ?_
        refine wr_nil ?_
        refine wl_skip rfl rfl rfl rfl rfl rfl rfl ?_
        refine wl_skip rfl rfl rfl rfl rfl rfl rfl ?_
        refine wl_x (ox_pick_f rfl rfl rfl) rfl rfl rfl ?_
        refine wl_nil ?_
        refine nx_then ?_
        refine ws_cond_f rfl ?_
        refine ws_exit ?_
        refine nx_then_exit ?_
        refine nx_then_exit ?_
        refine nx_block_exit ?_
        refine nx_meet _ ⟨i1, z, rfl, rfl, rfl, hz, hi1, hi1b, by rw [← hS]; exact (scanSorted_stop (.inl (by omega))).symm⟩ (by repeat (first | exact trivial | refine ⟨rfl, ?_⟩))
    · skip
      obtain ⟨i2, z, rfl, rfl, rfl, hz, hi2, hi2b, hu⟩ := hI
      refine ws_seq ?_
      refine ws_seq ?_
      refine ws_region ?_
      refine wl_x (ox_move rfl rfl) rfl rfl rfl ?_
      refine wl_x (ox_move rfl rfl) rfl rfl rfl ?_
      refine wl_x (ox_eqi rfl rfl rfl) rfl rfl rfl ?_
      refine wl_nil ?_
      refine nx_then ?_
      refine ws_if rfl (fun heq => ?_) (fun heq => ?_)
      · skip
        refine ws_seq ?_
        refine ws_region ?_
        refine wl_x (ox_assign rfl rfl) rfl rfl rfl ?_
        refine wl_nil ?_
        refine nx_then ?_
        refine ws_ret ?_
        refine nx_then_ret ?_
        refine nx_block_ret ?_
        refine nx_then_ret ?_
        refine nx_then_ret ?_
        refine nx_block_ret ?_
        refine nx_then_ret ?_
        have hE : partialIns ltInt a b (sn + 1) i d0 = (d0, true) := by unfold partialIns; simp only [← hu]; rw [if_pos (by omega)]
        rw [← hR, hE]
        exact nx_ret1 rfl rfl (⟨rfl, rfl, m0, rfl, hO0⟩)
      · skip
        refine ws_skip ?_
        refine nx_then ?_
        refine ws_seq ?_
        refine ws_seq ?_
        refine ws_region ?_
        refine wl_x (ox_move rfl rfl) rfl rfl rfl ?_
        refine wl_x (ox_move rfl rfl) rfl rfl rfl ?_
        refine wl_x (ox_sub rfl rfl rfl (by omega)) rfl rfl rfl ?_
        refine wl_x (ox_lss rfl rfl rfl) rfl rfl rfl ?_
        refine wl_nil ?_
        refine nx_then ?_
        refine ws_if rfl (fun h50 => ?_) (fun h50 => ?_)
        · skip
          refine ws_seq ?_
          refine ws_region ?_
          refine wl_x (ox_assign rfl rfl) rfl rfl rfl ?_
          refine wl_nil ?_
          refine nx_then ?_
          refine ws_ret ?_
          refine nx_then_ret ?_
          refine nx_block_ret ?_
          refine nx_then_ret ?_
          refine nx_then_ret ?_
          refine nx_block_ret ?_
          refine nx_then_ret ?_
          have hE : partialIns ltInt a b (sn + 1) i d0 = (d0, false) := by unfold partialIns; simp only [← hu]; rw [if_neg (by omega), if_pos (by omega)]
          rw [← hR, hE]
          exact nx_ret1 rfl rfl (⟨rfl, rfl, m0, rfl, hO0⟩)
        · skip
          refine ws_skip ?_
          refine nx_then ?_
          refine ws_seq ?_
          refine ws_drawP 14 [false, false, true, true, true] fol (by kernel_rfl) (by kernel_rfl) (by kernel_rfl) ?_
          refine pz_x rfl rfl rfl rfl (px_move rfl rfl) ?_
          refine pz_x rfl rfl rfl rfl (px_move rfl rfl) ?_
          refine pz_x rfl rfl rfl rfl (px_sub rfl rfl rfl (by omega)) ?_
          refine ⟨rfl, ?_⟩
          simp only [zapL, zap, List.cons_append, List.nil_append, List.take_succ_cons, List.take_zero, List.drop_succ_cons, List.drop_zero, List.take_nil, List.drop_nil]
          refine wr_x (ox_move rfl rfl) rfl rfl ?_
          refine wr_x (ox_move rfl rfl) rfl rfl ?_
          refine wr_z rfl rfl rfl ?_
          refine wr_z rfl rfl rfl ?_
          refine wr_z rfl rfl rfl ?_
          refine wr_x (ox_move rfl rfl) rfl rfl ?_
          refine wr_x (ox_move rfl rfl) rfl rfl ?_
          refine wr_x (ox_sub rfl rfl rfl (by omega)) rfl rfl ?_
          first | refine wr_x (ox_index (i2 - 1) rfl Try.underlying23 el3 rfl rfl (by omega) (by omega)) rfl rfl ?_ | refine wr_x (ox_indexR (i2 - 1) (hO0.rd (.head _)) rfl Try.underlying23 el3 rfl rfl (by omega) (by omega)) rfl rfl ?_
          refine wr_x (ox_load rfl Try.underlying3 rfl rfl (by first | exact hO0.get (.head _) (by omega))) rfl rfl ?_
          refine wr_x (ox_move rfl rfl) rfl rfl ?_
          refine wr_x (ox_move rfl rfl) rfl rfl ?_
          first | refine wr_x (ox_index i2 rfl Try.underlying23 el3 rfl rfl (by omega) (by omega)) rfl rfl ?_ | refine wr_x (ox_indexR i2 (hO0.rd (.head _)) rfl Try.underlying23 el3 rfl rfl (by omega) (by omega)) rfl rfl ?_
          refine wr_x (ox_load rfl Try.underlying3 rfl rfl (by first | exact hO0.get (.head _) (by omega))) rfl rfl ?_
          refine wr_nil ?_
          first | refine wl_x (ox_index i2 rfl Try.underlying23 el3 rfl rfl (by omega) (by omega)) rfl rfl rfl ?_ | refine wl_x (ox_indexR i2 (hO0.rd (.head _)) rfl Try.underlying23 el3 rfl rfl (by omega) (by omega)) rfl rfl rfl ?_
          refine wl_storeI 0 _ hO0 rfl el3 rfl rfl rfl (by omega) rfl rfl (fun mhO1 hzhO1 hO1 => ?_)
          first | refine wl_x (ox_index (i2 - 1) rfl Try.underlying23 el3 rfl rfl (by omega) (by omega)) rfl rfl rfl ?_ | refine wl_x (ox_indexR (i2 - 1) (hO1.rd (.head _)) rfl Try.underlying23 el3 rfl rfl (by omega) (by omega)) rfl rfl rfl ?_
          refine wl_storeI 0 _ hO1 rfl el3 rfl rfl rfl (by omega) rfl rfl (fun mhO2 hzhO2 hO2 => ?_)
          refine wl_nil ?_
          refine nx_q0 ?_
          refine nx_then ?_
          have hE : partialIns ltInt a b (sn + 1) i d0 = partialIns ltInt a b sn i2 (if b - i2 ≥ 2 then shiftUp ltInt b (i2 + 1) (if i2 - a ≥ 2 then shiftDown ltInt (i2 - 1) (swp d0 i2 (i2 - 1)) else swp d0 i2 (i2 - 1)) else (if i2 - a ≥ 2 then shiftDown ltInt (i2 - 1) (swp d0 i2 (i2 - 1)) else swp d0 i2 (i2 - 1))) := by
            conv => lhs; unfold partialIns
            simp only [← hu]; rw [if_neg (by omega), if_neg (by omega)]
          rw [hE] at hR
          obtain ⟨d1, hd1⟩ : ∃ d1, d1 = swp d0 i2 (i2 - 1) := ⟨_, rfl⟩
          have hOd : OI mhO2 v d1 := by rw [hd1]; exact hO2
          have hds1 : d1.size = d.size := by rw [hd1, size_swp]; exact hds
          rw [← hd1] at hR
          obtain ⟨m1, rfl⟩ : ∃ m, m = mhO2 := ⟨_, rfl⟩
          clear hE hd1 hO2 hzhO2
          refine ws_cut (fun s h' ms' => ∃ (d' : Array Int) (m : Hp), s = [(0, v), (1, .int .i64 a), (2, .int .i64 b), (7, .int .i64 z), (8, .int .i64 x)] ∧ h = h' ∧ ms' = [m] ∧ OI m v d' ∧ d' = (if i2 - a ≥ 2 then shiftDown ltInt (i2 - 1) d1 else d1)) ?_ (fun s h ms hI => ?_)
          · skip
            refine ws_seq ?_
            refine ws_region ?_
            refine wl_x (ox_move rfl rfl) rfl rfl rfl ?_
            refine wl_x (ox_move rfl rfl) rfl rfl rfl ?_
            refine wl_x (ox_sub rfl rfl rfl (by omega)) rfl rfl rfl ?_
            refine wl_x (ox_geq rfl rfl rfl) rfl rfl rfl ?_
            refine wl_nil ?_
            refine nx_then ?_
            refine ws_if rfl (fun h2 => ?_) (fun h2 => ?_)
            · skip
              refine ws_seq ?_
              refine ws_region ?_
              refine wl_x (ox_move rfl rfl) rfl rfl rfl ?_
              refine wl_x (ox_sub rfl rfl rfl (by omega)) rfl rfl rfl ?_
              refine wl_x (ox_assign rfl rfl) rfl rfl rfl ?_
              refine wl_nil ?_
              refine nx_then ?_
              refine ws_block ?_
              rw [if_pos (by omega)]
              refine ws_loop (fun n s h' ms' => ∃ (w : Int) (d' : Array Int) (m : Hp), s = [(0, v), (1, .int .i64 a), (2, .int .i64 b), (7, .int .i64 z), (8, .int .i64 x), (9, .int .i64 w)] ∧ h = h' ∧ ms' = [m] ∧ w = n ∧ n < i2 ∧ OI m v d' ∧ d'.size = d.size ∧ shiftDown ltInt n d' = shiftDown ltInt (i2 - 1) d1)
                (i2 - 1) _ ⟨z - 1, d1, m1, rfl, rfl, rfl, by omega, by omega, hOd, hds1, rfl⟩ (by repeat (first | exact trivial | refine ⟨rfl, ?_⟩)) ?_
              clear hO0 hds
              rintro n s h' ms' ⟨w, d0, m0, rfl, rfl, rfl, hw, hni, hO0, hds, hRd⟩
              refine ws_seq ?_
              refine ws_seq ?_
              refine ws_region ?_
              refine wl_x (ox_move rfl rfl) rfl rfl rfl ?_
              refine wl_x (ox_geq rfl rfl rfl) rfl rfl rfl ?_
              refine wl_nil ?_
              refine nx_then ?_
              refine ws_if rfl (fun hge => ?_) (fun hge => ?_)
              · skip
                obtain ⟨j, rfl⟩ : ∃ j, n = j + 1 := ⟨n - 1, by omega⟩
                refine ws_skip ?_
                refine nx_then ?_
                refine ws_seq ?_
                refine ws_block ?_
                refine ws_seq ?_
                refine ws_seq ?_
                refine ws_draw 9 fol (by kernel_rfl) rfl ?_
                simp only [List.take_succ_cons, List.take_zero, List.drop_succ_cons, List.drop_zero, List.take_nil, List.drop_nil]
                refine wr_x (ox_move rfl rfl) rfl rfl ?_
                refine wr_x (ox_move rfl rfl) rfl rfl ?_
                first | refine wr_x (ox_index (j + 1) rfl Try.underlying23 el3 rfl rfl (by omega) (by omega)) rfl rfl ?_ | refine wr_x (ox_indexR (j + 1) (hO0.rd (.head _)) rfl Try.underlying23 el3 rfl rfl (by omega) (by omega)) rfl rfl ?_
                refine wr_x (ox_load rfl Try.underlying3 rfl rfl (by first | exact hO0.get (.head _) (by omega))) rfl rfl ?_
                refine wr_x (ox_move rfl rfl) rfl rfl ?_
                refine wr_x (ox_move rfl rfl) rfl rfl ?_
                refine wr_x (ox_sub rfl rfl rfl (by omega)) rfl rfl ?_
                first | refine wr_x (ox_index ((j + 1) - 1) rfl Try.underlying23 el3 rfl rfl (by omega) (by omega)) rfl rfl ?_ | refine wr_x (ox_indexR ((j + 1) - 1) (hO0.rd (.head _)) rfl Try.underlying23 el3 rfl rfl (by omega) (by omega)) rfl rfl ?_
                refine wr_x (ox_load rfl Try.underlying3 rfl rfl (by first | exact hO0.get (.head _) (by omega))) rfl rfl ?_
                refine wr_nil ?_
                refine wl_x (ox_call rfl Try.call59 rfl (less_ok _ _ _ _)) rfl rfl rfl ?_
                refine wl_x (ox_not rfl rfl) rfl rfl rfl ?_
                refine wl_nil ?_
                refine nx_then ?_
                refine ws_cond rfl (fun hl => ?_) (fun hl => ?_)
                · skip
                  refine ws_exit ?_
                  refine nx_then_exit ?_
                  refine nx_block_out rfl ?_
                  refine nx_then_exit ?_
                  refine nx_then_exit ?_
                  refine nx_block_exit ?_
                  refine nx_meet _ ⟨d0, m0, rfl, rfl, rfl, hO0, by rw [← hRd]; unfold shiftDown; rw [if_pos (show (!ltInt d0[j + 1]! d0[j]!) = true from hl)]⟩ (by repeat (first | exact trivial | refine ⟨rfl, ?_⟩))
                · skip
                  refine ws_skip ?_
                  refine nx_then ?_
                  refine ws_drawP 14 [false, false, true, true, true] fol (by kernel_rfl) (by kernel_rfl) (by kernel_rfl) ?_
                  refine pz_x rfl rfl rfl rfl (px_move rfl rfl) ?_
                  refine pz_x rfl rfl rfl rfl (px_move rfl rfl) ?_
                  refine pz_x rfl rfl rfl rfl (px_sub rfl rfl rfl (by omega)) ?_
                  refine ⟨rfl, ?_⟩
                  simp only [zapL, zap, List.cons_append, List.nil_append, List.take_succ_cons, List.take_zero, List.drop_succ_cons, List.drop_zero, List.take_nil, List.drop_nil]
                  refine wr_x (ox_move rfl rfl) rfl rfl ?_
                  refine wr_x (ox_move rfl rfl) rfl rfl ?_
                  refine wr_z rfl rfl rfl ?_
                  refine wr_z rfl rfl rfl ?_
                  refine wr_z rfl rfl rfl ?_
                  refine wr_x (ox_move rfl rfl) rfl rfl ?_
                  refine wr_x (ox_move rfl rfl) rfl rfl ?_
                  refine wr_x (ox_sub rfl rfl rfl (by omega)) rfl rfl ?_
                  first | refine wr_x (ox_index ((j + 1) - 1) rfl Try.underlying23 el3 rfl rfl (by omega) (by omega)) rfl rfl ?_ | refine wr_x (ox_indexR ((j + 1) - 1) (hO0.rd (.head _)) rfl Try.underlying23 el3 rfl rfl (by omega) (by omega)) rfl rfl ?_
                  refine wr_x (ox_load rfl Try.underlying3 rfl rfl (by first | exact hO0.get (.head _) (by omega))) rfl rfl ?_
                  refine wr_x (ox_move rfl rfl) rfl rfl ?_
                  refine wr_x (ox_move rfl rfl) rfl rfl ?_
                  first | refine wr_x (ox_index (j + 1) rfl Try.underlying23 el3 rfl rfl (by omega) (by omega)) rfl rfl ?_ | refine wr_x (ox_indexR (j + 1) (hO0.rd (.head _)) rfl Try.underlying23 el3 rfl rfl (by omega) (by omega)) rfl rfl ?_
                  refine wr_x (ox_load rfl Try.underlying3 rfl rfl (by first | exact hO0.get (.head _) (by omega))) rfl rfl ?_
                  refine wr_nil ?_
                  first | refine wl_x (ox_index (j + 1) rfl Try.underlying23 el3 rfl rfl (by omega) (by omega)) rfl rfl rfl ?_ | refine wl_x (ox_indexR (j + 1) (hO0.rd (.head _)) rfl Try.underlying23 el3 rfl rfl (by omega) (by omega)) rfl rfl rfl ?_
                  refine wl_storeI 0 _ hO0 rfl el3 rfl rfl rfl (by omega) rfl rfl (fun mhO1 hzhO1 hO1 => ?_)
                  first | refine wl_x (ox_index ((j + 1) - 1) rfl Try.underlying23 el3 rfl rfl (by omega) (by omega)) rfl rfl rfl ?_ | refine wl_x (ox_indexR ((j + 1) - 1) (hO1.rd (.head _)) rfl Try.underlying23 el3 rfl rfl (by omega) (by omega)) rfl rfl rfl ?_
                  refine wl_storeI 0 _ hO1 rfl el3 rfl rfl rfl (by omega) rfl rfl (fun mhO2 hzhO2 hO2 => ?_)
                  refine wl_nil ?_
                  refine nx_q0 ?_
                  refine nx_block ?_
                  refine nx_then ?_
                  refine ws_region ?_
                  refine wl_x (ox_move rfl rfl) rfl rfl rfl ?_
                  refine wl_x (ox_sub rfl rfl rfl (by omega)) rfl rfl rfl ?_
                  refine wl_x (ox_assign rfl rfl) rfl rfl rfl ?_
                  refine wl_nil ?_
                  refine nx_round j _ (by omega) ⟨w - 1, _, mhO2, rfl, rfl, rfl, by omega, by omega, hO2, by omega, ?_⟩ (by repeat (first | exact trivial | refine ⟨rfl, ?_⟩))
                  rw [← hRd]; conv => rhs; unfold shiftDown
                  rw [if_neg (by rw [show (!ltInt d0[j + 1]! d0[j]!) = false from hl]; decide)]; rfl
              · skip
                refine ws_exit ?_
                refine nx_then_exit ?_
                refine nx_then_exit ?_
                refine nx_block_exit ?_
                have hn0 : n = 0 := by omega
                subst hn0
                refine nx_meet _ ⟨d0, m0, rfl, rfl, rfl, hO0, by rw [← hRd]; rfl⟩ (by repeat (first | exact trivial | refine ⟨rfl, ?_⟩))
            · skip
              refine ws_skip ?_
              refine nx_meet _ ⟨d1, m1, rfl, rfl, rfl, hOd, by rw [if_neg (by omega)]⟩ (by repeat (first | exact trivial | refine ⟨rfl, ?_⟩))
          · skip
            obtain ⟨d2, m2, rfl, rfl, rfl, hO0', hd2⟩ := hI
            have hds2 : d2.size = d.size := by rw [hd2]; split; · rw [shiftDown_size]; exact hds1
                                               · exact hds1
            rw [← hd2] at hR
            clear hd2 hOd hds1 hO0 hds
            refine ws_seq ?_
            refine ws_region ?_
            refine wl_x (ox_move rfl rfl) rfl rfl rfl ?_
            refine wl_x (ox_move rfl rfl) rfl rfl rfl ?_
            refine wl_x (ox_sub rfl rfl rfl (by omega)) rfl rfl rfl ?_
            refine wl_x (ox_geq rfl rfl rfl) rfl rfl rfl ?_
            refine wl_nil ?_
            refine nx_then ?_
            refine ws_if rfl (fun h2 => ?_) (fun h2 => ?_)
            · skip
              refine ws_seq ?_
              refine ws_region ?_
              refine wl_x (ox_move rfl rfl) rfl rfl rfl ?_
              refine wl_x (ox_add rfl rfl rfl (by omega)) rfl rfl rfl ?_
              refine wl_x (ox_assign rfl rfl) rfl rfl rfl ?_
              refine wl_nil ?_
              refine nx_then ?_
              refine ws_block ?_
              rw [if_pos (by omega)] at hR
              refine ws_loop (fun n s h' ms' => ∃ (j : Nat) (w : Int) (d' : Array Int) (m : Hp), n = b - j ∧ s = [(0, v), (1, .int .i64 a), (2, .int .i64 b), (7, .int .i64 z), (8, .int .i64 x), (10, .int .i64 w)] ∧ h = h' ∧ ms' = [m] ∧ w = j ∧ i2 < j ∧ j ≤ b ∧ OI m v d' ∧ d'.size = d.size ∧ shiftUp ltInt b j d' = shiftUp ltInt b (i2 + 1) d2)
                _ _ ⟨i2 + 1, z + 1, d2, m2, rfl, rfl, rfl, rfl, by omega, by omega, by omega, hO0', hds2, rfl⟩ (by repeat (first | exact trivial | refine ⟨rfl, ?_⟩)) ?_
              rintro n s h' ms' ⟨j, w, d0, m0, rfl, rfl, rfl, rfl, hw, hij, hjb, hO0, hds, hRd⟩
              rw [← hRd] at hR
              refine ws_seq ?_
              refine ws_seq ?_
              refine ws_region ?_
              refine wl_x (ox_move rfl rfl) rfl rfl rfl ?_
              refine wl_x (ox_move rfl rfl) rfl rfl rfl ?_
              refine wl_x (ox_lss rfl rfl rfl) rfl rfl rfl ?_
              refine wl_nil ?_
              refine nx_then ?_
              refine ws_if rfl (fun hge => ?_) (fun hge => ?_)
              · skip
                refine ws_skip ?_
                refine nx_then ?_
                refine ws_seq ?_
                refine ws_block ?_
                refine ws_seq ?_
                refine ws_seq ?_
                refine ws_draw 9 fol (by kernel_rfl) rfl ?_
                simp only [List.take_succ_cons, List.take_zero, List.drop_succ_cons, List.drop_zero, List.take_nil, List.drop_nil]
                refine wr_x (ox_move rfl rfl) rfl rfl ?_
                refine wr_x (ox_move rfl rfl) rfl rfl ?_
                first | refine wr_x (ox_index j rfl Try.underlying23 el3 rfl rfl (by omega) (by omega)) rfl rfl ?_ | refine wr_x (ox_indexR j (hO0.rd (.head _)) rfl Try.underlying23 el3 rfl rfl (by omega) (by omega)) rfl rfl ?_
                refine wr_x (ox_load rfl Try.underlying3 rfl rfl (by first | exact hO0.get (.head _) (by omega))) rfl rfl ?_
                refine wr_x (ox_move rfl rfl) rfl rfl ?_
                refine wr_x (ox_move rfl rfl) rfl rfl ?_
                refine wr_x (ox_sub rfl rfl rfl (by omega)) rfl rfl ?_
                first | refine wr_x (ox_index (j - 1) rfl Try.underlying23 el3 rfl rfl (by omega) (by omega)) rfl rfl ?_ | refine wr_x (ox_indexR (j - 1) (hO0.rd (.head _)) rfl Try.underlying23 el3 rfl rfl (by omega) (by omega)) rfl rfl ?_
                refine wr_x (ox_load rfl Try.underlying3 rfl rfl (by first | exact hO0.get (.head _) (by omega))) rfl rfl ?_
                refine wr_nil ?_
                refine wl_x (ox_call rfl Try.call59 rfl (less_ok _ _ _ _)) rfl rfl rfl ?_
                refine wl_x (ox_not rfl rfl) rfl rfl rfl ?_
                refine wl_nil ?_
                refine nx_then ?_
                refine ws_cond rfl (fun hl => ?_) (fun hl => ?_)
                · skip
                  refine ws_exit ?_
                  refine nx_then_exit ?_
                  refine nx_block_out rfl ?_
                  refine nx_then_exit ?_
                  refine nx_then_exit ?_
                  refine nx_block_exit ?_
                  refine nx_block ?_
                  refine nx_then ?_
                  refine ws_region ?_
                  refine wl_x (ox_move rfl rfl) rfl rfl rfl ?_
                  refine wl_x (ox_add rfl rfl rfl (by omega)) rfl rfl rfl ?_
                  refine wl_x (ox_assign rfl rfl) rfl rfl rfl ?_
                  refine wl_nil ?_
                  refine nx_round sn _ (by omega) ⟨i2, z, x + 1, d0, m0, rfl, rfl, rfl, by omega, by omega, by omega, by omega, by omega, hO0, hds, by rw [← hR]; conv => rhs; unfold shiftUp; rw [if_pos (show j < b by omega), if_pos hl]⟩ (by repeat (first | exact trivial | refine ⟨rfl, ?_⟩))
                · skip
                  refine ws_skip ?_
                  refine nx_then ?_
                  refine ws_drawP 14 [false, false, true, true, true] fol (by kernel_rfl) (by kernel_rfl) (by kernel_rfl) ?_
                  refine pz_x rfl rfl rfl rfl (px_move rfl rfl) ?_
                  refine pz_x rfl rfl rfl rfl (px_move rfl rfl) ?_
                  refine pz_x rfl rfl rfl rfl (px_sub rfl rfl rfl (by omega)) ?_
                  refine ⟨rfl, ?_⟩
                  simp only [zapL, zap, List.cons_append, List.nil_append, List.take_succ_cons, List.take_zero, List.drop_succ_cons, List.drop_zero, List.take_nil, List.drop_nil]
                  refine wr_x (ox_move rfl rfl) rfl rfl ?_
                  refine wr_x (ox_move rfl rfl) rfl rfl ?_
                  refine wr_z rfl rfl rfl ?_
                  refine wr_z rfl rfl rfl ?_
                  refine wr_z rfl rfl rfl ?_
                  refine wr_x (ox_move rfl rfl) rfl rfl ?_
                  refine wr_x (ox_move rfl rfl) rfl rfl ?_
                  refine wr_x (ox_sub rfl rfl rfl (by omega)) rfl rfl ?_
                  first | refine wr_x (ox_index (j - 1) rfl Try.underlying23 el3 rfl rfl (by omega) (by omega)) rfl rfl ?_ | refine wr_x (ox_indexR (j - 1) (hO0.rd (.head _)) rfl Try.underlying23 el3 rfl rfl (by omega) (by omega)) rfl rfl ?_
                  refine wr_x (ox_load rfl Try.underlying3 rfl rfl (by first | exact hO0.get (.head _) (by omega))) rfl rfl ?_
                  refine wr_x (ox_move rfl rfl) rfl rfl ?_
                  refine wr_x (ox_move rfl rfl) rfl rfl ?_
                  first | refine wr_x (ox_index j rfl Try.underlying23 el3 rfl rfl (by omega) (by omega)) rfl rfl ?_ | refine wr_x (ox_indexR j (hO0.rd (.head _)) rfl Try.underlying23 el3 rfl rfl (by omega) (by omega)) rfl rfl ?_
                  refine wr_x (ox_load rfl Try.underlying3 rfl rfl (by first | exact hO0.get (.head _) (by omega))) rfl rfl ?_
                  refine wr_nil ?_
                  first | refine wl_x (ox_index j rfl Try.underlying23 el3 rfl rfl (by omega) (by omega)) rfl rfl rfl ?_ | refine wl_x (ox_indexR j (hO0.rd (.head _)) rfl Try.underlying23 el3 rfl rfl (by omega) (by omega)) rfl rfl rfl ?_
                  refine wl_storeI 0 _ hO0 rfl el3 rfl rfl rfl (by omega) rfl rfl (fun mhO1 hzhO1 hO1 => ?_)
                  first | refine wl_x (ox_index (j - 1) rfl Try.underlying23 el3 rfl rfl (by omega) (by omega)) rfl rfl rfl ?_ | refine wl_x (ox_indexR (j - 1) (hO1.rd (.head _)) rfl Try.underlying23 el3 rfl rfl (by omega) (by omega)) rfl rfl rfl ?_
                  refine wl_storeI 0 _ hO1 rfl el3 rfl rfl rfl (by omega) rfl rfl (fun mhO2 hzhO2 hO2 => ?_)
                  refine wl_nil ?_
                  refine nx_q0 ?_
                  refine nx_block ?_
                  refine nx_then ?_
                  refine ws_region ?_
                  refine wl_x (ox_move rfl rfl) rfl rfl rfl ?_
                  refine wl_x (ox_add rfl rfl rfl (by omega)) rfl rfl rfl ?_
                  refine wl_x (ox_assign rfl rfl) rfl rfl rfl ?_
                  refine wl_nil ?_
                  refine nx_round (b - (j + 1)) _ (by omega) ⟨j + 1, w + 1, _, mhO2, rfl, rfl, rfl, rfl, by omega, by omega, by omega, hO2, by omega, ?_⟩ (by repeat (first | exact trivial | refine ⟨rfl, ?_⟩))
                  rw [← hRd]; conv => rhs; unfold shiftUp
                  rw [if_pos (show j < b by omega), if_neg (by rw [show (!ltInt d0[j]! d0[j - 1]!) = false from hl]; decide)]; rfl
              · skip
                refine ws_exit ?_
                refine nx_then_exit ?_
                refine nx_then_exit ?_
                refine nx_block_exit ?_
                refine nx_block ?_
                refine nx_then ?_
                refine ws_region ?_
                refine wl_x (ox_move rfl rfl) rfl rfl rfl ?_
                refine wl_x (ox_add rfl rfl rfl (by omega)) rfl rfl rfl ?_
                refine wl_x (ox_assign rfl rfl) rfl rfl rfl ?_
                refine wl_nil ?_
                refine nx_round sn _ (by omega) ⟨i2, z, x + 1, d0, m0, rfl, rfl, rfl, by omega, by omega, by omega, by omega, by omega, hO0, hds, by rw [← hR]; conv => rhs; unfold shiftUp; rw [if_neg (show ¬ j < b by omega)]⟩ (by repeat (first | exact trivial | refine ⟨rfl, ?_⟩))
            · skip
              refine ws_skip ?_
              refine nx_block ?_
              refine nx_then ?_
              refine ws_region ?_
              refine wl_x (ox_move rfl rfl) rfl rfl rfl ?_
              refine wl_x (ox_add rfl rfl rfl (by omega)) rfl rfl rfl ?_
              refine wl_x (ox_assign rfl rfl) rfl rfl rfl ?_
              refine wl_nil ?_
              rw [if_neg (by omega)] at hR
              refine nx_round sn _ (by omega) ⟨i2, z, x + 1, d2, m2, rfl, rfl, rfl, by omega, by omega, by omega, by omega, by omega, hO0', hds2, hR⟩ (by repeat (first | exact trivial | refine ⟨rfl, ?_⟩))
  · skip
    refine ws_exit ?_
    refine nx_then_exit ?_
    refine nx_then_exit ?_
    refine nx_block_exit ?_
    refine nx_then ?_
    refine ws_seq ?_
    refine ws_region ?_
    refine wl_x (ox_assign rfl rfl) rfl rfl rfl ?_
    refine wl_nil ?_
    refine nx_then ?_
    refine ws_ret ?_
    have hn0 : n = 0 := by omega
    subst hn0
    have hE : (d0, false) = partialInsertionSort ltInt d a b := hR
    rw [← hE]
    exact nx_ret1 rfl rfl (⟨rfl, rfl, m0, rfl, hO0⟩)
end Go.Proofs.Ythdkhnjnhhofgaa
