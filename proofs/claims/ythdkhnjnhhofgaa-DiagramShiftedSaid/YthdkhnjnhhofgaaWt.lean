/- Walks: for all lists, Distance2 returns what the reference model returns. -/
import Derived.Test.YthdkhnjnhhofgaaWs
set_option linter.unusedSimpArgs false
set_option linter.unusedVariables false
set_option maxRecDepth 100000
namespace Go.Proofs.Ythdkhnjnhhofgaa
open Go.Eng Go.RowKit Go.Kuhn

theorem distances_ok (l m : List Tri) (q : List Int) (vl vm vq : Value) (h : Hp) (hl : RdL cT 3 h [] vl l) (hm : RdL cT 3 h [] vm m) (hq : RdL cI 1 h [] vq q) (hL : ∀ t ∈ l, TOk t) (hM : ∀ t ∈ m, TOk t) (hQ : ∀ n ∈ q, I64 n) :
    FnT Try.prog 3 #[vl, vm, vq] h [] (fun r _ _ => r = .bool true) := by
  refine fn_enter Try.func3 Try.ntmps3 rfl rfl (fun w0 hw0 => ?_)
  simp only [argS]
  refine ws_seq ?_
  refine ws_region ?_
  refine wl_x (ox_assign rfl rfl) rfl rfl rfl ?_
  refine wl_nil ?_
  refine nx_then ?_
  refine ws_seq ?_
  refine ws_region ?_
  refine wl_x (ox_call rfl Try.call9 rfl (sanity_ok _ _)) rfl rfl rfl ?_
  refine wl_x (ox_assign rfl rfl) rfl rfl rfl ?_
  refine wl_nil ?_
  refine nx_then ?_
  refine ws_seq ?_
  refine ws_region ?_
  refine wl_x (ox_move rfl rfl) rfl rfl rfl ?_
  refine wl_call rfl Try.call10 rfl (made_ok l vl h hl hL) rfl rfl rfl (fun va h1 _ l1 hF => ?_)
  obtain ⟨rfl, hRa⟩ := hF
  obtain ⟨la, ba⟩ := made_bd l
  refine wl_x (ox_assign rfl rfl) rfl rfl rfl ?_
  refine wl_nil ?_
  refine nx_then ?_
  refine ws_seq ?_
  refine ws_region ?_
  refine wl_x (ox_move rfl rfl) rfl rfl rfl ?_
  refine wl_call rfl Try.call10 rfl (made_ok m vm h1 (hm.up l1) hM) rfl rfl rfl (fun vb h2 _ l2 hF => ?_)
  obtain ⟨rfl, hRb⟩ := hF
  obtain ⟨lb, bb⟩ := made_bd m
  refine wl_x (ox_move rfl rfl) rfl rfl rfl ?_
  refine wl_x (ox_move rfl rfl) rfl rfl rfl ?_
  refine wl_call rfl Try.call11 rfl (moved_ok 2000000 (made l) q va vq h2 (hRa.up l2) (hq.up (Hp.le_trans l1 l2)) (by omega) (by omega) ba hQ) rfl rfl rfl (fun vc h3 _ l3 hF => ?_)
  obtain ⟨rfl, c, hRc, bc, lc⟩ := hF
  have hRa := hRa.up (Hp.le_trans l2 l3)
  have hRb := hRb.up l3
  generalize made l = a at *
  generalize made m = b at *
  refine wl_x (ox_buildA [.slice none 0 0, .slice none 0 0] [(0, [_]), (1, [_])] [_, _] rfl Try.underlying28 el28 rfl el25 rfl (by repeat (first | exact trivial | refine ⟨⟨by first | rfl | exact (hRb.rd).cells | exact (hRc.rd).cells | exact Rd.cells ‹_› | exact (RdL.rd ‹_›).cells, rfl, rfl⟩, ?_⟩)) rfl) rfl rfl rfl ?_
  refine wl_alloc [.slice none 0 0, .slice none 0 0] rfl el28 rfl rfl rfl rfl (fun g9 => ?_)
  first | refine wl_storeAll 0 [_, _] rfl el28 rfl rfl rfl (by first | (simp [Value.oneCell']; done) | (simp [(hRb.rd).one, (hRc.rd).one]; done) | simp [Value.oneCell', (hRb.rd).one, (hRc.rd).one]) rfl rfl rfl rfl rfl ?_ | refine wl_storeAll 1 [_, _] rfl el28 rfl rfl rfl (by first | (simp [Value.oneCell']; done) | (simp [(hRb.rd).one, (hRc.rd).one]; done) | simp [Value.oneCell', (hRb.rd).one, (hRc.rd).one]) rfl rfl rfl rfl rfl ?_ | refine wl_storeAll 2 [_, _] rfl el28 rfl rfl rfl (by first | (simp [Value.oneCell']; done) | (simp [(hRb.rd).one, (hRc.rd).one]; done) | simp [Value.oneCell', (hRb.rd).one, (hRc.rd).one]) rfl rfl rfl rfl rfl ?_ | refine wl_storeAll 3 [_, _] rfl el28 rfl rfl rfl (by first | (simp [Value.oneCell']; done) | (simp [(hRb.rd).one, (hRc.rd).one]; done) | simp [Value.oneCell', (hRb.rd).one, (hRc.rd).one]) rfl rfl rfl rfl rfl ?_ | refine wl_storeAll 4 [_, _] rfl el28 rfl rfl rfl (by first | (simp [Value.oneCell']; done) | (simp [(hRb.rd).one, (hRc.rd).one]; done) | simp [Value.oneCell', (hRb.rd).one, (hRc.rd).one]) rfl rfl rfl rfl rfl ?_
  refine wl_nil ?_
  refine nx_then ?_
  refine ws_seq ?_
  refine ws_seq ?_
  refine ws_region ?_
  refine wl_x (ox_assign rfl rfl) rfl rfl rfl ?_
  refine wl_nil ?_
  refine nx_then ?_
  refine ws_block ?_
  refine ws_loop (fun n s h' ms' => ∃ (i : Nat), n = 2 - i ∧ s = [(7, .bool true), (8, va), (9, .pointer (some ⟨g9, 0, none⟩)), (10, .int .i64 i)] ∧ h3 = h' ∧ ms' = [Blk g9 28 [vb, vc]] ∧ i ≤ 2)
    (2 - 0) _ ⟨0, rfl, rfl, rfl, rfl, by omega⟩ (by repeat (first | exact trivial | refine ⟨rfl, ?_⟩)) ?_
  rintro n s h' ms' ⟨i, rfl, rfl, rfl, rfl, hi⟩
  refine ws_seq ?_
  refine ws_seq ?_
  refine ws_region ?_
  refine wl_x (ox_move rfl rfl) rfl rfl rfl ?_
  refine wl_x (ox_lss rfl rfl rfl) rfl rfl rfl ?_
  refine wl_nil ?_
  refine nx_then ?_
  refine ws_if rfl (fun hlt => ?_) (fun hlt => ?_)
  · skip
    have hi2 : i < 2 := by omega
    obtain ⟨x, vx, hvx, hRx, lx, bx⟩ : ∃ (x : List Br) (vx : Value), ([vb, vc] : List Value)[i]? = some vx ∧ RdL cBr 6 h3 [] vx x ∧ x.length ≤ 28 ∧ ∀ b ∈ x, Bd 2000010 b := by
      rcases (by omega : i = 0 ∨ i = 1) with rfl | rfl
      · exact ⟨b, vb, rfl, hRb, by omega, fun y hy => by obtain ⟨g1, g2, g3, g4, g5, g6⟩ := bb y hy; exact ⟨by omega, by omega, by omega, by omega, g5, g6⟩⟩
      · exact ⟨c, vc, rfl, hRc, by omega, bc⟩
    have hA : ∀ b ∈ a, BOk b := fun y hy => (ba y hy).ok (by omega)
    have hX : ∀ b ∈ x, BOk b := fun y hy => (bx y hy).ok (by omega)
    refine ws_skip ?_
    refine nx_then ?_
    refine ws_seq ?_
    refine ws_block ?_
    refine ws_seq ?_
    refine ws_region ?_
    refine wl_x (ox_assign rfl rfl) rfl rfl rfl ?_
    refine wl_nil ?_
    refine nx_then ?_
    refine ws_block ?_
    refine ws_loop (fun n s h' ms' => ∃ (k : Nat) (d : Int), n = 5 - k ∧ s = [(7, .bool true), (8, va), (9, .pointer (some ⟨g9, 0, none⟩)), (10, .int .i64 i), (11, .int .i64 d)] ∧ h3 = h' ∧ ms' = [Blk g9 28 [vb, vc]] ∧ k ≤ 5 ∧ d = (k : Int) - 1)
      (5 - 0) _ ⟨0, -1, rfl, rfl, rfl, rfl, by omega, by omega⟩ (by repeat (first | exact trivial | refine ⟨rfl, ?_⟩)) ?_
    rintro n s h' ms' ⟨k, d, rfl, rfl, rfl, rfl, hk, hd⟩
    refine ws_seq ?_
    refine ws_seq ?_
    refine ws_region ?_
    refine wl_x (ox_move rfl rfl) rfl rfl rfl ?_
    refine wl_x (ox_lss rfl rfl rfl) rfl rfl rfl ?_
    refine wl_nil ?_
    refine nx_then ?_
    refine ws_if rfl (fun hlt5 => ?_) (fun hlt5 => ?_)
    · skip
      have hcell : Cell h3 [Blk g9 28 [vb, vc]] ((⟨g9, 0, none⟩ : Addr).add (i * 1)) vx := by rw [Nat.mul_one]; exact Cell.blk 0 rfl hvx
      refine ws_skip ?_
      refine nx_then ?_
      refine ws_seq ?_
      refine ws_block ?_
      refine ws_seq ?_
      refine ws_region ?_
      refine wl_x (ox_move rfl rfl) rfl rfl rfl ?_
      refine wl_x (ox_move rfl rfl) rfl rfl rfl ?_
      refine wl_x (ox_indexA _ rfl Try.underlying28 el25 rfl rfl rfl (by omega)) rfl rfl rfl ?_
      refine wl_x (ox_load rfl Try.underlying25 rfl rfl (by first | exact Cell.blk 0 rfl rfl | exact Cell.blk 1 rfl rfl | exact Cell.blk 2 rfl rfl | exact Cell.blk 3 rfl rfl | exact Cell.blk 4 rfl rfl | exact hcell)) rfl rfl rfl ?_
      refine wl_x (ox_move rfl rfl) rfl rfl rfl ?_
      refine wl_x (ox_call rfl Try.call12 rfl (distance_v a x va vx d h3 hRa hRx (by omega) (by omega) hA hX _)) rfl rfl rfl ?_
      refine wl_x (ox_move rfl rfl) rfl rfl rfl ?_
      refine wl_x (ox_extract rfl rfl rfl) rfl rfl rfl ?_
      refine wl_x (ox_extract rfl rfl rfl) rfl rfl rfl ?_
      refine wl_x (ox_assign rfl rfl) rfl rfl rfl ?_
      refine wl_x (ox_assign rfl rfl) rfl rfl rfl ?_
      refine wl_nil ?_
      refine nx_then ?_
      refine ws_seq ?_
      refine ws_region ?_
      refine wl_x (ox_move rfl rfl) rfl rfl rfl ?_
      refine wl_x (ox_move rfl rfl) rfl rfl rfl ?_
      refine wl_x (ox_indexA _ rfl Try.underlying28 el25 rfl rfl rfl (by omega)) rfl rfl rfl ?_
      refine wl_x (ox_load rfl Try.underlying25 rfl rfl (by first | exact Cell.blk 0 rfl rfl | exact Cell.blk 1 rfl rfl | exact Cell.blk 2 rfl rfl | exact Cell.blk 3 rfl rfl | exact Cell.blk 4 rfl rfl | exact hcell)) rfl rfl rfl ?_
      refine wl_x (ox_move rfl rfl) rfl rfl rfl ?_
      refine wl_x (ox_call rfl Try.call13 rfl (rdistance_v a x va vx d h3 hRa hRx (by omega) (by omega) hA hX _)) rfl rfl rfl ?_
      refine wl_x (ox_move rfl rfl) rfl rfl rfl ?_
      refine wl_x (ox_extract rfl rfl rfl) rfl rfl rfl ?_
      refine wl_x (ox_extract rfl rfl rfl) rfl rfl rfl ?_
      refine wl_x (ox_assign rfl rfl) rfl rfl rfl ?_
      refine wl_x (ox_assign rfl rfl) rfl rfl rfl ?_
      refine wl_nil ?_
      refine nx_then ?_
      refine ws_seq ?_
      refine ws_region ?_
      refine wl_x (ox_move rfl rfl) rfl rfl rfl ?_
      refine wl_x (ox_move rfl rfl) rfl rfl rfl ?_
      refine wl_x (ox_nei rfl rfl rfl) rfl rfl rfl ?_
      refine wl_x (ox_move rfl rfl) rfl rfl rfl ?_
      refine wl_split (t := 54) rfl (fun hs => absurd hs (by simp)) (fun hs => ?_)
      refine wl_gx (ox_move rfl rfl) rfl rfl rfl rfl rfl rfl ?_
      refine wl_gx (ox_move rfl rfl) rfl rfl rfl rfl rfl rfl ?_
      refine wl_gx (ox_neb rfl Try.underlying4 rfl rfl) rfl rfl rfl rfl rfl rfl ?_
      refine wl_x (ox_pick_f rfl rfl rfl) rfl rfl rfl ?_
      refine wl_nil ?_
      refine nx_then ?_
      refine ws_cond rfl (fun hc => ?_) (fun hc => ?_)
      · skip
        simp at hc
      · skip
        refine ws_skip ?_
        refine nx_block ?_
        refine nx_then ?_
        refine ws_region ?_
        refine wl_x (ox_move rfl rfl) rfl rfl rfl ?_
        refine wl_x (ox_add rfl rfl rfl (by omega)) rfl rfl rfl ?_
        refine wl_x (ox_assign rfl rfl) rfl rfl rfl ?_
        refine wl_nil ?_
        refine nx_round (5 - (k + 1)) _ (by omega) ⟨k + 1, d + 1, rfl, rfl, rfl, rfl, by omega, by omega⟩ (by repeat (first | exact trivial | refine ⟨rfl, ?_⟩))
    · skip
      refine ws_exit ?_
      refine nx_then_exit ?_
      refine nx_then_exit ?_
      refine nx_block_exit ?_
      refine nx_block ?_
      refine nx_then ?_
      refine ws_region ?_
      refine wl_x (ox_move rfl rfl) rfl rfl rfl ?_
      refine wl_x (ox_add rfl rfl rfl (by omega)) rfl rfl rfl ?_
      refine wl_x (ox_assign rfl rfl) rfl rfl rfl ?_
      refine wl_nil ?_
      refine nx_round (2 - (i + 1)) _ (by omega) ⟨i + 1, rfl, rfl, rfl, rfl, by omega⟩ (by repeat (first | exact trivial | refine ⟨rfl, ?_⟩))
  · skip
    refine ws_exit ?_
    refine nx_then_exit ?_
    refine nx_then_exit ?_
    refine nx_block_exit ?_
    refine nx_then ?_
    refine ws_seq ?_
    refine ws_region ?_
    refine wl_x (ox_move rfl rfl) rfl rfl rfl ?_
    refine wl_x (ox_assign rfl rfl) rfl rfl rfl ?_
    refine wl_nil ?_
    refine nx_then ?_
    refine ws_ret ?_
    exact nx_ret1 rfl rfl (rfl)
end Go.Proofs.Ythdkhnjnhhofgaa
