/- The law on the comparison of diagrams. -/
import Derived.Test.YthdkhnjnhhofgaaQA
set_option linter.unusedSimpArgs false
set_option linter.unusedVariables false
set_option maxRecDepth 100000
namespace Go.Proofs.Ythdkhnjnhhofgaa
open Go.Eng Go.RowKit Go.Kuhn

theorem rsame_v (la lb : List Br) (va vb : Value) (h : Hp) (hRa : RdL cBr 6 h [] va la) (hRb : RdL cBr 6 h [] vb lb) (hla : la.length ≤ 100000) (hlb : lb.length ≤ 100000) (ms : List Hp) :
    FnV Try.prog 19 #[va, vb] h ms (.bool (sameB la lb)) := by
  refine fun w hw => (?_ : FnV _ _ _ h [] _) w (hw.weaken (Hp.le_refl _) (List.nil_sublist _))
  exact FnT.toV (rsame_ok la lb va vb h hRa hRb hla hlb)
theorem sameB_comm (a b : List Br) : sameB a b = sameB b a := by
  rw [Bool.eq_iff_iff, sameB_iff, sameB_iff]
  exact ⟨List.Perm.symm, List.Perm.symm⟩
theorem sameB_refl (a : List Br) : sameB a a = true := sameB_iff.2 (List.Perm.refl _)
theorem turned_keys (l : List Br) : sameB l (turned l) = true := by
  rw [sameB_iff]
  have h1 : (turned l).filter Br.cnt = (l.reverse.filter Br.cnt).map Br.tw := filter_two (fun b => by unfold Br.cnt Br.tw; cases h : b.opn <;> simp) (fun b => by simp [Br.cnt, Br.jk]) _
  unfold keysOf
  rw [h1, List.map_map]
  have h2 : Br.norm ∘ Br.tw = Br.norm := by
    funext b
    unfold Br.norm Br.tw
    simp only [Function.comp]
    cases h : b.opn <;> simp
  rw [h2]
  exact (((List.reverse_perm l).filter _).map _).symm
theorem Bd.kok {M : Int} {b : Br} (h : Bd M b) (hM : M ≤ 1000000000000) : KOk b.norm := by
  obtain ⟨h1, h2, h3, h4, h5, h6⟩ := h
  refine ⟨?_, ?_, ?_, ?_, ?_⟩ <;> unfold I64 Br.norm <;> simp only
  · omega
  · omega
  · split <;> omega
  · omega
  · omega

theorem lsame_ok (l m : List Tri) (q : List Int) (vl vm vq : Value) (h : Hp) (hl : RdL cT 3 h [] vl l) (hm : RdL cT 3 h [] vm m) (hq : RdL cI 1 h [] vq q) (hL : ∀ t ∈ l, TOk t) (hM : ∀ t ∈ m, TOk t) (hQ : ∀ n ∈ q, I64 n) :
    FnT Try.prog 8 #[vl, vm, vq] h [] (fun r _ _ => r = .bool true) := by
  refine fn_enter Try.func8 Try.ntmps8 rfl rfl (fun w0 hw0 => ?_)
  simp only [argS]
  refine ws_seq ?_
  refine ws_region ?_
  refine wl_x (ox_assign rfl rfl) rfl rfl rfl ?_
  refine wl_nil ?_
  refine nx_then ?_
  refine ws_seq ?_
  refine ws_region ?_
  refine wl_x (ox_call rfl Try.call9 rfl (sanity_ok _ _)) rfl rfl rfl ?_
  refine wl_x (ox_assign rfl rfl) rfl rfl rfl ?_
  refine wl_nil ?_
  refine nx_then ?_
  refine ws_seq ?_
  refine ws_region ?_
  refine wl_x (ox_move rfl rfl) rfl rfl rfl ?_
  refine wl_call rfl Try.call10 rfl (made_ok l vl h hl hL) rfl rfl rfl (fun va h1 _ l1 hF => ?_)
  obtain ⟨rfl, hRa⟩ := hF
  obtain ⟨la, ba⟩ := made_bd l
  refine wl_x (ox_assign rfl rfl) rfl rfl rfl ?_
  refine wl_nil ?_
  refine nx_then ?_
  refine ws_seq ?_
  refine ws_region ?_
  refine wl_x (ox_move rfl rfl) rfl rfl rfl ?_
  refine wl_call rfl Try.call10 rfl (made_ok m vm h1 (hm.up l1) hM) rfl rfl rfl (fun vb h2 _ l2 hF => ?_)
  obtain ⟨rfl, hRb⟩ := hF
  obtain ⟨lb, bb⟩ := made_bd m
  refine wl_x (ox_move rfl rfl) rfl rfl rfl ?_
  refine wl_x (ox_move rfl rfl) rfl rfl rfl ?_
  refine wl_call rfl Try.call11 rfl (moved_ok 2000000 (made l) q va vq h2 (hRa.up l2) (hq.up (Hp.le_trans l1 l2)) (by omega) (by omega) ba hQ) rfl rfl rfl (fun vc h3 _ l3 hF => ?_)
  obtain ⟨rfl, c, hRc, bc, lc⟩ := hF
  have hRa := hRa.up (Hp.le_trans l2 l3)
  have hRb := hRb.up l3
  generalize made l = a at *
  generalize made m = b at *
  have hA : ∀ x ∈ a, BOk x := fun x hx => (ba x hx).ok (by omega)
  refine wl_x (ox_move rfl rfl) rfl rfl rfl ?_
  refine wl_call rfl Try.call17 rfl (turned_ok a va h3 hRa (by omega) hA) rfl rfl rfl (fun vd h4 _ l4 hF => ?_)
  obtain ⟨rfl, hRd⟩ := hF
  have td := turned_len a
  have bd := turned_bd ba
  have hRa := hRa.up l4
  have hRb := hRb.up l4
  have hRc := hRc.up l4
  refine wl_x (ox_move rfl rfl) rfl rfl rfl ?_
  refine wl_x (ox_buildA [.slice none 0 0, .slice none 0 0, .slice none 0 0, .slice none 0 0] [(0, [_]), (1, [_]), (2, [_]), (3, [_])] [_, _, _, _] rfl Try.underlying46 el46 rfl el25 rfl (by repeat (first | exact trivial | refine ⟨⟨by first | rfl | exact (hRa.rd).cells | exact (hRb.rd).cells | exact (hRc.rd).cells | exact (hRd.rd).cells | exact Rd.cells ‹_› | exact (RdL.rd ‹_›).cells, rfl, rfl⟩, ?_⟩)) rfl) rfl rfl rfl ?_
  refine wl_alloc [.slice none 0 0, .slice none 0 0, .slice none 0 0, .slice none 0 0] rfl el46 rfl rfl rfl rfl (fun g9 => ?_)
  first | refine wl_storeAll 0 [_, _, _, _] rfl el46 rfl rfl rfl (by first | (simp [Value.oneCell']; done) | (simp [(hRa.rd).one, (hRb.rd).one, (hRc.rd).one, (hRd.rd).one]; done) | simp [Value.oneCell', (hRa.rd).one, (hRb.rd).one, (hRc.rd).one, (hRd.rd).one]) rfl rfl rfl rfl rfl ?_ | refine wl_storeAll 1 [_, _, _, _] rfl el46 rfl rfl rfl (by first | (simp [Value.oneCell']; done) | (simp [(hRa.rd).one, (hRb.rd).one, (hRc.rd).one, (hRd.rd).one]; done) | simp [Value.oneCell', (hRa.rd).one, (hRb.rd).one, (hRc.rd).one, (hRd.rd).one]) rfl rfl rfl rfl rfl ?_ | refine wl_storeAll 2 [_, _, _, _] rfl el46 rfl rfl rfl (by first | (simp [Value.oneCell']; done) | (simp [(hRa.rd).one, (hRb.rd).one, (hRc.rd).one, (hRd.rd).one]; done) | simp [Value.oneCell', (hRa.rd).one, (hRb.rd).one, (hRc.rd).one, (hRd.rd).one]) rfl rfl rfl rfl rfl ?_ | refine wl_storeAll 3 [_, _, _, _] rfl el46 rfl rfl rfl (by first | (simp [Value.oneCell']; done) | (simp [(hRa.rd).one, (hRb.rd).one, (hRc.rd).one, (hRd.rd).one]; done) | simp [Value.oneCell', (hRa.rd).one, (hRb.rd).one, (hRc.rd).one, (hRd.rd).one]) rfl rfl rfl rfl rfl ?_ | refine wl_storeAll 4 [_, _, _, _] rfl el46 rfl rfl rfl (by first | (simp [Value.oneCell']; done) | (simp [(hRa.rd).one, (hRb.rd).one, (hRc.rd).one, (hRd.rd).one]; done) | simp [Value.oneCell', (hRa.rd).one, (hRb.rd).one, (hRc.rd).one, (hRd.rd).one]) rfl rfl rfl rfl rfl ?_
  refine wl_nil ?_
  refine nx_then ?_
  refine ws_seq ?_
  refine ws_seq ?_
  refine ws_region ?_
  refine wl_x (ox_assign rfl rfl) rfl rfl rfl ?_
  refine wl_nil ?_
  refine nx_then ?_
  refine ws_block ?_
  refine ws_loop (fun n s h' ms' => ∃ (i : Nat), n = 4 - i ∧ s = [(7, .bool true), (8, va), (9, .pointer (some ⟨g9, 0, none⟩)), (10, .int .i64 i)] ∧ h4 = h' ∧ ms' = [Blk g9 46 [vb, vc, vd, va]] ∧ i ≤ 4)
    (4 - 0) _ ⟨0, rfl, rfl, rfl, rfl, by omega⟩ (by repeat (first | exact trivial | refine ⟨rfl, ?_⟩)) ?_
  rintro n s h' ms' ⟨i, rfl, rfl, rfl, rfl, hi⟩
  have kA : ∀ x ∈ a, KOk x.norm := fun x hx => (ba x hx).kok (by omega)
  refine ws_seq ?_
  refine ws_seq ?_
  refine ws_region ?_
  refine wl_x (ox_move rfl rfl) rfl rfl rfl ?_
  refine wl_x (ox_lss rfl rfl rfl) rfl rfl rfl ?_
  refine wl_nil ?_
  refine nx_then ?_
  refine ws_if rfl (fun hlt => ?_) (fun hlt => ?_)
  · skip
    have hi4 : i < 4 := by omega
    obtain ⟨x, vx, hvx, hRx, lx, kX⟩ : ∃ (x : List Br) (vx : Value), ([vb, vc, vd, va] : List Value)[i]? = some vx ∧ RdL cBr 6 h4 [] vx x ∧ x.length ≤ 28 ∧ ∀ b ∈ x, KOk b.norm := by
      rcases (by omega : i = 0 ∨ i = 1 ∨ i = 2 ∨ i = 3) with rfl | rfl | rfl | rfl
      · exact ⟨b, vb, rfl, hRb, by omega, fun y hy => (bb y hy).kok (by omega)⟩
      · exact ⟨c, vc, rfl, hRc, by omega, fun y hy => (bc y hy).kok (by omega)⟩
      · exact ⟨turned a, vd, rfl, hRd, by omega, fun y hy => (bd y hy).kok (by omega)⟩
      · exact ⟨a, va, rfl, hRa, by omega, kA⟩
    have hcell : ∀ {ms : List Hp}, ms[0]? = some (Blk g9 46 [vb, vc, vd, va]) → Cell h4 ms ((⟨g9, 0, none⟩ : Addr).add (i * 1)) vx := fun hm => cell_at 0 hm hvx
    refine ws_skip ?_
    refine nx_then ?_
    refine ws_seq ?_
    refine ws_block ?_
    refine ws_seq ?_
    refine ws_draw 21 fol (by kernel_rfl) rfl ?_
    simp only [List.take_succ_cons, List.take_zero, List.drop_succ_cons, List.drop_zero, List.take_nil, List.drop_nil]
    refine wr_x (ox_move rfl rfl) rfl rfl ?_
    refine wr_x (ox_move rfl rfl) rfl rfl ?_
    refine wr_x (ox_indexA _ rfl Try.underlying46 el25 rfl rfl rfl (by omega)) rfl rfl ?_
    refine wr_x (ox_load rfl Try.underlying25 rfl rfl (by first | exact Cell.blk 0 rfl rfl | exact Cell.blk 1 rfl rfl | exact Cell.blk 2 rfl rfl | exact Cell.blk 3 rfl rfl | exact Cell.blk 4 rfl rfl | exact hcell rfl)) rfl rfl ?_
    refine wr_x (ox_call rfl Try.call18 rfl (same_v a x va vx h4 hRa hRx (by omega) (by omega) kA kX _)) rfl rfl ?_
    refine wr_x (ox_move rfl rfl) rfl rfl ?_
    refine wr_x (ox_move rfl rfl) rfl rfl ?_
    refine wr_x (ox_indexA _ rfl Try.underlying46 el25 rfl rfl rfl (by omega)) rfl rfl ?_
    refine wr_x (ox_load rfl Try.underlying25 rfl rfl (by first | exact Cell.blk 0 rfl rfl | exact Cell.blk 1 rfl rfl | exact Cell.blk 2 rfl rfl | exact Cell.blk 3 rfl rfl | exact Cell.blk 4 rfl rfl | exact hcell rfl)) rfl rfl ?_
    refine wr_x (ox_call rfl Try.call19 rfl (rsame_v a x va vx h4 hRa hRx (by omega) (by omega) _)) rfl rfl ?_
    refine wr_x (ox_neb rfl Try.underlying4 rfl rfl) rfl rfl ?_
    refine wr_x (ox_move rfl rfl) rfl rfl ?_
    refine wr_split (t := 42) rfl (fun hs => absurd hs (by simp)) (fun hs => ?_)
    refine wr_gx (ox_move rfl rfl) rfl rfl rfl rfl ?_
    refine wr_gx (ox_indexA _ rfl Try.underlying46 el25 rfl rfl rfl (by omega)) rfl rfl rfl rfl ?_
    refine wr_gx (ox_load rfl Try.underlying25 rfl rfl (by first | exact Cell.blk 0 rfl rfl | exact Cell.blk 1 rfl rfl | exact Cell.blk 2 rfl rfl | exact Cell.blk 3 rfl rfl | exact Cell.blk 4 rfl rfl | exact hcell rfl)) rfl rfl rfl rfl ?_
    refine wr_gx (ox_move rfl rfl) rfl rfl rfl rfl ?_
    refine wr_gx (ox_call rfl Try.call18 rfl (same_v x a vx va h4 hRx hRa (by omega) (by omega) kX kA _)) rfl rfl rfl rfl ?_
    refine wr_gx (ox_move rfl rfl) rfl rfl rfl rfl ?_
    refine wr_gx (ox_move rfl rfl) rfl rfl rfl rfl ?_
    refine wr_gx (ox_indexA _ rfl Try.underlying46 el25 rfl rfl rfl (by omega)) rfl rfl rfl rfl ?_
    refine wr_gx (ox_load rfl Try.underlying25 rfl rfl (by first | exact Cell.blk 0 rfl rfl | exact Cell.blk 1 rfl rfl | exact Cell.blk 2 rfl rfl | exact Cell.blk 3 rfl rfl | exact Cell.blk 4 rfl rfl | exact hcell rfl)) rfl rfl rfl rfl ?_
    refine wr_nil ?_
    refine wl_gx (ox_call rfl Try.call18 rfl (same_v a x va vx h4 hRa hRx (by omega) (by omega) kA kX _)) rfl rfl rfl rfl rfl rfl ?_
    refine wl_gx (ox_neb rfl Try.underlying4 rfl rfl) rfl rfl rfl rfl rfl rfl ?_
    refine wl_x (ox_pick_f rfl rfl rfl) rfl rfl rfl ?_
    refine wl_nil ?_
    refine nx_then ?_
    refine ws_cond rfl (fun hne => ?_) (fun hne => ?_)
    · skip
      rw [sameB_comm] at hne; simp at hne
    · skip
      refine ws_skip ?_
      refine nx_block ?_
      refine nx_then ?_
      refine ws_region ?_
      refine wl_x (ox_move rfl rfl) rfl rfl rfl ?_
      refine wl_x (ox_add rfl rfl rfl (by omega)) rfl rfl rfl ?_
      refine wl_x (ox_assign rfl rfl) rfl rfl rfl ?_
      refine wl_nil ?_
      refine nx_round (4 - (i + 1)) _ (by omega) ⟨i + 1, rfl, rfl, rfl, rfl, by omega⟩ (by repeat (first | exact trivial | refine ⟨rfl, ?_⟩))
  · skip
    refine ws_exit ?_
    refine nx_then_exit ?_
    refine nx_then_exit ?_
    refine nx_block_exit ?_
    refine nx_then ?_
    refine ws_seq ?_
    refine ws_seq ?_
    refine ws_region ?_
    refine wl_x (ox_assign rfl rfl) rfl rfl rfl ?_
    refine wl_nil ?_
    refine nx_then ?_
    refine ws_block ?_
    refine ws_loop (fun n s h' ms' => ∃ (i : Nat), n = a.length - i ∧ s = [(7, .bool true), (8, va), (11, .int .i64 i)] ∧ h4 = h' ∧ ms' = [Blk g9 46 [vb, vc, vd, va]] ∧ i ≤ a.length)
      (a.length - 0) _ ⟨0, rfl, rfl, rfl, rfl, by omega⟩ (by repeat (first | exact trivial | refine ⟨rfl, ?_⟩)) ?_
    rintro n s h' ms' ⟨j, rfl, rfl, rfl, rfl, hj⟩
    refine ws_seq ?_
    refine ws_seq ?_
    refine ws_region ?_
    refine wl_x (ox_move rfl rfl) rfl rfl rfl ?_
    refine wl_x (ox_move rfl rfl) rfl rfl rfl ?_
    first | refine wl_x (ox_len (ty := 25) rfl Try.underlying25 rfl) rfl rfl rfl ?_ | refine wl_x (ox_lenR hRa.rd.any rfl Try.underlying25 rfl) rfl rfl rfl ?_
    refine wl_x (ox_lss rfl rfl rfl) rfl rfl rfl ?_
    refine wl_nil ?_
    refine nx_then ?_
    refine ws_if rfl (fun hlt2 => ?_) (fun hlt2 => ?_)
    · skip
      have hja : j < a.length := by omega
      obtain ⟨x1, x2, x3, x4, x5, x6⟩ := ba _ (List.getElem_mem hja)
      refine ws_skip ?_
      refine nx_then ?_
      refine ws_seq ?_
      refine ws_block ?_
      refine ws_seq ?_
      refine ws_region ?_
      refine wl_x (ox_assign rfl rfl) rfl rfl rfl ?_
      refine wl_nil ?_
      refine nx_then ?_
      refine ws_block ?_
      refine ws_loop (fun n s h' ms' => ∃ (k : Nat) (y : Int), n = 3 - k ∧ s = [(7, .bool true), (8, va), (11, .int .i64 j), (12, .int .i64 y)] ∧ h4 = h' ∧ ms' = [Blk g9 46 [vb, vc, vd, va]] ∧ k ≤ 3 ∧ y = (k : Int) - 1)
        (3 - 0) _ ⟨0, -1, rfl, rfl, rfl, rfl, by omega, by omega⟩ (by repeat (first | exact trivial | refine ⟨rfl, ?_⟩)) ?_
      rintro n s h' ms' ⟨k, y, rfl, rfl, rfl, rfl, hk, hy⟩
      refine ws_seq ?_
      refine ws_seq ?_
      refine ws_region ?_
      refine wl_x (ox_move rfl rfl) rfl rfl rfl ?_
      refine wl_x (ox_lss rfl rfl rfl) rfl rfl rfl ?_
      refine wl_nil ?_
      refine nx_then ?_
      refine ws_if rfl (fun hlt3 => ?_) (fun hlt3 => ?_)
      · skip
        refine ws_skip ?_
        refine nx_then ?_
        refine ws_seq ?_
        refine ws_block ?_
        refine ws_seq ?_
        refine ws_region ?_
        refine wl_x (ox_move rfl rfl) rfl rfl rfl ?_
        refine wl_x (ox_move rfl rfl) rfl rfl rfl ?_
        first | refine wl_x (ox_index _ rfl Try.underlying25 el40 rfl rfl rfl (by omega)) rfl rfl rfl ?_ | refine wl_x (ox_indexR _ hRa.rd.any rfl Try.underlying25 el40 rfl rfl rfl (by omega)) rfl rfl rfl ?_
        refine wl_x (ox_fieldF fd40_1 rfl rfl) rfl rfl rfl ?_
        refine wl_x (ox_load rfl Try.underlying3 rfl rfl (by first | exact hRa.any.cell hja rfl)) rfl rfl rfl ?_
        refine wl_x (ox_move rfl rfl) rfl rfl rfl ?_
        refine wl_x (ox_add rfl rfl rfl (by omega)) rfl rfl rfl ?_
        refine wl_x (ox_assign rfl rfl) rfl rfl rfl ?_
        refine wl_nil ?_
        refine nx_then ?_
        refine ws_seq ?_
        refine ws_region ?_
        refine wl_x (ox_move rfl rfl) rfl rfl rfl ?_
        refine wl_x (ox_move rfl rfl) rfl rfl rfl ?_
        first | refine wl_x (ox_index _ rfl Try.underlying25 el40 rfl rfl rfl (by omega)) rfl rfl rfl ?_ | refine wl_x (ox_indexR _ hRa.rd.any rfl Try.underlying25 el40 rfl rfl rfl (by omega)) rfl rfl rfl ?_
        refine wl_x (ox_fieldF fd40_2 rfl rfl) rfl rfl rfl ?_
        refine wl_x (ox_load rfl Try.underlying3 rfl rfl (by first | exact hRa.any.cell hja rfl)) rfl rfl rfl ?_
        refine wl_x (ox_move rfl rfl) rfl rfl rfl ?_
        refine wl_x (ox_add rfl rfl rfl (by omega)) rfl rfl rfl ?_
        refine wl_x (ox_assign rfl rfl) rfl rfl rfl ?_
        refine wl_nil ?_
        refine nx_then ?_
        refine ws_seq ?_
        refine ws_draw 33 fol (by kernel_rfl) rfl ?_
        simp only [List.take_succ_cons, List.take_zero, List.drop_succ_cons, List.drop_zero, List.take_nil, List.drop_nil]
        refine wr_x (ox_move rfl rfl) rfl rfl ?_
        refine wr_x (ox_move rfl rfl) rfl rfl ?_
        refine wr_x (ox_move rfl rfl) rfl rfl ?_
        first | refine wr_x (ox_index _ rfl Try.underlying25 el40 rfl rfl rfl (by omega)) rfl rfl ?_ | refine wr_x (ox_indexR _ hRa.rd.any rfl Try.underlying25 el40 rfl rfl rfl (by omega)) rfl rfl ?_
        refine wr_x (ox_fieldF fd40_0 rfl rfl) rfl rfl ?_
        refine wr_x (ox_load rfl Try.underlying3 rfl rfl (by first | exact hRa.any.cell hja rfl)) rfl rfl ?_
        refine wr_x (ox_move rfl rfl) rfl rfl ?_
        refine wr_x (ox_call rfl Try.call20 rfl (count_ok a va _ _ h4 hRa (by omega) _)) rfl rfl ?_
        refine wr_x (ox_move rfl rfl) rfl rfl ?_
        refine wr_x (ox_move rfl rfl) rfl rfl ?_
        refine wr_x (ox_move rfl rfl) rfl rfl ?_
        first | refine wr_x (ox_index _ rfl Try.underlying25 el40 rfl rfl rfl (by omega)) rfl rfl ?_ | refine wr_x (ox_indexR _ hRa.rd.any rfl Try.underlying25 el40 rfl rfl rfl (by omega)) rfl rfl ?_
        refine wr_x (ox_fieldF fd40_0 rfl rfl) rfl rfl ?_
        refine wr_x (ox_load rfl Try.underlying3 rfl rfl (by first | exact hRa.any.cell hja rfl)) rfl rfl ?_
        refine wr_x (ox_move rfl rfl) rfl rfl ?_
        refine wr_x (ox_call rfl Try.call21 rfl (rcount_ok a va _ _ h4 hRa (by omega) _)) rfl rfl ?_
        refine wr_x (ox_nei rfl rfl rfl) rfl rfl ?_
        refine wr_x (ox_move rfl rfl) rfl rfl ?_
        refine wr_split (t := 96) rfl (fun hs => absurd hs (by simp)) (fun hs => ?_)
        refine wr_gx (ox_move rfl rfl) rfl rfl rfl rfl ?_
        refine wr_gx (ox_move rfl rfl) rfl rfl rfl rfl ?_
        refine wr_gx (ox_move rfl rfl) rfl rfl rfl rfl ?_
        first | refine wr_gx (ox_index _ rfl Try.underlying25 el40 rfl rfl rfl (by omega)) rfl rfl rfl rfl ?_ | refine wr_gx (ox_indexR _ hRa.rd.any rfl Try.underlying25 el40 rfl rfl rfl (by omega)) rfl rfl rfl rfl ?_
        refine wr_gx (ox_fieldF fd40_0 rfl rfl) rfl rfl rfl rfl ?_
        refine wr_gx (ox_load rfl Try.underlying3 rfl rfl (by first | exact hRa.any.cell hja rfl)) rfl rfl rfl rfl ?_
        refine wr_gx (ox_move rfl rfl) rfl rfl rfl rfl ?_
        refine wr_gx (ox_call rfl Try.call20 rfl (count_ok a va _ _ h4 hRa (by omega) _)) rfl rfl rfl rfl ?_
        refine wr_gx (ox_move rfl rfl) rfl rfl rfl rfl ?_
        refine wr_gx (ox_move rfl rfl) rfl rfl rfl rfl ?_
        refine wr_gx (ox_move rfl rfl) rfl rfl rfl rfl ?_
        first | refine wr_gx (ox_index _ rfl Try.underlying25 el40 rfl rfl rfl (by omega)) rfl rfl rfl rfl ?_ | refine wr_gx (ox_indexR _ hRa.rd.any rfl Try.underlying25 el40 rfl rfl rfl (by omega)) rfl rfl rfl rfl ?_
        refine wr_gx (ox_fieldF fd40_0 rfl rfl) rfl rfl rfl rfl ?_
        refine wr_gx (ox_load rfl Try.underlying3 rfl rfl (by first | exact hRa.any.cell hja rfl)) rfl rfl rfl rfl ?_
        refine wr_gx (ox_move rfl rfl) rfl rfl rfl rfl ?_
        refine wr_nil ?_
        refine wl_gx (ox_call rfl Try.call21 rfl (rcount_ok a va _ _ h4 hRa (by omega) _)) rfl rfl rfl rfl rfl rfl ?_
        refine wl_gx (ox_nei rfl rfl rfl) rfl rfl rfl rfl rfl rfl ?_
        refine wl_x (ox_pick_f rfl rfl rfl) rfl rfl rfl ?_
        refine wl_nil ?_
        refine nx_then ?_
        refine ws_if rfl (fun hc => ?_) (fun hc => ?_)
        · skip
          exact absurd rfl hc
        · skip
          refine ws_skip ?_
          refine nx_block ?_
          refine nx_then ?_
          refine ws_region ?_
          refine wl_x (ox_move rfl rfl) rfl rfl rfl ?_
          refine wl_x (ox_add rfl rfl rfl (by omega)) rfl rfl rfl ?_
          refine wl_x (ox_assign rfl rfl) rfl rfl rfl ?_
          refine wl_nil ?_
          refine nx_round (3 - (k + 1)) _ (by omega) ⟨k + 1, y + 1, rfl, rfl, rfl, rfl, by omega, by omega⟩ (by repeat (first | exact trivial | refine ⟨rfl, ?_⟩))
      · skip
        refine ws_exit ?_
        refine nx_then_exit ?_
        refine nx_then_exit ?_
        refine nx_block_exit ?_
        refine nx_block ?_
        refine nx_then ?_
        refine ws_region ?_
        refine wl_x (ox_move rfl rfl) rfl rfl rfl ?_
        refine wl_x (ox_add rfl rfl rfl (by omega)) rfl rfl rfl ?_
        refine wl_x (ox_assign rfl rfl) rfl rfl rfl ?_
        refine wl_nil ?_
        refine nx_round (a.length - (j + 1)) _ (by omega) ⟨j + 1, rfl, rfl, rfl, rfl, by omega⟩ (by repeat (first | exact trivial | refine ⟨rfl, ?_⟩))
    · skip
      refine ws_exit ?_
      refine nx_then_exit ?_
      refine nx_then_exit ?_
      refine nx_block_exit ?_
      refine nx_then ?_
      refine ws_seq ?_
      refine ws_region ?_
      refine wl_x (ox_move rfl rfl) rfl rfl rfl ?_
      refine wl_x (ox_move rfl rfl) rfl rfl rfl ?_
      refine wl_gx (ox_move rfl rfl) rfl rfl rfl rfl rfl rfl ?_
      refine wl_gx (ox_move rfl rfl) rfl rfl rfl rfl rfl rfl ?_
      refine wl_yes rfl rfl rfl rfl ?_
      refine wl_call_ (pre := []) rfl Try.call17 rfl (turned_ok a va h4 hRa (by omega) hA) rfl rfl rfl rfl (fun ve h5 _ l5 hF => ?_)
      obtain ⟨rfl, hRe⟩ := hF
      simp only [List.nil_append]
      have hsm := turned_keys a
      refine wl_gx (ox_call rfl Try.call18 rfl (same_v a (turned a) va ve h5 (hRa.up l5) hRe (by omega) (by omega) kA (fun y hy => (bd y hy).kok (by omega)) _)) rfl rfl rfl rfl rfl rfl ?_
      refine wl_x (ox_pick_t rfl rfl rfl) rfl rfl rfl ?_
      refine wl_x (ox_assign rfl rfl) rfl rfl rfl ?_
      refine wl_nil ?_
      refine nx_then ?_
      refine ws_ret ?_
      exact nx_ret1 rfl rfl (by rw [hsm])
end Go.Proofs.Ythdkhnjnhhofgaa
