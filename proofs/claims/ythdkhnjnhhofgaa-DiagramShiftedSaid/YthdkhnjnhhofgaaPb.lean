/- Walks: a list turned round; the law on orders. -/
import Derived.Test.YthdkhnjnhhofgaaPa
import Derived.Test.YthdkhnjnhhofgaaWt
set_option linter.unusedSimpArgs false
set_option linter.unusedVariables false
set_option maxRecDepth 100000
namespace Go.Proofs.Ythdkhnjnhhofgaa
open Go.Eng Go.RowKit Go.Kuhn

def Br.tw (b : Br) : Br := ⟨b.dim, b.birth, if b.opn then -b.death else b.death, b.opn, 77, b.high⟩
def Br.jk (b : Br) : Br := ⟨b.dim, 5, 5, false, 0, 0⟩
def turned (l : List Br) : List Br := l.reverse.flatMap fun b => [b.tw, b.jk]
theorem rdl_blk {h : Hp} {ms : List Hp} {g : Nat} {el : TypeId} {cs : List Value} (l : List Br) (n c : Nat) (hm : Blk g el cs ∈ ms) (hc : cs = l.flatMap cBr) (hn : n = l.length) (hnc : n ≤ c ∧ c ≤ 9223372036854775807) : RdL cBr 6 h ms (.slice (some ⟨g, 0, none⟩) n c) l := by
  subst hn hc
  exact ⟨Rd.blk hm (flatMap_len cBr_len l) hnc.1 hnc.2, cBr_len⟩
theorem turned_ok (l : List Br) (vl : Value) (h : Hp) (hR : RdL cBr 6 h [] vl l) (hl : l.length ≤ 1000000) (hA : ∀ b ∈ l, BOk b) :
    FnT Try.prog 17 #[vl] h [] (fun r h' ms' => ms' = [] ∧ RdL cBr 6 h' [] r (turned l)) := by
  refine fn_enter Try.func17 Try.ntmps17 rfl rfl (fun w0 hw0 => ?_)
  simp only [argS]
  refine ws_seq ?_
  refine ws_region ?_
  refine wl_x (ox_assign rfl rfl) rfl rfl rfl ?_
  refine wl_nil ?_
  refine nx_then ?_
  refine ws_seq ?_
  refine ws_region ?_
  refine wl_x (ox_assign rfl rfl) rfl rfl rfl ?_
  refine wl_nil ?_
  refine nx_then ?_
  refine ws_seq ?_
  refine ws_seq ?_
  refine ws_region ?_
  refine wl_x (ox_move rfl rfl) rfl rfl rfl ?_
  first | refine wl_x (ox_len (ty := 25) rfl Try.underlying25 rfl) rfl rfl rfl ?_ | refine wl_x (ox_lenR hR.rd.any rfl Try.underlying25 rfl) rfl rfl rfl ?_
  refine wl_x (ox_sub rfl rfl rfl (by omega)) rfl rfl rfl ?_
  refine wl_x (ox_assign rfl rfl) rfl rfl rfl ?_
  refine wl_nil ?_
  refine nx_then ?_
  refine ws_block ?_
  refine ws_emp ?_
  refine ws_loop (fun n s h' ms' => ∃ (k : Nat) (v : Value) (m : Hp) (x : Int), n = k + 0 ∧ s = [(0, vl), (3, v), (4, .int .i64 x)] ∧ h = h' ∧ ms' = [m] ∧ k ≤ l.length ∧ OwnL cBr 6 40 m v ((l.drop k).reverse.flatMap fun b => [b.tw, b.jk]) ∧ x = (k : Int) - 1)
    (l.length + 0) _ ⟨l.length, _, _, _, rfl, rfl, rfl, rfl, by omega, by simpa using OwnL.nil cBr_len, rfl⟩ (by repeat (first | exact trivial | refine ⟨rfl, ?_⟩)) ?_
  rintro n s h' ms' ⟨k, v, m, x, hn, rfl, rfl, rfl, hk, hO, hx⟩
  have hol : ((l.drop k).reverse.flatMap fun b => [b.tw, b.jk]).length ≤ 2 * l.length := by
    have : ∀ l' : List Br, (l'.flatMap fun b => [b.tw, b.jk]).length = 2 * l'.length := fun l' => by
      induction l' with
      | nil => rfl
      | cons a l' ih => rw [List.flatMap_cons, List.length_append, ih]; simp; omega
    rw [this]; simp; omega
  refine ws_seq ?_
  refine ws_seq ?_
  refine ws_region ?_
  refine wl_x (ox_move rfl rfl) rfl rfl rfl ?_
  refine wl_x (ox_geq rfl rfl rfl) rfl rfl rfl ?_
  refine wl_nil ?_
  refine nx_then ?_
  refine ws_if rfl (fun hge => ?_) (fun hge => ?_)
  · skip
    obtain ⟨j, rfl⟩ : ∃ j, k = j + 1 := ⟨k - 1, by omega⟩
    have hj : j < l.length := by omega
    have hdr : l.drop j = l[j] :: l.drop (j + 1) := List.drop_eq_getElem_cons hj
    obtain ⟨b1, b2, b3, b4⟩ := hA _ (List.getElem_mem hj)
    refine ws_skip ?_
    refine nx_then ?_
    refine ws_seq ?_
    refine ws_block ?_
    refine ws_seq ?_
    refine ws_region ?_
    refine wl_x (ox_move rfl rfl) rfl rfl rfl ?_
    refine wl_x (ox_move rfl rfl) rfl rfl rfl ?_
    first | refine wl_x (ox_index j rfl Try.underlying25 el40 rfl rfl (by omega) (by omega)) rfl rfl rfl ?_ | refine wl_x (ox_indexR j hR.rd.any rfl Try.underlying25 el40 rfl rfl (by omega) (by omega)) rfl rfl rfl ?_
    refine wl_x (ox_loadG rfl Try.underlying40 rfl el40 rfl rfl (by first | exact hR.any.seg hj)) rfl rfl rfl ?_
    refine wl_alloc [.int .i64 0, .int .i64 0, .int .i64 0, .bool false, .int .i64 0, .int .i64 0] rfl el40 rfl rfl rfl rfl (fun g5 => ?_)
    first | refine wl_storeAll 0 [_, _, _, _, _, _] rfl el40 rfl rfl rfl (by first | (simp [Value.oneCell']; done) | (simp [(hR.rd.any).one]; done) | simp [Value.oneCell', (hR.rd.any).one]) rfl rfl rfl rfl rfl ?_ | refine wl_storeAll 1 [_, _, _, _, _, _] rfl el40 rfl rfl rfl (by first | (simp [Value.oneCell']; done) | (simp [(hR.rd.any).one]; done) | simp [Value.oneCell', (hR.rd.any).one]) rfl rfl rfl rfl rfl ?_ | refine wl_storeAll 2 [_, _, _, _, _, _] rfl el40 rfl rfl rfl (by first | (simp [Value.oneCell']; done) | (simp [(hR.rd.any).one]; done) | simp [Value.oneCell', (hR.rd.any).one]) rfl rfl rfl rfl rfl ?_ | refine wl_storeAll 3 [_, _, _, _, _, _] rfl el40 rfl rfl rfl (by first | (simp [Value.oneCell']; done) | (simp [(hR.rd.any).one]; done) | simp [Value.oneCell', (hR.rd.any).one]) rfl rfl rfl rfl rfl ?_ | refine wl_storeAll 4 [_, _, _, _, _, _] rfl el40 rfl rfl rfl (by first | (simp [Value.oneCell']; done) | (simp [(hR.rd.any).one]; done) | simp [Value.oneCell', (hR.rd.any).one]) rfl rfl rfl rfl rfl ?_
    refine wl_nil ?_
    refine nx_then ?_
    refine ws_seq ?_
    refine ws_region ?_
    refine wl_x (ox_fieldF fd40_4 rfl rfl) rfl rfl rfl ?_
    first | refine wl_storeAt 0 _ rfl el3 rfl rfl (by first | rfl | exact Rd.one ‹_› | exact (RdL.rd ‹_›).one) rfl rfl (by first | decide | (simp; done) | exact of_decide_eq_true rfl | (simp; omega)) rfl rfl ?_ | refine wl_storeAt 1 _ rfl el3 rfl rfl (by first | rfl | exact Rd.one ‹_› | exact (RdL.rd ‹_›).one) rfl rfl (by first | decide | (simp; done) | exact of_decide_eq_true rfl | (simp; omega)) rfl rfl ?_ | refine wl_storeAt 2 _ rfl el3 rfl rfl (by first | rfl | exact Rd.one ‹_› | exact (RdL.rd ‹_›).one) rfl rfl (by first | decide | (simp; done) | exact of_decide_eq_true rfl | (simp; omega)) rfl rfl ?_ | refine wl_storeAt 3 _ rfl el3 rfl rfl (by first | rfl | exact Rd.one ‹_› | exact (RdL.rd ‹_›).one) rfl rfl (by first | decide | (simp; done) | exact of_decide_eq_true rfl | (simp; omega)) rfl rfl ?_ | refine wl_storeAt 4 _ rfl el3 rfl rfl (by first | rfl | exact Rd.one ‹_› | exact (RdL.rd ‹_›).one) rfl rfl (by first | decide | (simp; done) | exact of_decide_eq_true rfl | (simp; omega)) rfl rfl ?_
    refine wl_nil ?_
    refine nx_then ?_
    refine ws_seq ?_
    refine ws_seq ?_
    refine ws_region ?_
    refine wl_x (ox_fieldF fd40_3 rfl rfl) rfl rfl rfl ?_
    refine wl_x (ox_load rfl Try.underlying4 rfl rfl (by first | exact Cell.blk 0 rfl rfl | exact Cell.blk 1 rfl rfl | exact Cell.blk 2 rfl rfl | exact Cell.blk 3 rfl rfl | exact Cell.blk 4 rfl rfl)) rfl rfl rfl ?_
    refine wl_nil ?_
    refine nx_then ?_
    refine ws_cond rfl (fun ho => ?_) (fun ho => ?_)
    · skip
      refine ws_region ?_
      refine wl_x (ox_fieldF fd40_2 rfl rfl) rfl rfl rfl ?_
      refine wl_x (ox_load rfl Try.underlying3 rfl rfl (by first | exact Cell.blk 0 rfl rfl | exact Cell.blk 1 rfl rfl | exact Cell.blk 2 rfl rfl | exact Cell.blk 3 rfl rfl | exact Cell.blk 4 rfl rfl)) rfl rfl rfl ?_
      refine wl_x (ox_neg rfl rfl (by omega)) rfl rfl rfl ?_
      refine wl_x (ox_fieldF fd40_2 rfl rfl) rfl rfl rfl ?_
      first | refine wl_storeAt 0 _ rfl el3 rfl rfl (by first | rfl | exact Rd.one ‹_› | exact (RdL.rd ‹_›).one) rfl rfl (by first | decide | (simp; done) | exact of_decide_eq_true rfl | (simp; omega)) rfl rfl ?_ | refine wl_storeAt 1 _ rfl el3 rfl rfl (by first | rfl | exact Rd.one ‹_› | exact (RdL.rd ‹_›).one) rfl rfl (by first | decide | (simp; done) | exact of_decide_eq_true rfl | (simp; omega)) rfl rfl ?_ | refine wl_storeAt 2 _ rfl el3 rfl rfl (by first | rfl | exact Rd.one ‹_› | exact (RdL.rd ‹_›).one) rfl rfl (by first | decide | (simp; done) | exact of_decide_eq_true rfl | (simp; omega)) rfl rfl ?_ | refine wl_storeAt 3 _ rfl el3 rfl rfl (by first | rfl | exact Rd.one ‹_› | exact (RdL.rd ‹_›).one) rfl rfl (by first | decide | (simp; done) | exact of_decide_eq_true rfl | (simp; omega)) rfl rfl ?_ | refine wl_storeAt 4 _ rfl el3 rfl rfl (by first | rfl | exact Rd.one ‹_› | exact (RdL.rd ‹_›).one) rfl rfl (by first | decide | (simp; done) | exact of_decide_eq_true rfl | (simp; omega)) rfl rfl ?_
      refine wl_nil ?_
      refine nx_then ?_
      refine ws_region ?_
      refine wl_x (ox_move rfl rfl) rfl rfl rfl ?_
      refine wl_x (ox_loadG rfl Try.underlying40 rfl el40 rfl rfl (by first | exact Seg.blk 0 rfl | exact Seg.blk 1 rfl | exact Seg.blk 2 rfl | exact Seg.blk 3 rfl | exact Seg.blk 4 rfl | exact hR.any.seg hj)) rfl rfl rfl ?_
      refine wl_x (ox_fieldF fd40_0 rfl rfl) rfl rfl rfl ?_
      refine wl_x (ox_load rfl Try.underlying3 rfl rfl (by first | exact Cell.blk 0 rfl rfl | exact Cell.blk 1 rfl rfl | exact Cell.blk 2 rfl rfl | exact Cell.blk 3 rfl rfl | exact Cell.blk 4 rfl rfl)) rfl rfl rfl ?_
      refine wl_x (ox_buildS st40 [.int .i64 0, .int .i64 0, .int .i64 0, .bool false, .int .i64 0, .int .i64 0] [(0, _), (1, _), (2, _)] [_, _, _, _, _, _] rfl el40 rfl rfl (by repeat (first | exact trivial | refine ⟨⟨rfl, rfl, rfl⟩, ?_⟩)) rfl) rfl rfl rfl ?_
      refine wl_buildSlice [(0, _), (6, _)] [.int .i64 0, .int .i64 0, .int .i64 0, .bool false, .int .i64 0, .int .i64 0, .int .i64 0, .int .i64 0, .int .i64 0, .bool false, .int .i64 0, .int .i64 0] [_, _, _, _, _, _, _, _, _, _, _, _] rfl Try.underlying25 el40 rfl (by omega) (by first | rfl | kernel_rfl | simp [madeCells]) (by repeat (first | exact trivial | refine ⟨⟨by first | rfl | exact (hR.rd.any).cells | exact Rd.cells ‹_› | exact (RdL.rd ‹_›).cells, rfl, rfl⟩, ?_⟩)) rfl rfl rfl rfl (fun g29 => ?_)
      refine wl_appendL 2 hO (rdl_blk [l[j].tw, l[j].jk] 2 2 (List.Mem.head _) (by simp [cBr, Br.tw, Br.jk, ho]) rfl (by omega)) rfl Try.underlying25 el40 rfl (by omega) rfl rfl rfl cBr_one (by simp only [List.length_cons, List.length_nil]; omega) (by simp only [List.length_cons, List.length_nil]; omega) rfl rfl rfl (fun v' m' hO' => ?_)
      refine wl_x (ox_assign rfl rfl) rfl rfl rfl ?_
      refine wl_nil ?_
      refine nx_block ?_
      refine nx_then ?_
      refine ws_region ?_
      refine wl_x (ox_move rfl rfl) rfl rfl rfl ?_
      refine wl_x (ox_sub rfl rfl rfl (by omega)) rfl rfl rfl ?_
      refine wl_x (ox_assign rfl rfl) rfl rfl rfl ?_
      refine wl_nil ?_
      refine nx_drop (nx_drop ?_)
      refine nx_round (j + 0) _ (by omega) ⟨j, v', m', x - 1, rfl, rfl, rfl, rfl, by omega, by rw [hdr, List.reverse_cons, List.flatMap_append]; simpa using hO', by omega⟩ (by repeat (first | exact trivial | refine ⟨rfl, ?_⟩))
    · skip
      refine ws_skip ?_
      refine nx_then ?_
      refine ws_region ?_
      refine wl_x (ox_move rfl rfl) rfl rfl rfl ?_
      refine wl_x (ox_loadG rfl Try.underlying40 rfl el40 rfl rfl (by first | exact Seg.blk 0 rfl | exact Seg.blk 1 rfl | exact Seg.blk 2 rfl | exact Seg.blk 3 rfl | exact Seg.blk 4 rfl | exact hR.any.seg hj)) rfl rfl rfl ?_
      refine wl_x (ox_fieldF fd40_0 rfl rfl) rfl rfl rfl ?_
      refine wl_x (ox_load rfl Try.underlying3 rfl rfl (by first | exact Cell.blk 0 rfl rfl | exact Cell.blk 1 rfl rfl | exact Cell.blk 2 rfl rfl | exact Cell.blk 3 rfl rfl | exact Cell.blk 4 rfl rfl)) rfl rfl rfl ?_
      refine wl_x (ox_buildS st40 [.int .i64 0, .int .i64 0, .int .i64 0, .bool false, .int .i64 0, .int .i64 0] [(0, _), (1, _), (2, _)] [_, _, _, _, _, _] rfl el40 rfl rfl (by repeat (first | exact trivial | refine ⟨⟨rfl, rfl, rfl⟩, ?_⟩)) rfl) rfl rfl rfl ?_
      refine wl_buildSlice [(0, _), (6, _)] [.int .i64 0, .int .i64 0, .int .i64 0, .bool false, .int .i64 0, .int .i64 0, .int .i64 0, .int .i64 0, .int .i64 0, .bool false, .int .i64 0, .int .i64 0] [_, _, _, _, _, _, _, _, _, _, _, _] rfl Try.underlying25 el40 rfl (by omega) (by first | rfl | kernel_rfl | simp [madeCells]) (by repeat (first | exact trivial | refine ⟨⟨by first | rfl | exact (hR.rd.any).cells | exact Rd.cells ‹_› | exact (RdL.rd ‹_›).cells, rfl, rfl⟩, ?_⟩)) rfl rfl rfl rfl (fun g29 => ?_)
      refine wl_appendL 2 hO (rdl_blk [l[j].tw, l[j].jk] 2 2 (List.Mem.head _) (by simp [cBr, Br.tw, Br.jk, ho]) rfl (by omega)) rfl Try.underlying25 el40 rfl (by omega) rfl rfl rfl cBr_one (by simp only [List.length_cons, List.length_nil]; omega) (by simp only [List.length_cons, List.length_nil]; omega) rfl rfl rfl (fun v' m' hO' => ?_)
      refine wl_x (ox_assign rfl rfl) rfl rfl rfl ?_
      refine wl_nil ?_
      refine nx_block ?_
      refine nx_then ?_
      refine ws_region ?_
      refine wl_x (ox_move rfl rfl) rfl rfl rfl ?_
      refine wl_x (ox_sub rfl rfl rfl (by omega)) rfl rfl rfl ?_
      refine wl_x (ox_assign rfl rfl) rfl rfl rfl ?_
      refine wl_nil ?_
      refine nx_drop (nx_drop ?_)
      refine nx_round (j + 0) _ (by omega) ⟨j, v', m', x - 1, rfl, rfl, rfl, rfl, by omega, by rw [hdr, List.reverse_cons, List.flatMap_append]; simpa using hO', by omega⟩ (by repeat (first | exact trivial | refine ⟨rfl, ?_⟩))
  · skip
    obtain rfl : k = 0 := by omega
    refine ws_exit ?_
    refine nx_then_exit ?_
    refine nx_then_exit ?_
    refine nx_block_exit ?_
    refine nx_then ?_
    refine ws_seq ?_
    refine ws_region ?_
    refine wl_x (ox_move rfl rfl) rfl rfl rfl ?_
    refine wl_x (ox_assign rfl rfl) rfl rfl rfl ?_
    refine wl_nil ?_
    refine nx_then ?_
    refine ws_ret ?_
    refine nx_freezeL hO (fun h' hle hR' => ?_)
    exact nx_ret1 rfl rfl (⟨rfl, by simpa [turned] using hR'⟩)
end Go.Proofs.Ythdkhnjnhhofgaa
