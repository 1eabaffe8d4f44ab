/- Bars as keys. -/
import Derived.Test.YthdkhnjnhhofgaaPA
import Derived.Test.YthdkhnjnhhofgaaEC
import Derived.DeepKeys4
import Derived.WalkArith
import Derived.Test.YthdkhnjnhhofgaaPf
set_option linter.unusedSimpArgs false
set_option linter.unusedVariables false
set_option maxRecDepth 100000
namespace Go.Proofs.Ythdkhnjnhhofgaa
open Go.Eng Go.RowKit Go.Kuhn

def kBr (b : Br) : Value := .agg (cBr b).toArray
structure KOk (b : Br) : Prop where
  k1 : I64 b.dim
  k2 : I64 b.birth
  k3 : I64 b.death
  k4 : I64 b.low
  k5 : I64 b.high
theorem wf64 {n : Int} (h : I64 n) : (Lit.int .i64 n).wf = true := WalkArith.wf_i64 h
theorem laidOutQ : laidOutB Try.prog = true := by kernel_rfl
theorem brKeys : Keys Try.prog 40 kBr KOk where
  law := Maps.Keyed.of_law (deep_law_laid laidOutQ (m := 9) (by decide) (of_decide_eq_true (by kernel_rfl)) (by kernel_rfl) (by rw [Try.underlying40]))
  inj := fun a b h => by
    unfold kBr cBr at h
    simp at h
    cases a; cases b; simp_all
  key := fun b h => by
    obtain ⟨h1, h2, h3, h4, h5⟩ := h
    have w1 := wf64 h1
    have w2 := wf64 h2
    have w3 := wf64 h3
    have w4 := wf64 h4
    have w5 := wf64 h5
    have hkt : Try.prog.keyType 40 = true := by kernel_rfl
    have hfm : (kBr b).formed Try.prog 40 = true := by
      unfold Value.formed kBr
      simp only [Try.underlying40]
      have : Try.prog.cellsOf 40 = 6 := by kernel_rfl
      simp [this, cBr]
    have hc40 : Try.prog.cellsOf 40 = 6 := by kernel_rfl
    have hc3 : Try.prog.cellsOf 3 = 1 := by kernel_rfl
    have hc4 : Try.prog.cellsOf 4 = 1 := by kernel_rfl
    obtain ⟨n, hn⟩ : ∃ n, Try.prog.types.size = n + 1 := ⟨Try.prog.types.size - 1, by have : 0 < Try.prog.types.size := of_decide_eq_true (by kernel_rfl); omega⟩
    have hkl : ∃ ls, Try.prog.keyLits (Try.prog.types.size + 1) 40 (kBr b).cells.toList = some ls := by
      rw [hn]
      refine ⟨[.int .i64 b.dim, .int .i64 b.birth, .int .i64 b.death, .bool b.opn, .int .i64 b.low, .int .i64 b.high], ?_⟩
      simp [Program.keyLits, Try.underlying40, Try.underlying3, Try.underlying4, kBr, Value.cells, cBr, hc40, hc3, hc4, w1, w2, w3, w4, w5]
    obtain ⟨ls, hls⟩ := hkl
    unfold keyOf
    simp only [Try.underlying40, hkt, hfm, Bool.and_self, if_true, hls, Option.map_some]
    exact ⟨_, rfl⟩
end Go.Proofs.Ythdkhnjnhhofgaa

/- Walks: bars are tallied. -/
set_option linter.unusedSimpArgs false
set_option linter.unusedVariables false
set_option maxRecDepth 100000
namespace Go.Proofs.Ythdkhnjnhhofgaa
open Go.Eng Go.RowKit Go.Kuhn

/-- What a bar counts as. -/
def Br.norm (b : Br) : Br := ⟨b.dim, b.birth, if b.opn then 0 else b.death, b.opn, 0, 0⟩
abbrev vI (n : Int) : Value := .int .i64 n
theorem zero3 (w : World) : (zeroValue 3).run Try.prog w = .ok (vI 0) w := by kernel_rfl
/-- What a map tallies. -/
def TV (T : List (Br × Int)) (f : Br → Int) : Prop := ∀ a, (getK T a).getD 0 = f a
theorem TV.add {T : List (Br × Int)} {f : Br → Int} (h : TV T f) (b : Br) (k x : Int) (hx : x = f b) : TV (setT (setT T b x) b (x + k)) (fun a => f a + if a = b then k else 0) := by
  intro a
  rw [getK_setT, getK_setT]
  by_cases e : a = b
  · subst e; simp [hx]
  · simp [e, h a]
theorem TV.step {T : List (Br × Int)} {f : Br → Int} {l : List Br} {k : Int} (h : TV T (fun a => f a + k * (l.count a : Nat))) (b : Br) (x : Int) (hx : (getK T b).getD 0 = x) : TV (setT (setT T b x) b (x + k)) (fun a => f a + k * ((l ++ [b]).count a : Nat)) := by
  intro a
  rw [TV.add h b k x (by rw [← hx]; exact h b) a]
  show f a + k * (l.count a : Nat) + (if a = b then k else 0) = f a + k * ((l ++ [b]).count a : Nat)
  rw [List.count_append]
  by_cases e : a = b
  · subst e; simp [Int.mul_add]; omega
  · have : [b].count a = 0 := List.count_eq_zero.2 (by simpa using e)
    rw [if_neg e, this]; simp
theorem getK_touch (T : List (Br × Int)) (b : Br) (x : Int) : (getK (setT T b x) b).getD 0 = x := by rw [getK_setT]; simp
theorem kBr_load {h : Hp} {ms : List Hp} (g : Nat) (i : Nat) (b : Br) (hm : ms[i]? = some (Blk g 40 (cBr b))) : Seg h ms ⟨g, 0, none⟩ (cBr b) := Seg.blk i hm

theorem same1_ok (l : List Br) (vl : Value) (by_ : Int) (gt g : Nat) (m : Hp) (T : List (Br × Int)) (bs : List Nat) (f : Br → Int) (h : Hp) (hR : RdL cBr 6 h [] vl l) (hl : l.length ≤ 1000000) (hA : ∀ b ∈ l, KOk b.norm) (hby : -1 ≤ by_ ∧ by_ ≤ 1) (hT : ∀ ms, Cell h ms ⟨gt, 0, none⟩ (.map (some g))) (O : OwnM kBr vI g KOk m T bs) (hf : TV T f) (hfb : ∀ a, -1000000 ≤ f a ∧ f a ≤ 1000000) :
    FnT Try.prog 43 #[vl, .int .i64 by_, .pointer (some ⟨gt, 0, none⟩)] h [m] (fun r h' ms' => ∃ m' T' bs', ms' = [m'] ∧ OwnM kBr vI g KOk m' T' bs' ∧ TV T' (fun a => f a + by_ * (((l.filter Br.cnt).map Br.norm).count a : Nat))) := by
  refine fn_enter Try.func43 Try.ntmps43 rfl rfl (fun w0 hw0 => ?_)
  simp only [argS]
  refine ws_seq ?_
  refine ws_region ?_
  refine wl_x (ox_move rfl rfl) rfl rfl rfl ?_
  refine wl_call_ (pre := []) rfl Try.call26 rfl (filtered_ok l vl 31 [] Br.cnt h hR (by omega) Try.call31 (fun b _ ms => counts_ok b h ms)) rfl rfl rfl rfl (fun vp h1 _ l1 hL => ?_)
  obtain ⟨rfl, hRp⟩ := hL
  have hpl : (l.filter Br.cnt).length ≤ l.length := List.length_filter_le _ _
  have hpA : ∀ b ∈ l.filter Br.cnt, KOk b.norm := fun b hb => hA b (List.mem_filter.1 hb).1
  generalize l.filter Br.cnt = p at hRp hpl hpA ⊢
  first | refine wl_x (ox_len (ty := 25) rfl Try.underlying25 rfl) rfl rfl rfl ?_ | refine wl_x (ox_lenR hRp.rd.any rfl Try.underlying25 rfl) rfl rfl rfl ?_
  refine wl_x (ox_move rfl rfl) rfl rfl rfl ?_
  refine wl_nil ?_
  refine nx_then ?_
  refine ws_block ?_
  have hT1 : ∀ ms, Cell h1 ms ⟨gt, 0, none⟩ (.map (some g)) := fun ms => (hT ms).le l1
  refine ws_loop (fun n s h' ms' => ∃ (i : Nat) (m' : Hp) (T' : List (Br × Int)) (bs' : List Nat), n = p.length - i ∧ s = [(1, .int .i64 by_), (2, .pointer (some ⟨gt, 0, none⟩)), (8, vp), (9, .int .i64 p.length), (10, .int .i64 i)] ∧ h1 = h' ∧ ms' = [m'] ∧ i ≤ p.length ∧ OwnM kBr vI g KOk m' T' bs' ∧ TV T' (fun a => f a + by_ * (((p.take i).map Br.norm).count a : Nat)))
    (p.length - 0) _ ⟨0, m, T, bs, rfl, rfl, rfl, rfl, by omega, O, by simpa using hf⟩ (by repeat (first | exact trivial | refine ⟨rfl, ?_⟩)) ?_
  clear O hf T bs
  rintro n s h' ms' ⟨i, m, T, bs, rfl, rfl, rfl, rfl, hi, O, hf⟩
  refine ws_seq ?_
  refine ws_region ?_
  refine wl_x (ox_lss rfl rfl rfl) rfl rfl rfl ?_
  refine wl_nil ?_
  refine nx_then ?_
  refine ws_seq ?_
  refine ws_if rfl (fun hlt => ?_) (fun hlt => ?_)
  · skip
    have hip : i < p.length := by omega
    have hts := take_succ_map Br.norm p i hip
    have hkb := hpA _ (List.getElem_mem hip)
    refine ws_skip ?_
    refine nx_then ?_
    refine ws_cut (fun s h' ms' => ∃ (m' : Hp) (T' : List (Br × Int)) (bs' : List Nat) (g6 : Nat), s = [(1, .int .i64 by_), (2, .pointer (some ⟨gt, 0, none⟩)), (8, vp), (9, .int .i64 p.length), (10, .int .i64 i)] ∧ h1 = h' ∧ ms' = [Blk g6 40 (cBr p[i].norm), m'] ∧ OwnM kBr vI g KOk m' T' bs' ∧ TV T' (fun a => f a + by_ * (((p.take (i + 1)).map Br.norm).count a : Nat))) ?_ (fun s h ms hI => ?_)
    · skip
      refine ws_block ?_
      refine ws_seq ?_
      refine ws_region ?_
      first | refine wl_x (ox_index _ rfl Try.underlying25 el40 rfl rfl rfl (by omega)) rfl rfl rfl ?_ | refine wl_x (ox_indexR _ hRp.rd.any rfl Try.underlying25 el40 rfl rfl rfl (by omega)) rfl rfl rfl ?_
      refine wl_x (ox_loadG rfl Try.underlying40 rfl el40 rfl rfl (by first | exact hRp.any.seg hip)) rfl rfl rfl ?_
      refine wl_alloc [.int .i64 0, .int .i64 0, .int .i64 0, .bool false, .int .i64 0, .int .i64 0] rfl el40 rfl rfl rfl rfl (fun g6 => ?_)
      first | refine wl_storeAll 0 [_, _, _, _, _, _] rfl el40 rfl rfl rfl (by first | (simp [Value.oneCell']; done) | (simp [(hRp.rd.any).one]; done) | simp [Value.oneCell', (hRp.rd.any).one]) rfl rfl rfl rfl rfl ?_ | refine wl_storeAll 1 [_, _, _, _, _, _] rfl el40 rfl rfl rfl (by first | (simp [Value.oneCell']; done) | (simp [(hRp.rd.any).one]; done) | simp [Value.oneCell', (hRp.rd.any).one]) rfl rfl rfl rfl rfl ?_ | refine wl_storeAll 2 [_, _, _, _, _, _] rfl el40 rfl rfl rfl (by first | (simp [Value.oneCell']; done) | (simp [(hRp.rd.any).one]; done) | simp [Value.oneCell', (hRp.rd.any).one]) rfl rfl rfl rfl rfl ?_ | refine wl_storeAll 3 [_, _, _, _, _, _] rfl el40 rfl rfl rfl (by first | (simp [Value.oneCell']; done) | (simp [(hRp.rd.any).one]; done) | simp [Value.oneCell', (hRp.rd.any).one]) rfl rfl rfl rfl rfl ?_ | refine wl_storeAll 4 [_, _, _, _, _, _] rfl el40 rfl rfl rfl (by first | (simp [Value.oneCell']; done) | (simp [(hRp.rd.any).one]; done) | simp [Value.oneCell', (hRp.rd.any).one]) rfl rfl rfl rfl rfl ?_
      refine wl_nil ?_
      refine nx_then ?_
      refine ws_seq ?_
      refine ws_region ?_
      refine wl_x (ox_fieldF fd40_4 rfl rfl) rfl rfl rfl ?_
      first | refine wl_storeAt 0 _ rfl el3 rfl rfl (by first | rfl | exact Rd.one ‹_› | exact (RdL.rd ‹_›).one) rfl rfl (by first | decide | (simp; done) | exact of_decide_eq_true rfl | (simp; omega)) rfl rfl ?_ | refine wl_storeAt 1 _ rfl el3 rfl rfl (by first | rfl | exact Rd.one ‹_› | exact (RdL.rd ‹_›).one) rfl rfl (by first | decide | (simp; done) | exact of_decide_eq_true rfl | (simp; omega)) rfl rfl ?_ | refine wl_storeAt 2 _ rfl el3 rfl rfl (by first | rfl | exact Rd.one ‹_› | exact (RdL.rd ‹_›).one) rfl rfl (by first | decide | (simp; done) | exact of_decide_eq_true rfl | (simp; omega)) rfl rfl ?_ | refine wl_storeAt 3 _ rfl el3 rfl rfl (by first | rfl | exact Rd.one ‹_› | exact (RdL.rd ‹_›).one) rfl rfl (by first | decide | (simp; done) | exact of_decide_eq_true rfl | (simp; omega)) rfl rfl ?_ | refine wl_storeAt 4 _ rfl el3 rfl rfl (by first | rfl | exact Rd.one ‹_› | exact (RdL.rd ‹_›).one) rfl rfl (by first | decide | (simp; done) | exact of_decide_eq_true rfl | (simp; omega)) rfl rfl ?_
      refine wl_x (ox_fieldF fd40_5 rfl rfl) rfl rfl rfl ?_
      first | refine wl_storeAt 0 _ rfl el3 rfl rfl (by first | rfl | exact Rd.one ‹_› | exact (RdL.rd ‹_›).one) rfl rfl (by first | decide | (simp; done) | exact of_decide_eq_true rfl | (simp; omega)) rfl rfl ?_ | refine wl_storeAt 1 _ rfl el3 rfl rfl (by first | rfl | exact Rd.one ‹_› | exact (RdL.rd ‹_›).one) rfl rfl (by first | decide | (simp; done) | exact of_decide_eq_true rfl | (simp; omega)) rfl rfl ?_ | refine wl_storeAt 2 _ rfl el3 rfl rfl (by first | rfl | exact Rd.one ‹_› | exact (RdL.rd ‹_›).one) rfl rfl (by first | decide | (simp; done) | exact of_decide_eq_true rfl | (simp; omega)) rfl rfl ?_ | refine wl_storeAt 3 _ rfl el3 rfl rfl (by first | rfl | exact Rd.one ‹_› | exact (RdL.rd ‹_›).one) rfl rfl (by first | decide | (simp; done) | exact of_decide_eq_true rfl | (simp; omega)) rfl rfl ?_ | refine wl_storeAt 4 _ rfl el3 rfl rfl (by first | rfl | exact Rd.one ‹_› | exact (RdL.rd ‹_›).one) rfl rfl (by first | decide | (simp; done) | exact of_decide_eq_true rfl | (simp; omega)) rfl rfl ?_
      refine wl_nil ?_
      refine nx_then ?_
      refine ws_cut (fun s h' ms' => s = [(1, .int .i64 by_), (2, .pointer (some ⟨gt, 0, none⟩)), (6, .pointer (some ⟨g6, 0, none⟩)), (8, vp), (9, .int .i64 p.length), (10, .int .i64 i)] ∧ h1 = h' ∧ ms' = [Blk g6 40 (cBr p[i].norm), m]) ?_ (fun s h ms hI => ?_)
      · skip
        refine ws_seq ?_
        refine ws_region ?_
        refine wl_x (ox_fieldF fd40_3 rfl rfl) rfl rfl rfl ?_
        refine wl_x (ox_load rfl Try.underlying4 rfl rfl (by first | exact Cell.blk 0 rfl rfl | exact Cell.blk 1 rfl rfl | exact Cell.blk 2 rfl rfl | exact Cell.blk 3 rfl rfl | exact Cell.blk 4 rfl rfl)) rfl rfl rfl ?_
        refine wl_nil ?_
        refine nx_then ?_
        refine ws_cond rfl (fun ho => ?_) (fun ho => ?_)
        · skip
          refine ws_region ?_
          refine wl_x (ox_fieldF fd40_2 rfl rfl) rfl rfl rfl ?_
          first | refine wl_storeAt 0 _ rfl el3 rfl rfl (by first | rfl | exact Rd.one ‹_› | exact (RdL.rd ‹_›).one) rfl rfl (by first | decide | (simp; done) | exact of_decide_eq_true rfl | (simp; omega)) rfl rfl ?_ | refine wl_storeAt 1 _ rfl el3 rfl rfl (by first | rfl | exact Rd.one ‹_› | exact (RdL.rd ‹_›).one) rfl rfl (by first | decide | (simp; done) | exact of_decide_eq_true rfl | (simp; omega)) rfl rfl ?_ | refine wl_storeAt 2 _ rfl el3 rfl rfl (by first | rfl | exact Rd.one ‹_› | exact (RdL.rd ‹_›).one) rfl rfl (by first | decide | (simp; done) | exact of_decide_eq_true rfl | (simp; omega)) rfl rfl ?_ | refine wl_storeAt 3 _ rfl el3 rfl rfl (by first | rfl | exact Rd.one ‹_› | exact (RdL.rd ‹_›).one) rfl rfl (by first | decide | (simp; done) | exact of_decide_eq_true rfl | (simp; omega)) rfl rfl ?_ | refine wl_storeAt 4 _ rfl el3 rfl rfl (by first | rfl | exact Rd.one ‹_› | exact (RdL.rd ‹_›).one) rfl rfl (by first | decide | (simp; done) | exact of_decide_eq_true rfl | (simp; omega)) rfl rfl ?_
          refine wl_nil ?_
          refine nx_meet _ ⟨rfl, rfl, by simp [Br.norm, cBr, ho]⟩ (by repeat (first | exact trivial | refine ⟨rfl, ?_⟩))
        · skip
          refine ws_skip ?_
          refine nx_meet _ ⟨rfl, rfl, by simp [Br.norm, cBr, ho]⟩ (by repeat (first | exact trivial | refine ⟨rfl, ?_⟩))
      obtain ⟨rfl, rfl, rfl⟩ := hI
      · skip
        have hcnt : ((p.take i).map Br.norm).count p[i].norm ≤ 1000000 := Nat.le_trans List.count_le_length (by simp; omega)
        obtain ⟨v0, hv0⟩ : ∃ v0, (getK T p[i].norm).getD 0 = v0 := ⟨_, rfl⟩
        have hb0 : -2000000 ≤ v0 ∧ v0 ≤ 2000000 := by
          have h1 := hf p[i].norm
          rw [hv0] at h1
          simp only at h1
          have h2 := hfb p[i].norm
          rcases (by omega : by_ = -1 ∨ by_ = 0 ∨ by_ = 1) with rfl | rfl | rfl <;> omega
        have hst := hf.step p[i].norm v0 hv0
        rw [← hts] at hst
        have hv1 := getK_touch T p[i].norm v0
        generalize p[i].norm = kb at *
        refine ws_anyP (n := 8) (bs := [false, false, false, true, false, false, false, false]) [false, false, false, true] fol rfl (by kernel_rfl) (by kernel_rfl) rfl rfl ?_
        refine pz_x rfl rfl rfl rfl (px_move rfl rfl) ?_
        simp only [zapL, zap, List.cons_append, List.nil_append]
        refine wa_step [0, 1] (by kernel_rfl) rfl ?_
        refine wal_cons rfl ?_ ?_
        · skip
          refine wl_x (ox_load rfl Try.underlying64 rfl rfl (by first | exact hT1 _)) rfl rfl rfl ?_
          refine wl_nil (nx_qa ?_)
          refine wa_step [1] (by kernel_rfl) rfl ?_
          refine wal_cons rfl ?_ ?_
          · skip
            refine wl_x (ox_loadG rfl Try.underlying40 rfl el40 rfl rfl (kBr_load g6 0 kb rfl)) rfl rfl rfl ?_
            refine wl_nil (nx_qa ?_)
            refine wa_step [2, 5] (by kernel_rfl) rfl ?_
            refine wal_cons rfl ?_ ?_
            · skip
              refine wl_x (ox_lookupV (V := vI) kb v0 hv0 brKeys O (by simp) rfl Try.underlying64 zero3 rfl rfl hkb) rfl rfl rfl ?_
              refine wl_nil (nx_qa ?_)
              refine wa_step [4, 5] (by kernel_rfl) rfl ?_
              refine wal_cons rfl ?_ ?_
              · skip
                refine wl_x (ox_add rfl rfl rfl (by omega)) rfl rfl rfl ?_
                refine wl_nil (nx_qa ?_)
                refine wa_step [5] (by kernel_rfl) rfl ?_
                refine wal_cons rfl ?_ ?_
                · skip
                  refine wl_mapEntry (V := vI) (z := (0 : Int)) 1 kb brKeys O rfl rfl Try.underlying64 zero3 rfl rfl hkb rfl rfl rfl (fun m2 bs2 j2 b2 O2 hj2 hb2 => ?_)
                  refine wl_nil (nx_qa ?_)
                  rw [hv0] at O2 hj2 ⊢
                  refine wa_step [6] (by kernel_rfl) rfl ?_
                  refine wal_cons rfl ?_ ?_
                  · skip
                    refine wl_x (ox_extract rfl rfl rfl) rfl rfl rfl ?_
                    refine wl_nil (nx_qa ?_)
                    refine wa_step [7] (by kernel_rfl) rfl ?_
                    refine wal_cons rfl ?_ ?_
                    · skip
                      refine wl_entryStore 1 (v0 + by_) O2 hj2 hb2 rfl rfl rfl rfl rfl rfl rfl (fun m3 O3 => ?_)
                      refine wl_nil (nx_qa ?_)
                      refine wa_end (by kernel_rfl) ?_
                      refine nx_block ?_
                      refine nx_meet _ ⟨m3, _, bs2, g6, rfl, rfl, rfl, O3, hst⟩ (by repeat (first | exact trivial | refine ⟨rfl, ?_⟩))
                    exact wal_nil
                  exact wal_nil
                exact wal_nil
              refine wal_cons rfl ?_ ?_
              · skip
                refine wl_mapEntry (V := vI) (z := (0 : Int)) 1 kb brKeys O rfl rfl Try.underlying64 zero3 rfl rfl hkb rfl rfl rfl (fun m2 bs2 j2 b2 O2 hj2 hb2 => ?_)
                refine wl_nil (nx_qa ?_)
                rw [hv0] at O2 hj2 ⊢
                refine wa_step [4, 6] (by kernel_rfl) rfl ?_
                refine wal_cons rfl ?_ ?_
                · skip
                  refine wl_x (ox_add rfl rfl rfl (by omega)) rfl rfl rfl ?_
                  refine wl_nil (nx_qa ?_)
                  refine wa_step [6] (by kernel_rfl) rfl ?_
                  refine wal_cons rfl ?_ ?_
                  · skip
                    refine wl_x (ox_extract rfl rfl rfl) rfl rfl rfl ?_
                    refine wl_nil (nx_qa ?_)
                    refine wa_step [7] (by kernel_rfl) rfl ?_
                    refine wal_cons rfl ?_ ?_
                    · skip
                      refine wl_entryStore 1 (v0 + by_) O2 hj2 hb2 rfl rfl rfl rfl rfl rfl rfl (fun m3 O3 => ?_)
                      refine wl_nil (nx_qa ?_)
                      refine wa_end (by kernel_rfl) ?_
                      refine nx_block ?_
                      refine nx_meet _ ⟨m3, _, bs2, g6, rfl, rfl, rfl, O3, hst⟩ (by repeat (first | exact trivial | refine ⟨rfl, ?_⟩))
                    exact wal_nil
                  exact wal_nil
                refine wal_cons rfl ?_ ?_
                · skip
                  refine wl_x (ox_extract rfl rfl rfl) rfl rfl rfl ?_
                  refine wl_nil (nx_qa ?_)
                  refine wa_step [4] (by kernel_rfl) rfl ?_
                  refine wal_cons rfl ?_ ?_
                  · skip
                    refine wl_x (ox_add rfl rfl rfl (by omega)) rfl rfl rfl ?_
                    refine wl_nil (nx_qa ?_)
                    refine wa_step [7] (by kernel_rfl) rfl ?_
                    refine wal_cons rfl ?_ ?_
                    · skip
                      refine wl_entryStore 1 (v0 + by_) O2 hj2 hb2 rfl rfl rfl rfl rfl rfl rfl (fun m3 O3 => ?_)
                      refine wl_nil (nx_qa ?_)
                      refine wa_end (by kernel_rfl) ?_
                      refine nx_block ?_
                      refine nx_meet _ ⟨m3, _, bs2, g6, rfl, rfl, rfl, O3, hst⟩ (by repeat (first | exact trivial | refine ⟨rfl, ?_⟩))
                    exact wal_nil
                  exact wal_nil
                exact wal_nil
              exact wal_nil
            refine wal_cons rfl ?_ ?_
            · skip
              refine wl_mapEntry (V := vI) (z := (0 : Int)) 1 kb brKeys O rfl rfl Try.underlying64 zero3 rfl rfl hkb rfl rfl rfl (fun m2 bs2 j2 b2 O2 hj2 hb2 => ?_)
              refine wl_nil (nx_qa ?_)
              rw [hv0] at O2 hj2 ⊢
              refine wa_step [2, 6] (by kernel_rfl) rfl ?_
              refine wal_cons rfl ?_ ?_
              · skip
                refine wl_x (ox_lookupV (V := vI) kb v0 hv1 brKeys O2 (by simp) rfl Try.underlying64 zero3 rfl rfl hkb) rfl rfl rfl ?_
                refine wl_nil (nx_qa ?_)
                refine wa_step [4, 6] (by kernel_rfl) rfl ?_
                refine wal_cons rfl ?_ ?_
                · skip
                  refine wl_x (ox_add rfl rfl rfl (by omega)) rfl rfl rfl ?_
                  refine wl_nil (nx_qa ?_)
                  refine wa_step [6] (by kernel_rfl) rfl ?_
                  refine wal_cons rfl ?_ ?_
                  · skip
                    refine wl_x (ox_extract rfl rfl rfl) rfl rfl rfl ?_
                    refine wl_nil (nx_qa ?_)
                    refine wa_step [7] (by kernel_rfl) rfl ?_
                    refine wal_cons rfl ?_ ?_
                    · skip
                      refine wl_entryStore 1 (v0 + by_) O2 hj2 hb2 rfl rfl rfl rfl rfl rfl rfl (fun m3 O3 => ?_)
                      refine wl_nil (nx_qa ?_)
                      refine wa_end (by kernel_rfl) ?_
                      refine nx_block ?_
                      refine nx_meet _ ⟨m3, _, bs2, g6, rfl, rfl, rfl, O3, hst⟩ (by repeat (first | exact trivial | refine ⟨rfl, ?_⟩))
                    exact wal_nil
                  exact wal_nil
                refine wal_cons rfl ?_ ?_
                · skip
                  refine wl_x (ox_extract rfl rfl rfl) rfl rfl rfl ?_
                  refine wl_nil (nx_qa ?_)
                  refine wa_step [4] (by kernel_rfl) rfl ?_
                  refine wal_cons rfl ?_ ?_
                  · skip
                    refine wl_x (ox_add rfl rfl rfl (by omega)) rfl rfl rfl ?_
                    refine wl_nil (nx_qa ?_)
                    refine wa_step [7] (by kernel_rfl) rfl ?_
                    refine wal_cons rfl ?_ ?_
                    · skip
                      refine wl_entryStore 1 (v0 + by_) O2 hj2 hb2 rfl rfl rfl rfl rfl rfl rfl (fun m3 O3 => ?_)
                      refine wl_nil (nx_qa ?_)
                      refine wa_end (by kernel_rfl) ?_
                      refine nx_block ?_
                      refine nx_meet _ ⟨m3, _, bs2, g6, rfl, rfl, rfl, O3, hst⟩ (by repeat (first | exact trivial | refine ⟨rfl, ?_⟩))
                    exact wal_nil
                  exact wal_nil
                exact wal_nil
              refine wal_cons rfl ?_ ?_
              · skip
                refine wl_x (ox_extract rfl rfl rfl) rfl rfl rfl ?_
                refine wl_nil (nx_qa ?_)
                refine wa_step [2] (by kernel_rfl) rfl ?_
                refine wal_cons rfl ?_ ?_
                · skip
                  refine wl_x (ox_lookupV (V := vI) kb v0 hv1 brKeys O2 (by simp) rfl Try.underlying64 zero3 rfl rfl hkb) rfl rfl rfl ?_
                  refine wl_nil (nx_qa ?_)
                  refine wa_step [4] (by kernel_rfl) rfl ?_
                  refine wal_cons rfl ?_ ?_
                  · skip
                    refine wl_x (ox_add rfl rfl rfl (by omega)) rfl rfl rfl ?_
                    refine wl_nil (nx_qa ?_)
                    refine wa_step [7] (by kernel_rfl) rfl ?_
                    refine wal_cons rfl ?_ ?_
                    · skip
                      refine wl_entryStore 1 (v0 + by_) O2 hj2 hb2 rfl rfl rfl rfl rfl rfl rfl (fun m3 O3 => ?_)
                      refine wl_nil (nx_qa ?_)
                      refine wa_end (by kernel_rfl) ?_
                      refine nx_block ?_
                      refine nx_meet _ ⟨m3, _, bs2, g6, rfl, rfl, rfl, O3, hst⟩ (by repeat (first | exact trivial | refine ⟨rfl, ?_⟩))
                    exact wal_nil
                  exact wal_nil
                exact wal_nil
              exact wal_nil
            exact wal_nil
          exact wal_nil
        refine wal_cons rfl ?_ ?_
        · skip
          refine wl_x (ox_loadG rfl Try.underlying40 rfl el40 rfl rfl (kBr_load g6 0 kb rfl)) rfl rfl rfl ?_
          refine wl_nil (nx_qa ?_)
          refine wa_step [0] (by kernel_rfl) rfl ?_
          refine wal_cons rfl ?_ ?_
          · skip
            refine wl_x (ox_load rfl Try.underlying64 rfl rfl (by first | exact hT1 _)) rfl rfl rfl ?_
            refine wl_nil (nx_qa ?_)
            refine wa_step [2, 5] (by kernel_rfl) rfl ?_
            refine wal_cons rfl ?_ ?_
            · skip
              refine wl_x (ox_lookupV (V := vI) kb v0 hv0 brKeys O (by simp) rfl Try.underlying64 zero3 rfl rfl hkb) rfl rfl rfl ?_
              refine wl_nil (nx_qa ?_)
              refine wa_step [4, 5] (by kernel_rfl) rfl ?_
              refine wal_cons rfl ?_ ?_
              · skip
                refine wl_x (ox_add rfl rfl rfl (by omega)) rfl rfl rfl ?_
                refine wl_nil (nx_qa ?_)
                refine wa_step [5] (by kernel_rfl) rfl ?_
                refine wal_cons rfl ?_ ?_
                · skip
                  refine wl_mapEntry (V := vI) (z := (0 : Int)) 1 kb brKeys O rfl rfl Try.underlying64 zero3 rfl rfl hkb rfl rfl rfl (fun m2 bs2 j2 b2 O2 hj2 hb2 => ?_)
                  refine wl_nil (nx_qa ?_)
                  rw [hv0] at O2 hj2 ⊢
                  refine wa_step [6] (by kernel_rfl) rfl ?_
                  refine wal_cons rfl ?_ ?_
                  · skip
                    refine wl_x (ox_extract rfl rfl rfl) rfl rfl rfl ?_
                    refine wl_nil (nx_qa ?_)
                    refine wa_step [7] (by kernel_rfl) rfl ?_
                    refine wal_cons rfl ?_ ?_
                    · skip
                      refine wl_entryStore 1 (v0 + by_) O2 hj2 hb2 rfl rfl rfl rfl rfl rfl rfl (fun m3 O3 => ?_)
                      refine wl_nil (nx_qa ?_)
                      refine wa_end (by kernel_rfl) ?_
                      refine nx_block ?_
                      refine nx_meet _ ⟨m3, _, bs2, g6, rfl, rfl, rfl, O3, hst⟩ (by repeat (first | exact trivial | refine ⟨rfl, ?_⟩))
                    exact wal_nil
                  exact wal_nil
                exact wal_nil
              refine wal_cons rfl ?_ ?_
              · skip
                refine wl_mapEntry (V := vI) (z := (0 : Int)) 1 kb brKeys O rfl rfl Try.underlying64 zero3 rfl rfl hkb rfl rfl rfl (fun m2 bs2 j2 b2 O2 hj2 hb2 => ?_)
                refine wl_nil (nx_qa ?_)
                rw [hv0] at O2 hj2 ⊢
                refine wa_step [4, 6] (by kernel_rfl) rfl ?_
                refine wal_cons rfl ?_ ?_
                · skip
                  refine wl_x (ox_add rfl rfl rfl (by omega)) rfl rfl rfl ?_
                  refine wl_nil (nx_qa ?_)
                  refine wa_step [6] (by kernel_rfl) rfl ?_
                  refine wal_cons rfl ?_ ?_
                  · skip
                    refine wl_x (ox_extract rfl rfl rfl) rfl rfl rfl ?_
                    refine wl_nil (nx_qa ?_)
                    refine wa_step [7] (by kernel_rfl) rfl ?_
                    refine wal_cons rfl ?_ ?_
                    · skip
                      refine wl_entryStore 1 (v0 + by_) O2 hj2 hb2 rfl rfl rfl rfl rfl rfl rfl (fun m3 O3 => ?_)
                      refine wl_nil (nx_qa ?_)
                      refine wa_end (by kernel_rfl) ?_
                      refine nx_block ?_
                      refine nx_meet _ ⟨m3, _, bs2, g6, rfl, rfl, rfl, O3, hst⟩ (by repeat (first | exact trivial | refine ⟨rfl, ?_⟩))
                    exact wal_nil
                  exact wal_nil
                refine wal_cons rfl ?_ ?_
                · skip
                  refine wl_x (ox_extract rfl rfl rfl) rfl rfl rfl ?_
                  refine wl_nil (nx_qa ?_)
                  refine wa_step [4] (by kernel_rfl) rfl ?_
                  refine wal_cons rfl ?_ ?_
                  · skip
                    refine wl_x (ox_add rfl rfl rfl (by omega)) rfl rfl rfl ?_
                    refine wl_nil (nx_qa ?_)
                    refine wa_step [7] (by kernel_rfl) rfl ?_
                    refine wal_cons rfl ?_ ?_
                    · skip
                      refine wl_entryStore 1 (v0 + by_) O2 hj2 hb2 rfl rfl rfl rfl rfl rfl rfl (fun m3 O3 => ?_)
                      refine wl_nil (nx_qa ?_)
                      refine wa_end (by kernel_rfl) ?_
                      refine nx_block ?_
                      refine nx_meet _ ⟨m3, _, bs2, g6, rfl, rfl, rfl, O3, hst⟩ (by repeat (first | exact trivial | refine ⟨rfl, ?_⟩))
                    exact wal_nil
                  exact wal_nil
                exact wal_nil
              exact wal_nil
            refine wal_cons rfl ?_ ?_
            · skip
              refine wl_mapEntry (V := vI) (z := (0 : Int)) 1 kb brKeys O rfl rfl Try.underlying64 zero3 rfl rfl hkb rfl rfl rfl (fun m2 bs2 j2 b2 O2 hj2 hb2 => ?_)
              refine wl_nil (nx_qa ?_)
              rw [hv0] at O2 hj2 ⊢
              refine wa_step [2, 6] (by kernel_rfl) rfl ?_
              refine wal_cons rfl ?_ ?_
              · skip
                refine wl_x (ox_lookupV (V := vI) kb v0 hv1 brKeys O2 (by simp) rfl Try.underlying64 zero3 rfl rfl hkb) rfl rfl rfl ?_
                refine wl_nil (nx_qa ?_)
                refine wa_step [4, 6] (by kernel_rfl) rfl ?_
                refine wal_cons rfl ?_ ?_
                · skip
                  refine wl_x (ox_add rfl rfl rfl (by omega)) rfl rfl rfl ?_
                  refine wl_nil (nx_qa ?_)
                  refine wa_step [6] (by kernel_rfl) rfl ?_
                  refine wal_cons rfl ?_ ?_
                  · skip
                    refine wl_x (ox_extract rfl rfl rfl) rfl rfl rfl ?_
                    refine wl_nil (nx_qa ?_)
                    refine wa_step [7] (by kernel_rfl) rfl ?_
                    refine wal_cons rfl ?_ ?_
                    · skip
                      refine wl_entryStore 1 (v0 + by_) O2 hj2 hb2 rfl rfl rfl rfl rfl rfl rfl (fun m3 O3 => ?_)
                      refine wl_nil (nx_qa ?_)
                      refine wa_end (by kernel_rfl) ?_
                      refine nx_block ?_
                      refine nx_meet _ ⟨m3, _, bs2, g6, rfl, rfl, rfl, O3, hst⟩ (by repeat (first | exact trivial | refine ⟨rfl, ?_⟩))
                    exact wal_nil
                  exact wal_nil
                refine wal_cons rfl ?_ ?_
                · skip
                  refine wl_x (ox_extract rfl rfl rfl) rfl rfl rfl ?_
                  refine wl_nil (nx_qa ?_)
                  refine wa_step [4] (by kernel_rfl) rfl ?_
                  refine wal_cons rfl ?_ ?_
                  · skip
                    refine wl_x (ox_add rfl rfl rfl (by omega)) rfl rfl rfl ?_
                    refine wl_nil (nx_qa ?_)
                    refine wa_step [7] (by kernel_rfl) rfl ?_
                    refine wal_cons rfl ?_ ?_
                    · skip
                      refine wl_entryStore 1 (v0 + by_) O2 hj2 hb2 rfl rfl rfl rfl rfl rfl rfl (fun m3 O3 => ?_)
                      refine wl_nil (nx_qa ?_)
                      refine wa_end (by kernel_rfl) ?_
                      refine nx_block ?_
                      refine nx_meet _ ⟨m3, _, bs2, g6, rfl, rfl, rfl, O3, hst⟩ (by repeat (first | exact trivial | refine ⟨rfl, ?_⟩))
                    exact wal_nil
                  exact wal_nil
                exact wal_nil
              refine wal_cons rfl ?_ ?_
              · skip
                refine wl_x (ox_extract rfl rfl rfl) rfl rfl rfl ?_
                refine wl_nil (nx_qa ?_)
                refine wa_step [2] (by kernel_rfl) rfl ?_
                refine wal_cons rfl ?_ ?_
                · skip
                  refine wl_x (ox_lookupV (V := vI) kb v0 hv1 brKeys O2 (by simp) rfl Try.underlying64 zero3 rfl rfl hkb) rfl rfl rfl ?_
                  refine wl_nil (nx_qa ?_)
                  refine wa_step [4] (by kernel_rfl) rfl ?_
                  refine wal_cons rfl ?_ ?_
                  · skip
                    refine wl_x (ox_add rfl rfl rfl (by omega)) rfl rfl rfl ?_
                    refine wl_nil (nx_qa ?_)
                    refine wa_step [7] (by kernel_rfl) rfl ?_
                    refine wal_cons rfl ?_ ?_
                    · skip
                      refine wl_entryStore 1 (v0 + by_) O2 hj2 hb2 rfl rfl rfl rfl rfl rfl rfl (fun m3 O3 => ?_)
                      refine wl_nil (nx_qa ?_)
                      refine wa_end (by kernel_rfl) ?_
                      refine nx_block ?_
                      refine nx_meet _ ⟨m3, _, bs2, g6, rfl, rfl, rfl, O3, hst⟩ (by repeat (first | exact trivial | refine ⟨rfl, ?_⟩))
                    exact wal_nil
                  exact wal_nil
                exact wal_nil
              exact wal_nil
            exact wal_nil
          exact wal_nil
        exact wal_nil
    obtain ⟨m2, T2, bs2, g6, rfl, rfl, rfl, O2, hf2⟩ := hI
    · skip
      refine ws_region ?_
      refine wl_x (ox_add rfl rfl rfl (by omega)) rfl rfl rfl ?_
      refine wl_x (ox_move rfl rfl) rfl rfl rfl ?_
      refine wl_nil ?_
      refine nx_drop ?_
      refine nx_round (p.length - (i + 1)) _ (by omega) ⟨i + 1, m2, T2, bs2, rfl, rfl, rfl, rfl, by omega, O2, hf2⟩ (by repeat (first | exact trivial | refine ⟨rfl, ?_⟩))
  · skip
    refine ws_exit ?_
    refine nx_then_exit ?_
    refine nx_then_exit ?_
    refine nx_block_exit ?_
    have hpi : p.take i = p := List.take_of_length_le (by omega)
    rw [hpi] at hf
    exact nx_end0 rfl (⟨m, T, bs, rfl, O, hf⟩)
end Go.Proofs.Ythdkhnjnhhofgaa

/- Walks: whether two diagrams are the same. -/
set_option linter.unusedSimpArgs false
set_option linter.unusedVariables false
set_option maxRecDepth 100000
namespace Go.Proofs.Ythdkhnjnhhofgaa
open Go.Eng Go.RowKit Go.Kuhn

/-- The bars that count, as they count. -/
def keysOf (l : List Br) : List Br := (l.filter Br.cnt).map Br.norm
def sameB (a b : List Br) : Bool := (keysOf a).isPerm (keysOf b)
theorem sameB_iff {a b : List Br} : sameB a b = true ↔ (keysOf a).Perm (keysOf b) := List.isPerm_iff
theorem getK_mem {T : List (Br × Int)} (hn : (T.map Prod.fst).Nodup) {j : Nat} (hj : j < T.length) : getK T T[j].1 = some T[j].2 := getK_of hn (List.getElem?_eq_getElem hj)
theorem getK_cases (T : List (Br × Int)) (a : Br) : getK T a = none ∨ ∃ (j : Nat) (hj : j < T.length), T[j].1 = a ∧ getK T a = some T[j].2 := by
  unfold getK
  cases h : T.find? fun p => decide (p.1 = a) with
  | none => exact .inl rfl
  | some p =>
    have h1 := List.find?_some h
    obtain ⟨j, hj, e⟩ := List.getElem_of_mem (List.mem_of_find?_eq_some h)
    exact .inr ⟨j, hj, by rw [e]; simpa using h1, by rw [e]; rfl⟩
theorem tv_same {T : List (Br × Int)} {a b : List Br} (hf : TV T (fun x => (0 + 1 * ((keysOf a).count x : Nat)) + -1 * ((keysOf b).count x : Nat))) : (keysOf a).Perm (keysOf b) ↔ ∀ x, (getK T x).getD 0 = 0 := by
  rw [List.perm_iff_count]
  constructor
  · intro h x
    rw [hf x]; simp only; have := h x; omega
  · intro h x
    have := (hf x).symm.trans (h x)
    simp only at this
    omega

theorem same_ok (la lb : List Br) (va vb : Value) (h : Hp) (hRa : RdL cBr 6 h [] va la) (hRb : RdL cBr 6 h [] vb lb) (hla : la.length ≤ 100000) (hlb : lb.length ≤ 100000) (hA : ∀ b ∈ la, KOk b.norm) (hB : ∀ b ∈ lb, KOk b.norm) :
    FnT Try.prog 18 #[va, vb] h [] (fun r _ _ => r = .bool (sameB la lb)) := by
  refine fn_enter Try.func18 Try.ntmps18 rfl rfl (fun w0 hw0 => ?_)
  simp only [argS]
  refine ws_seq ?_
  refine ws_region ?_
  refine wl_x (ox_assign rfl rfl) rfl rfl rfl ?_
  refine wl_nil ?_
  refine nx_then ?_
  refine ws_seq ?_
  refine ws_region ?_
  refine wl_makeMap (K := kBr) (V := vI) (Ok := KOk) rfl rfl rfl rfl (fun gm m0 O0 => ?_)
  refine wl_alloc [.map none] rfl el64 rfl rfl rfl rfl (fun g5 => ?_)
  first | refine wl_storeAt 0 0 rfl el64 rfl rfl (by first | rfl | exact Rd.one ‹_› | exact (RdL.rd ‹_›).one) rfl rfl (by first | decide | (simp; done) | exact of_decide_eq_true rfl | (simp; omega)) rfl rfl ?_ | refine wl_storeAt 1 0 rfl el64 rfl rfl (by first | rfl | exact Rd.one ‹_› | exact (RdL.rd ‹_›).one) rfl rfl (by first | decide | (simp; done) | exact of_decide_eq_true rfl | (simp; omega)) rfl rfl ?_ | refine wl_storeAt 2 0 rfl el64 rfl rfl (by first | rfl | exact Rd.one ‹_› | exact (RdL.rd ‹_›).one) rfl rfl (by first | decide | (simp; done) | exact of_decide_eq_true rfl | (simp; omega)) rfl rfl ?_ | refine wl_storeAt 3 0 rfl el64 rfl rfl (by first | rfl | exact Rd.one ‹_› | exact (RdL.rd ‹_›).one) rfl rfl (by first | decide | (simp; done) | exact of_decide_eq_true rfl | (simp; omega)) rfl rfl ?_ | refine wl_storeAt 4 0 rfl el64 rfl rfl (by first | rfl | exact Rd.one ‹_› | exact (RdL.rd ‹_›).one) rfl rfl (by first | decide | (simp; done) | exact of_decide_eq_true rfl | (simp; omega)) rfl rfl ?_
  refine wl_nil ?_
  refine nx_then ?_
  refine ws_freezeB (fun h1 l1 s5 => ?_)
  have c5 : ∀ ms, Cell h1 ms ⟨g5, 0, none⟩ (.map (some gm)) := fun ms => (s5.at0 rfl).any
  have hRa := hRa.up l1
  have hRb := hRb.up l1
  refine ws_seq ?_
  refine ws_region ?_
  refine wl_x (ox_makeFunc rfl rfl rfl) rfl rfl rfl ?_
  refine wl_x (ox_assign rfl rfl) rfl rfl rfl ?_
  refine wl_nil ?_
  refine nx_then ?_
  refine ws_seq ?_
  refine ws_region ?_
  refine wl_x (ox_move rfl rfl) rfl rfl rfl ?_
  refine wl_x (ox_move rfl rfl) rfl rfl rfl ?_
  refine wl_callv_ (pre := [m0]) rfl rfl Try.call43 rfl (same1_ok la va 1 g5 gm m0 [] [] (fun _ => 0) h1 hRa (by omega) hA (by omega) c5 O0 (fun a => rfl) (by omega)) rfl rfl rfl rfl (fun r1 h2 _ l2 hL => ?_)
  obtain ⟨m1, T1, bs1, rfl, O1, hf1⟩ := hL
  simp only [List.cons_append, List.nil_append, List.append_nil]
  have c5 := fun ms => (c5 ms).le l2
  have hRb := hRb.up l2
  change TV T1 (fun a => 0 + 1 * ((keysOf la).count a : Nat)) at hf1
  have hcl : ∀ a, (keysOf la).count a ≤ 100000 := fun a => Nat.le_trans List.count_le_length (Nat.le_trans (by unfold keysOf; rw [List.length_map]; exact List.length_filter_le _ _) hla)
  refine wl_nil ?_
  refine nx_then ?_
  refine ws_seq ?_
  refine ws_region ?_
  refine wl_x (ox_move rfl rfl) rfl rfl rfl ?_
  refine wl_x (ox_move rfl rfl) rfl rfl rfl ?_
  refine wl_callv_ (pre := [m1]) rfl rfl Try.call43 rfl (same1_ok lb vb (-1) g5 gm m1 T1 bs1 _ h2 hRb (by omega) hB (by omega) c5 O1 hf1 (fun a => by have := hcl a; omega)) rfl rfl rfl rfl (fun r2 h3 _ l3 hL => ?_)
  obtain ⟨m, T, bs, rfl, O, hf⟩ := hL
  simp only [List.cons_append, List.nil_append, List.append_nil]
  have c5 := fun ms => (c5 ms).le l3
  change TV T (fun a => (0 + 1 * ((keysOf la).count a : Nat)) + -1 * ((keysOf lb).count a : Nat)) at hf
  have hS := tv_same hf
  refine wl_nil ?_
  refine nx_then ?_
  refine ws_seq ?_
  refine ws_seq ?_
  refine ws_region ?_
  refine wl_x (ox_load rfl Try.underlying64 rfl rfl (by first | exact Cell.blk0 0 rfl rfl | exact Cell.blk0 1 rfl rfl | exact Cell.blk0 2 rfl rfl | exact Cell.blk0 3 rfl rfl | exact Cell.blk0 4 rfl rfl | exact c5 _)) rfl rfl rfl ?_
  refine wl_range O (by simp) rfl Try.underlying64 rfl rfl rfl rfl (fun gi mi0 I0 => ?_)
  refine wl_nil ?_
  refine nx_then ?_
  refine ws_block ?_
  refine ws_loop (fun n s h' ms' => ∃ (vis : List Nat) (mi : Hp), n = T.length - vis.length ∧ s = [(18, .pointer (some ⟨gi, 0, none⟩))] ∧ h3 = h' ∧ ms' = [mi, m] ∧ IterM gi gm m mi bs vis ∧ ∀ j (hj : j < T.length), j ∈ vis → T[j].2 = 0)
    (T.length - 0) _ ⟨[], mi0, rfl, rfl, rfl, rfl, I0, by simp⟩ (by repeat (first | exact trivial | refine ⟨rfl, ?_⟩)) ?_
  rintro n s h' ms' ⟨vis, mi, rfl, rfl, rfl, rfl, I, hz⟩
  refine ws_seq ?_
  refine ws_region ?_
  refine wl_next 0 O I (by simp) rfl rfl rfl rfl rfl rfl (fun hall => ?_) (fun j hj mi' hjv I' => ?_)
  · skip
    refine wl_x (ox_extract rfl rfl rfl) rfl rfl rfl ?_
    refine wl_nil ?_
    refine nx_then ?_
    refine ws_seq ?_
    refine ws_cond_f rfl ?_
    refine ws_exit ?_
    refine nx_then_exit ?_
    refine nx_then_exit ?_
    refine nx_block_exit ?_
    refine nx_then ?_
    refine ws_seq ?_
    refine ws_region ?_
    refine wl_x (ox_assign rfl rfl) rfl rfl rfl ?_
    refine wl_nil ?_
    refine nx_then ?_
    refine ws_ret ?_
    have hzero : ∀ x, (getK T x).getD 0 = 0 := fun x => by
      rcases getK_cases T x with h1 | ⟨j, hj, h1, h2⟩
      · rw [h1]; rfl
      · rw [h2]; exact hz j hj (hall j hj)
    exact nx_ret1 rfl rfl (by rw [sameB_iff.2 (hS.2 hzero)])
  · skip
    refine wl_x (ox_extract rfl rfl rfl) rfl rfl rfl ?_
    refine wl_nil ?_
    refine nx_then ?_
    refine ws_seq ?_
    refine ws_cond_t rfl ?_
    refine ws_skip ?_
    refine nx_then ?_
    refine ws_block ?_
    refine ws_seq ?_
    refine ws_region ?_
    refine wl_x (ox_entry O I' (by simp) (by simp) hj rfl rfl) rfl rfl rfl ?_
    refine wl_x (ox_extract rfl rfl rfl) rfl rfl rfl ?_
    refine wl_x (ox_assign rfl rfl) rfl rfl rfl ?_
    refine wl_nil ?_
    refine nx_then ?_
    refine ws_seq ?_
    refine ws_region ?_
    refine wl_x (ox_move rfl rfl) rfl rfl rfl ?_
    refine wl_x (ox_nei rfl rfl rfl) rfl rfl rfl ?_
    refine wl_nil ?_
    refine nx_then ?_
    refine ws_if rfl (fun hne => ?_) (fun hne => ?_)
    · skip
      have hns : sameB la lb = false := by
        cases e : sameB la lb with
        | false => rfl
        | true =>
          have h1 := hS.1 (sameB_iff.1 e) T[j].1
          rw [getK_mem O.keys hj] at h1
          exact absurd h1 hne
      refine ws_seq ?_
      refine ws_region ?_
      refine wl_x (ox_assign rfl rfl) rfl rfl rfl ?_
      refine wl_nil ?_
      refine nx_then ?_
      refine ws_ret ?_
      refine nx_block_ret ?_
      refine nx_then_ret ?_
      refine nx_block_ret ?_
      refine nx_then_ret ?_
      exact nx_ret1 rfl rfl (by rw [hns])
    · skip
      refine ws_skip ?_
      refine nx_block ?_
      refine nx_round (T.length - (vis.length + 1)) _ ?_ ⟨vis ++ [j], mi', by simp, rfl, rfl, rfl, I', fun i hi' hv => ?_⟩ (by repeat (first | exact trivial | refine ⟨rfl, ?_⟩))
      · have hlt : vis.length < T.length := by
          have h1 := nodup_le (vis ++ [j]) (List.range T.length) I'.nodup fun x hx => by
            rw [List.mem_range, ← O.len]; exact I'.lt x hx
          simp at h1; omega
        omega
      · rcases List.mem_append.1 hv with hv | hv
        · exact hz i hi' hv
        · simp at hv; subst hv; simpa using hne
theorem same_v (la lb : List Br) (va vb : Value) (h : Hp) (hRa : RdL cBr 6 h [] va la) (hRb : RdL cBr 6 h [] vb lb) (hla : la.length ≤ 100000) (hlb : lb.length ≤ 100000) (hA : ∀ b ∈ la, KOk b.norm) (hB : ∀ b ∈ lb, KOk b.norm) (ms : List Hp) :
    FnV Try.prog 18 #[va, vb] h ms (.bool (sameB la lb)) := by
  refine fun w hw => (?_ : FnV _ _ _ h [] _) w (hw.weaken (Hp.le_refl _) (List.nil_sublist _))
  exact FnT.toV (same_ok la lb va vb h hRa hRb hla hlb hA hB)
end Go.Proofs.Ythdkhnjnhhofgaa

/- Walks: the reference's comparison of diagrams. -/
set_option linter.unusedSimpArgs false
set_option linter.unusedVariables false
set_option maxRecDepth 100000
namespace Go.Proofs.Ythdkhnjnhhofgaa
open Go.Eng Go.RowKit Go.Kuhn

theorem norm_eq (x y : Br) : x.norm = y.norm ↔ x.dim = y.dim ∧ x.birth = y.birth ∧ x.opn = y.opn ∧ (x.opn = true ∨ x.death = y.death) := by
  unfold Br.norm
  cases x with | mk a b c d e f => cases y with | mk a' b' c' d' e' f' =>
  cases d <;> cases d' <;> simp
theorem equal_ok (x y : Br) (h : Hp) (ms : List Hp) : FnV Try.prog 52 #[.agg (cBr x).toArray, .agg (cBr y).toArray] h ms (.bool (decide (x.norm = y.norm))) := by
  refine FnV.weaken (h := Hp.emp) (FnT.toV ?_) (Hp.emp_le h)
  refine fn_enter Try.func52 Try.ntmps52 rfl rfl (fun w0 hw0 => ?_)
  simp only [argS]
  refine ws_seq ?_
  refine ws_region ?_
  refine wl_box [_, _, _, _, _, _] rfl rfl (by first | rfl | exact Rd.cells ‹_› | exact (RdL.rd ‹_›).cells) rfl rfl rfl (fun g2 => ?_)
  refine wl_box [_, _, _, _, _, _] rfl rfl (by first | rfl | exact Rd.cells ‹_› | exact (RdL.rd ‹_›).cells) rfl rfl rfl (fun g3 => ?_)
  refine wl_x (ox_assign rfl rfl) rfl rfl rfl ?_
  refine wl_nil ?_
  refine nx_then ?_
  refine ws_seq ?_
  refine ws_region ?_
  refine wl_x (ox_fieldF fd40_0 rfl rfl) rfl rfl rfl ?_
  refine wl_x (ox_load rfl Try.underlying3 rfl rfl (by first | exact Cell.blk 0 rfl rfl | exact Cell.blk 1 rfl rfl | exact Cell.blk 2 rfl rfl | exact Cell.blk 3 rfl rfl | exact Cell.blk 4 rfl rfl)) rfl rfl rfl ?_
  refine wl_x (ox_fieldF fd40_0 rfl rfl) rfl rfl rfl ?_
  refine wl_x (ox_load rfl Try.underlying3 rfl rfl (by first | exact Cell.blk 0 rfl rfl | exact Cell.blk 1 rfl rfl | exact Cell.blk 2 rfl rfl | exact Cell.blk 3 rfl rfl | exact Cell.blk 4 rfl rfl)) rfl rfl rfl ?_
  refine wl_x (ox_eqi rfl rfl rfl) rfl rfl rfl ?_
  refine wl_x (ox_move rfl rfl) rfl rfl rfl ?_
  refine wl_split (t := 10) rfl (fun h1 => ?_) (fun h1 => ?_)
  · skip
    refine wl_gx (ox_fieldF fd40_1 rfl rfl) rfl rfl rfl rfl rfl rfl ?_
    refine wl_gx (ox_load rfl Try.underlying3 rfl rfl (by first | exact Cell.blk 0 rfl rfl | exact Cell.blk 1 rfl rfl | exact Cell.blk 2 rfl rfl | exact Cell.blk 3 rfl rfl | exact Cell.blk 4 rfl rfl)) rfl rfl rfl rfl rfl rfl ?_
    refine wl_gx (ox_fieldF fd40_1 rfl rfl) rfl rfl rfl rfl rfl rfl ?_
    refine wl_gx (ox_load rfl Try.underlying3 rfl rfl (by first | exact Cell.blk 0 rfl rfl | exact Cell.blk 1 rfl rfl | exact Cell.blk 2 rfl rfl | exact Cell.blk 3 rfl rfl | exact Cell.blk 4 rfl rfl)) rfl rfl rfl rfl rfl rfl ?_
    refine wl_gx (ox_eqi rfl rfl rfl) rfl rfl rfl rfl rfl rfl ?_
    refine wl_x (ox_pick_t rfl rfl rfl) rfl rfl rfl ?_
    refine wl_x (ox_move rfl rfl) rfl rfl rfl ?_
    refine wl_split (t := 17) rfl (fun h2 => ?_) (fun h2 => ?_)
    · skip
      refine wl_gx (ox_fieldF fd40_3 rfl rfl) rfl rfl rfl rfl rfl rfl ?_
      refine wl_gx (ox_load rfl Try.underlying4 rfl rfl (by first | exact Cell.blk 0 rfl rfl | exact Cell.blk 1 rfl rfl | exact Cell.blk 2 rfl rfl | exact Cell.blk 3 rfl rfl | exact Cell.blk 4 rfl rfl)) rfl rfl rfl rfl rfl rfl ?_
      refine wl_gx (ox_fieldF fd40_3 rfl rfl) rfl rfl rfl rfl rfl rfl ?_
      refine wl_gx (ox_load rfl Try.underlying4 rfl rfl (by first | exact Cell.blk 0 rfl rfl | exact Cell.blk 1 rfl rfl | exact Cell.blk 2 rfl rfl | exact Cell.blk 3 rfl rfl | exact Cell.blk 4 rfl rfl)) rfl rfl rfl rfl rfl rfl ?_
      refine wl_gx (ox_eqb rfl Try.underlying4 rfl rfl) rfl rfl rfl rfl rfl rfl ?_
      refine wl_x (ox_pick_t rfl rfl rfl) rfl rfl rfl ?_
      refine wl_x (ox_move rfl rfl) rfl rfl rfl ?_
      refine wl_splitb (t := 24) rfl (fun h3 => ?_) (fun h3 => ?_)
      · skip
        have h3' : x.opn = y.opn := by simpa using h3
        refine wl_gx (ox_fieldF fd40_3 rfl rfl) rfl rfl rfl rfl rfl rfl ?_
        refine wl_gx (ox_load rfl Try.underlying4 rfl rfl (by first | exact Cell.blk 0 rfl rfl | exact Cell.blk 1 rfl rfl | exact Cell.blk 2 rfl rfl | exact Cell.blk 3 rfl rfl | exact Cell.blk 4 rfl rfl)) rfl rfl rfl rfl rfl rfl ?_
        refine wl_gx (ox_move rfl rfl) rfl rfl rfl rfl rfl rfl ?_
        refine wl_splitb (t := 27) rfl (fun h4 => ?_) (fun h4 => ?_)
        · skip
          refine wl_skip rfl rfl rfl rfl rfl rfl rfl ?_
          refine wl_skip rfl rfl rfl rfl rfl rfl rfl ?_
          refine wl_skip rfl rfl rfl rfl rfl rfl rfl ?_
          refine wl_skip rfl rfl rfl rfl rfl rfl rfl ?_
          refine wl_skip rfl rfl rfl rfl rfl rfl rfl ?_
          refine wl_gx (ox_pick_t rfl rfl rfl) rfl rfl rfl rfl rfl rfl ?_
          refine wl_x (ox_pick_t rfl rfl rfl) rfl rfl rfl ?_
          refine wl_x (ox_assign rfl rfl) rfl rfl rfl ?_
          refine wl_nil ?_
          refine nx_then ?_
          refine ws_ret ?_
          exact nx_ret1 rfl rfl (by rw [decide_eq_true ((norm_eq x y).2 ⟨h1, h2, h3', .inl h4⟩)])
        · skip
          refine wl_gx (ox_fieldF fd40_2 rfl rfl) rfl rfl rfl rfl rfl rfl ?_
          refine wl_gx (ox_load rfl Try.underlying3 rfl rfl (by first | exact Cell.blk 0 rfl rfl | exact Cell.blk 1 rfl rfl | exact Cell.blk 2 rfl rfl | exact Cell.blk 3 rfl rfl | exact Cell.blk 4 rfl rfl)) rfl rfl rfl rfl rfl rfl ?_
          refine wl_gx (ox_fieldF fd40_2 rfl rfl) rfl rfl rfl rfl rfl rfl ?_
          refine wl_gx (ox_load rfl Try.underlying3 rfl rfl (by first | exact Cell.blk 0 rfl rfl | exact Cell.blk 1 rfl rfl | exact Cell.blk 2 rfl rfl | exact Cell.blk 3 rfl rfl | exact Cell.blk 4 rfl rfl)) rfl rfl rfl rfl rfl rfl ?_
          refine wl_gx (ox_eqi rfl rfl rfl) rfl rfl rfl rfl rfl rfl ?_
          refine wl_gx (ox_pick_f rfl rfl rfl) rfl rfl rfl rfl rfl rfl ?_
          refine wl_x (ox_pick_t rfl rfl rfl) rfl rfl rfl ?_
          refine wl_x (ox_assign rfl rfl) rfl rfl rfl ?_
          refine wl_nil ?_
          refine nx_then ?_
          refine ws_ret ?_
          have hd : decide (x.norm = y.norm) = decide (x.death = y.death) := decide_eq_decide.2 ⟨fun h => ((norm_eq x y).1 h).2.2.2.resolve_left (by simp [h4]), fun h => (norm_eq x y).2 ⟨h1, h2, h3', .inr h⟩⟩
          exact nx_ret1 rfl rfl (by rw [hd])
      · skip
        refine wl_skip rfl rfl rfl rfl rfl rfl rfl ?_
        refine wl_skip rfl rfl rfl rfl rfl rfl rfl ?_
        refine wl_skip rfl rfl rfl rfl rfl rfl rfl ?_
        refine wl_skipu rfl rfl rfl rfl rfl rfl ?_
        refine wl_skipu rfl rfl rfl rfl rfl rfl ?_
        refine wl_skipu rfl rfl rfl rfl rfl rfl ?_
        refine wl_skipu rfl rfl rfl rfl rfl rfl ?_
        refine wl_skipu rfl rfl rfl rfl rfl rfl ?_
        refine wl_skip rfl rfl rfl rfl rfl rfl rfl ?_
        refine wl_x (ox_pick_f rfl rfl rfl) rfl rfl rfl ?_
        refine wl_x (ox_assign rfl rfl) rfl rfl rfl ?_
        refine wl_nil ?_
        refine nx_then ?_
        refine ws_ret ?_
        exact nx_ret1 rfl rfl (by rw [decide_eq_false fun h => by have := ((norm_eq x y).1 h).2.2.1; simp [this] at h3])
    · skip
      refine wl_skip rfl rfl rfl rfl rfl rfl rfl ?_
      refine wl_skip rfl rfl rfl rfl rfl rfl rfl ?_
      refine wl_skip rfl rfl rfl rfl rfl rfl rfl ?_
      refine wl_skip rfl rfl rfl rfl rfl rfl rfl ?_
      refine wl_skip rfl rfl rfl rfl rfl rfl rfl ?_
      refine wl_x (ox_pick_f rfl rfl rfl) rfl rfl rfl ?_
      refine wl_x (ox_move rfl rfl) rfl rfl rfl ?_
      refine wl_skip rfl rfl rfl rfl rfl rfl rfl ?_
      refine wl_skip rfl rfl rfl rfl rfl rfl rfl ?_
      refine wl_skip rfl rfl rfl rfl rfl rfl rfl ?_
      refine wl_skipu rfl rfl rfl rfl rfl rfl ?_
      refine wl_skipu rfl rfl rfl rfl rfl rfl ?_
      refine wl_skipu rfl rfl rfl rfl rfl rfl ?_
      refine wl_skipu rfl rfl rfl rfl rfl rfl ?_
      refine wl_skipu rfl rfl rfl rfl rfl rfl ?_
      refine wl_skip rfl rfl rfl rfl rfl rfl rfl ?_
      refine wl_x (ox_pick_f rfl rfl rfl) rfl rfl rfl ?_
      refine wl_x (ox_assign rfl rfl) rfl rfl rfl ?_
      refine wl_nil ?_
      refine nx_then ?_
      refine ws_ret ?_
      exact nx_ret1 rfl rfl (by rw [decide_eq_false fun h => h2 ((norm_eq x y).1 h).2.1])
  · skip
    refine wl_skip rfl rfl rfl rfl rfl rfl rfl ?_
    refine wl_skip rfl rfl rfl rfl rfl rfl rfl ?_
    refine wl_skip rfl rfl rfl rfl rfl rfl rfl ?_
    refine wl_skip rfl rfl rfl rfl rfl rfl rfl ?_
    refine wl_skip rfl rfl rfl rfl rfl rfl rfl ?_
    refine wl_x (ox_pick_f rfl rfl rfl) rfl rfl rfl ?_
    refine wl_x (ox_move rfl rfl) rfl rfl rfl ?_
    refine wl_skip rfl rfl rfl rfl rfl rfl rfl ?_
    refine wl_skip rfl rfl rfl rfl rfl rfl rfl ?_
    refine wl_skip rfl rfl rfl rfl rfl rfl rfl ?_
    refine wl_skip rfl rfl rfl rfl rfl rfl rfl ?_
    refine wl_skip rfl rfl rfl rfl rfl rfl rfl ?_
    refine wl_x (ox_pick_f rfl rfl rfl) rfl rfl rfl ?_
    refine wl_x (ox_move rfl rfl) rfl rfl rfl ?_
    refine wl_skip rfl rfl rfl rfl rfl rfl rfl ?_
    refine wl_skip rfl rfl rfl rfl rfl rfl rfl ?_
    refine wl_skip rfl rfl rfl rfl rfl rfl rfl ?_
    refine wl_skipu rfl rfl rfl rfl rfl rfl ?_
    refine wl_skipu rfl rfl rfl rfl rfl rfl ?_
    refine wl_skipu rfl rfl rfl rfl rfl rfl ?_
    refine wl_skipu rfl rfl rfl rfl rfl rfl ?_
    refine wl_skipu rfl rfl rfl rfl rfl rfl ?_
    refine wl_skip rfl rfl rfl rfl rfl rfl rfl ?_
    refine wl_x (ox_pick_f rfl rfl rfl) rfl rfl rfl ?_
    refine wl_x (ox_assign rfl rfl) rfl rfl rfl ?_
    refine wl_nil ?_
    refine nx_then ?_
    refine ws_ret ?_
    exact nx_ret1 rfl rfl (by rw [decide_eq_false fun h => h1 ((norm_eq x y).1 h).1])
theorem take_count (l : List Br) (x : Br) (k : Nat) (hk : k < l.length) : ((l.take (k + 1)).map Br.norm).count x = ((l.take k).map Br.norm).count x + if l[k].norm = x then 1 else 0 := by
  rw [take_succ_map Br.norm l k hk, List.count_append]
  congr 1
  rw [List.count_singleton]
  by_cases e : l[k].norm = x <;> simp [e]
theorem many_ok (l : List Br) (vl : Value) (x : Br) (h : Hp) (hR : RdL cBr 6 h [] vl l) (hl : l.length ≤ 1000000) (ms : List Hp) :
    FnV Try.prog 44 #[vl, .agg (cBr x).toArray] h ms (.int .i64 ((l.map Br.norm).count x.norm)) := by
  refine fun w hw => (?_ : FnV _ _ _ h [] _) w (hw.weaken (Hp.le_refl _) (List.nil_sublist _))
  refine FnT.toV ?_
  refine fn_enter Try.func44 Try.ntmps44 rfl rfl (fun w0 hw0 => ?_)
  simp only [argS]
  refine ws_seq ?_
  refine ws_region ?_
  refine wl_box [_, _, _, _, _, _] rfl rfl (by first | rfl | exact (hR.rd.any).cells | exact Rd.cells ‹_› | exact (RdL.rd ‹_›).cells) rfl rfl rfl (fun g3 => ?_)
  refine wl_freezeB (fun h1 l1 s3 => ?_)
  have s3 : Seg h1 [] ⟨g3, 0, none⟩ (cBr x) := s3
  have hR := hR.up l1
  refine wl_x (ox_assign rfl rfl) rfl rfl rfl ?_
  refine wl_nil ?_
  refine nx_then ?_
  refine ws_seq ?_
  refine ws_region ?_
  refine wl_x (ox_assign rfl rfl) rfl rfl rfl ?_
  refine wl_nil ?_
  refine nx_then ?_
  refine ws_seq ?_
  refine ws_seq ?_
  refine ws_region ?_
  refine wl_x (ox_assign rfl rfl) rfl rfl rfl ?_
  refine wl_nil ?_
  refine nx_then ?_
  refine ws_block ?_
  refine ws_loop (fun n s h' ms' => ∃ (k : Nat) (c : Int), n = l.length - k ∧ s = [(0, vl), (3, .pointer (some ⟨g3, 0, none⟩)), (5, .int .i64 c), (6, .int .i64 k)] ∧ h1 = h' ∧ ms' = [] ∧ k ≤ l.length ∧ c = ((l.take k).map Br.norm).count x.norm)
    (l.length - 0) _ ⟨0, 0, rfl, rfl, rfl, rfl, by omega, rfl⟩ (by repeat (first | exact trivial | refine ⟨rfl, ?_⟩)) ?_
  rintro n s h' ms' ⟨k, c, rfl, rfl, rfl, rfl, hk, hc⟩
  refine ws_seq ?_
  refine ws_seq ?_
  refine ws_region ?_
  refine wl_x (ox_move rfl rfl) rfl rfl rfl ?_
  refine wl_x (ox_move rfl rfl) rfl rfl rfl ?_
  first | refine wl_x (ox_len (ty := 25) rfl Try.underlying25 rfl) rfl rfl rfl ?_ | refine wl_x (ox_lenR hR.rd.any rfl Try.underlying25 rfl) rfl rfl rfl ?_
  refine wl_x (ox_lss rfl rfl rfl) rfl rfl rfl ?_
  refine wl_nil ?_
  refine nx_then ?_
  refine ws_if rfl (fun hlt => ?_) (fun hlt => ?_)
  · skip
    have hkl : k < l.length := by omega
    have hts := take_count l x.norm k hkl
    have hcb : ((l.take k).map Br.norm).count x.norm ≤ k := Nat.le_trans List.count_le_length (by simp; omega)
    refine ws_skip ?_
    refine nx_then ?_
    refine ws_seq ?_
    refine ws_block ?_
    refine ws_seq ?_
    refine ws_draw 5 fol (by kernel_rfl) rfl ?_
    simp only [List.take_succ_cons, List.take_zero, List.drop_succ_cons, List.drop_zero, List.take_nil, List.drop_nil]
    refine wr_x (ox_move rfl rfl) rfl rfl ?_
    refine wr_x (ox_move rfl rfl) rfl rfl ?_
    first | refine wr_x (ox_index _ rfl Try.underlying25 el40 rfl rfl rfl (by omega)) rfl rfl ?_ | refine wr_x (ox_indexR _ hR.rd.any rfl Try.underlying25 el40 rfl rfl rfl (by omega)) rfl rfl ?_
    refine wr_x (ox_loadG rfl Try.underlying40 rfl el40 rfl rfl (by first | exact hR.any.seg hkl | exact s3)) rfl rfl ?_
    refine wr_x (ox_loadG rfl Try.underlying40 rfl el40 rfl rfl (by first | exact Seg.blk 0 rfl | exact Seg.blk 1 rfl | exact Seg.blk 2 rfl | exact Seg.blk 3 rfl | exact Seg.blk 4 rfl | exact hR.any.seg hkl | exact s3)) rfl rfl ?_
    refine wr_nil ?_
    refine wl_x (ox_call rfl Try.call52 rfl (equal_ok _ _ _ _)) rfl rfl rfl ?_
    refine wl_nil ?_
    refine nx_then ?_
    refine ws_if rfl (fun he => ?_) (fun he => ?_)
    · skip
      refine ws_region ?_
      refine wl_x (ox_move rfl rfl) rfl rfl rfl ?_
      refine wl_x (ox_add rfl rfl rfl (by omega)) rfl rfl rfl ?_
      refine wl_x (ox_assign rfl rfl) rfl rfl rfl ?_
      refine wl_nil ?_
      refine nx_block ?_
      refine nx_then ?_
      refine ws_region ?_
      refine wl_x (ox_move rfl rfl) rfl rfl rfl ?_
      refine wl_x (ox_add rfl rfl rfl (by omega)) rfl rfl rfl ?_
      refine wl_x (ox_assign rfl rfl) rfl rfl rfl ?_
      refine wl_nil ?_
      refine nx_round (l.length - (k + 1)) _ (by omega) ⟨k + 1, c + 1, rfl, rfl, rfl, rfl, by omega, by rw [hts, if_pos he, hc]; omega⟩ (by repeat (first | exact trivial | refine ⟨rfl, ?_⟩))
    · skip
      refine ws_skip ?_
      refine nx_block ?_
      refine nx_then ?_
      refine ws_region ?_
      refine wl_x (ox_move rfl rfl) rfl rfl rfl ?_
      refine wl_x (ox_add rfl rfl rfl (by omega)) rfl rfl rfl ?_
      refine wl_x (ox_assign rfl rfl) rfl rfl rfl ?_
      refine wl_nil ?_
      refine nx_round (l.length - (k + 1)) _ (by omega) ⟨k + 1, c, rfl, rfl, rfl, rfl, by omega, by rw [hts, if_neg he, hc]; omega⟩ (by repeat (first | exact trivial | refine ⟨rfl, ?_⟩))
  · skip
    refine ws_exit ?_
    refine nx_then_exit ?_
    refine nx_then_exit ?_
    refine nx_block_exit ?_
    refine nx_then ?_
    refine ws_seq ?_
    refine ws_region ?_
    refine wl_x (ox_move rfl rfl) rfl rfl rfl ?_
    refine wl_x (ox_assign rfl rfl) rfl rfl rfl ?_
    refine wl_nil ?_
    refine nx_then ?_
    refine ws_ret ?_
    have hkl : l.take k = l := List.take_of_length_le (by omega)
    exact nx_ret1 rfl rfl (by rw [hc, hkl])
theorem count_keys (l : List Br) (x : Br) (hx : x.cnt = true) : (l.map Br.norm).count x.norm = (keysOf l).count x.norm := by
  unfold keysOf
  induction l with
  | nil => rfl
  | cons y l ih =>
    rw [List.map_cons, List.count_cons, ih, List.filter_cons]
    by_cases hy : y.cnt = true
    · rw [if_pos hy, List.map_cons, List.count_cons]
    · have hne : y.norm ≠ x.norm := fun e => hy (by
        obtain ⟨_, h2, h3, h4⟩ := (norm_eq y x).1 e
        unfold Br.cnt at *
        rw [h2, h3]
        rcases h4 with h4 | h4
        · rw [← h3, h4]; rfl
        · rw [h4]; exact hx)
      rw [if_neg hy]
      simp [hne]
/-- No bar tells two diagrams apart. -/
theorem same_of {a b : List Br} (h : ∀ x ∈ a ++ b, x.cnt = true → (a.map Br.norm).count x.norm = (b.map Br.norm).count x.norm) : sameB a b = true := by
  rw [sameB_iff, List.perm_iff_count]
  intro y
  by_cases hy : y ∈ keysOf (a ++ b)
  · obtain ⟨x, hx, rfl⟩ := List.mem_map.1 hy
    obtain ⟨h1, h2⟩ := List.mem_filter.1 hx
    rw [← count_keys a x h2, ← count_keys b x h2]
    exact h x h1 h2
  · have : ∀ l, l = a ∨ l = b → y ∉ keysOf l := fun l hl hm => hy (by
      unfold keysOf at *
      rw [List.filter_append, List.map_append, List.mem_append]
      rcases hl with rfl | rfl
      · exact .inl hm
      · exact .inr hm)
    rw [List.count_eq_zero.2 (this a (.inl rfl)), List.count_eq_zero.2 (this b (.inr rfl))]
theorem same_not {a b : List Br} {x : Br} (hx : x.cnt = true) (h : (a.map Br.norm).count x.norm ≠ (b.map Br.norm).count x.norm) : sameB a b = false := by
  cases e : sameB a b with
  | false => rfl
  | true =>
    have := List.perm_iff_count.1 (sameB_iff.1 e) x.norm
    rw [← count_keys a x hx, ← count_keys b x hx] at this
    exact absurd this h
theorem rsame_ok (la lb : List Br) (va vb : Value) (h : Hp) (hRa : RdL cBr 6 h [] va la) (hRb : RdL cBr 6 h [] vb lb) (hla : la.length ≤ 100000) (hlb : lb.length ≤ 100000) :
    FnT Try.prog 19 #[va, vb] h [] (fun r _ _ => r = .bool (sameB la lb)) := by
  refine fn_enter Try.func19 Try.ntmps19 rfl rfl (fun w0 hw0 => ?_)
  simp only [argS]
  refine ws_seq ?_
  refine ws_region ?_
  refine wl_x (ox_assign rfl rfl) rfl rfl rfl ?_
  refine wl_nil ?_
  refine nx_then ?_
  refine ws_seq ?_
  refine ws_region ?_
  refine wl_buildSlice [] [] [] rfl Try.underlying25 el40 rfl (by omega) (by first | rfl | kernel_rfl | simp [madeCells]) (by repeat (first | exact trivial | refine ⟨⟨by first | rfl | exact (hRa.rd.any).cells | exact (hRb.rd.any).cells | exact Rd.cells ‹_› | exact (RdL.rd ‹_›).cells, rfl, rfl⟩, ?_⟩)) rfl rfl rfl rfl (fun g8 => ?_)
  refine wl_x (ox_move rfl rfl) rfl rfl rfl ?_
  refine wl_appendL 0 (own_noneB g8) hRa.any rfl Try.underlying25 el40 rfl (by omega) rfl rfl rfl cBr_one (by simp; omega) (by simp; omega) rfl rfl rfl (fun v1 m1 hO1 => ?_)
  refine wl_x (ox_move rfl rfl) rfl rfl rfl ?_
  refine wl_appendL 0 hO1 hRb.any rfl Try.underlying25 el40 rfl (by omega) rfl rfl rfl cBr_one (by simp; omega) (by simp; omega) rfl rfl rfl (fun v2 m2 hO2 => ?_)
  refine wl_x (ox_assign rfl rfl) rfl rfl rfl ?_
  refine wl_nil ?_
  refine nx_then ?_
  refine ws_freezeL hO2 (fun h1 l1 hR2 => ?_)
  rw [List.nil_append] at hR2
  have hRa := hRa.up l1
  have hRb := hRb.up l1
  have hal : (la ++ lb).length = la.length + lb.length := List.length_append
  obtain ⟨all, hall⟩ : ∃ all, all = la ++ lb := ⟨_, rfl⟩
  rw [← hall] at hR2 hal
  refine ws_seq ?_
  refine ws_seq ?_
  refine ws_region ?_
  refine wl_x (ox_assign rfl rfl) rfl rfl rfl ?_
  refine wl_nil ?_
  refine nx_then ?_
  refine ws_block ?_
  refine ws_loop (fun n s h' ms' => ∃ (k : Nat), n = all.length - k ∧ s = [(0, va), (1, vb), (5, v2), (6, .int .i64 k)] ∧ h1 = h' ∧ ms' = [] ∧ k ≤ all.length ∧ ∀ j (hj : j < all.length), j < k → all[j].cnt = true → (la.map Br.norm).count all[j].norm = (lb.map Br.norm).count all[j].norm)
    (all.length - 0) _ ⟨0, rfl, rfl, rfl, rfl, by omega, fun j hj h => by omega⟩ (by repeat (first | exact trivial | refine ⟨rfl, ?_⟩)) ?_
  rintro n s h' ms' ⟨k, rfl, rfl, rfl, rfl, hk, hinv⟩
  refine ws_seq ?_
  refine ws_seq ?_
  refine ws_region ?_
  refine wl_x (ox_move rfl rfl) rfl rfl rfl ?_
  refine wl_x (ox_move rfl rfl) rfl rfl rfl ?_
  first | refine wl_x (ox_len (ty := 25) rfl Try.underlying25 rfl) rfl rfl rfl ?_ | refine wl_x (ox_lenR hR2.rd.any rfl Try.underlying25 rfl) rfl rfl rfl ?_
  refine wl_x (ox_lss rfl rfl rfl) rfl rfl rfl ?_
  refine wl_nil ?_
  refine nx_then ?_
  refine ws_if rfl (fun hlt => ?_) (fun hlt => ?_)
  · skip
    have hka : k < all.length := by omega
    have hnext : ((all[k].cnt = true → (la.map Br.norm).count all[k].norm = (lb.map Br.norm).count all[k].norm)) → ∀ j (hj : j < all.length), j < k + 1 → all[j].cnt = true → (la.map Br.norm).count all[j].norm = (lb.map Br.norm).count all[j].norm := fun h j hj hjk hc => by
      by_cases e : j = k
      · subst e; exact h hc
      · exact hinv j hj (by omega) hc
    refine ws_skip ?_
    refine nx_then ?_
    refine ws_seq ?_
    refine ws_block ?_
    refine ws_cut (fun s h' ms' => s = [(0, va), (1, vb), (5, v2), (6, .int .i64 k), (7, .bool all[k].cnt)] ∧ h1 = h' ∧ ms' = []) ?_ (fun s h ms hI => ?_)
    · skip
      refine ws_draw 16 fol (by kernel_rfl) rfl ?_
      simp only [List.take_succ_cons, List.take_zero, List.drop_succ_cons, List.drop_zero, List.take_nil, List.drop_nil]
      refine wr_x (ox_move rfl rfl) rfl rfl ?_
      refine wr_x (ox_move rfl rfl) rfl rfl ?_
      first | refine wr_x (ox_index _ rfl Try.underlying25 el40 rfl rfl rfl (by omega)) rfl rfl ?_ | refine wr_x (ox_indexR _ hR2.rd.any rfl Try.underlying25 el40 rfl rfl rfl (by omega)) rfl rfl ?_
      refine wr_x (ox_fieldF fd40_3 rfl rfl) rfl rfl ?_
      refine wr_x (ox_load rfl Try.underlying4 rfl rfl (by first | exact hR2.any.cell hka rfl)) rfl rfl ?_
      refine wr_x (ox_move rfl rfl) rfl rfl ?_
      refine wr_splitb (t := 24) rfl (fun ho => ?_) (fun ho => ?_)
      · skip
        refine wr_skip rfl rfl rfl rfl rfl ?_
        refine wr_skip rfl rfl rfl rfl rfl ?_
        refine wr_skip rfl rfl rfl rfl rfl ?_
        refine wr_skip rfl rfl rfl rfl rfl ?_
        refine wr_skip rfl rfl rfl rfl rfl ?_
        refine wr_skip rfl rfl rfl rfl rfl ?_
        refine wr_skip rfl rfl rfl rfl rfl ?_
        refine wr_skip rfl rfl rfl rfl rfl ?_
        refine wr_skip rfl rfl rfl rfl rfl ?_
        refine wr_skip rfl rfl rfl rfl rfl ?_
        refine wr_nil ?_
        refine wl_skip rfl rfl rfl rfl rfl rfl rfl ?_
        refine wl_x (ox_pick_t rfl rfl rfl) rfl rfl rfl ?_
        refine wl_x (ox_assign rfl rfl) rfl rfl rfl ?_
        refine wl_nil ?_
        refine nx_meet _ ⟨by simp [Br.cnt, ho]; rfl, rfl, rfl⟩ (by repeat (first | exact trivial | refine ⟨rfl, ?_⟩))
      · skip
        refine wr_gx (ox_move rfl rfl) rfl rfl rfl rfl ?_
        refine wr_gx (ox_move rfl rfl) rfl rfl rfl rfl ?_
        first | refine wr_gx (ox_index _ rfl Try.underlying25 el40 rfl rfl rfl (by omega)) rfl rfl rfl rfl ?_ | refine wr_gx (ox_indexR _ hR2.rd.any rfl Try.underlying25 el40 rfl rfl rfl (by omega)) rfl rfl rfl rfl ?_
        refine wr_gx (ox_fieldF fd40_2 rfl rfl) rfl rfl rfl rfl ?_
        refine wr_gx (ox_load rfl Try.underlying3 rfl rfl (by first | exact hR2.any.cell hka rfl)) rfl rfl rfl rfl ?_
        refine wr_gx (ox_move rfl rfl) rfl rfl rfl rfl ?_
        refine wr_gx (ox_move rfl rfl) rfl rfl rfl rfl ?_
        first | refine wr_gx (ox_index _ rfl Try.underlying25 el40 rfl rfl rfl (by omega)) rfl rfl rfl rfl ?_ | refine wr_gx (ox_indexR _ hR2.rd.any rfl Try.underlying25 el40 rfl rfl rfl (by omega)) rfl rfl rfl rfl ?_
        refine wr_gx (ox_fieldF fd40_1 rfl rfl) rfl rfl rfl rfl ?_
        refine wr_gx (ox_load rfl Try.underlying3 rfl rfl (by first | exact hR2.any.cell hka rfl)) rfl rfl rfl rfl ?_
        refine wr_nil ?_
        refine wl_gx (ox_gtr rfl rfl rfl) rfl rfl rfl rfl rfl rfl ?_
        refine wl_x (ox_pick_f rfl rfl rfl) rfl rfl rfl ?_
        refine wl_x (ox_assign rfl rfl) rfl rfl rfl ?_
        refine wl_nil ?_
        refine nx_meet _ ⟨by simp [Br.cnt, ho]; rfl, rfl, rfl⟩ (by repeat (first | exact trivial | refine ⟨rfl, ?_⟩))
    obtain ⟨rfl, rfl, rfl⟩ := hI
    · skip
      refine ws_seq ?_
      refine ws_draw 13 fol (by kernel_rfl) rfl ?_
      simp only [List.take_succ_cons, List.take_zero, List.drop_succ_cons, List.drop_zero, List.take_nil, List.drop_nil]
      refine wr_x (ox_move rfl rfl) rfl rfl ?_
      refine wr_x (ox_move rfl rfl) rfl rfl ?_
      refine wr_splitb (t := 38) rfl (fun hc => ?_) (fun hc => ?_)
      · skip
        refine wr_gx (ox_move rfl rfl) rfl rfl rfl rfl ?_
        refine wr_gx (ox_move rfl rfl) rfl rfl rfl rfl ?_
        refine wr_gx (ox_move rfl rfl) rfl rfl rfl rfl ?_
        first | refine wr_gx (ox_index _ rfl Try.underlying25 el40 rfl rfl rfl (by omega)) rfl rfl rfl rfl ?_ | refine wr_gx (ox_indexR _ hR2.rd.any rfl Try.underlying25 el40 rfl rfl rfl (by omega)) rfl rfl rfl rfl ?_
        refine wr_gx (ox_loadG rfl Try.underlying40 rfl el40 rfl rfl (by first | exact hR2.any.seg hka)) rfl rfl rfl rfl ?_
        refine wr_gx (ox_call rfl Try.call44 rfl (many_ok la va _ _ hRa (by omega) _)) rfl rfl rfl rfl ?_
        refine wr_gx (ox_move rfl rfl) rfl rfl rfl rfl ?_
        refine wr_gx (ox_move rfl rfl) rfl rfl rfl rfl ?_
        refine wr_gx (ox_move rfl rfl) rfl rfl rfl rfl ?_
        first | refine wr_gx (ox_index _ rfl Try.underlying25 el40 rfl rfl rfl (by omega)) rfl rfl rfl rfl ?_ | refine wr_gx (ox_indexR _ hR2.rd.any rfl Try.underlying25 el40 rfl rfl rfl (by omega)) rfl rfl rfl rfl ?_
        refine wr_gx (ox_loadG rfl Try.underlying40 rfl el40 rfl rfl (by first | exact hR2.any.seg hka)) rfl rfl rfl rfl ?_
        refine wr_nil ?_
        refine wl_gx (ox_call rfl Try.call44 rfl (many_ok lb vb _ _ hRb (by omega) _)) rfl rfl rfl rfl rfl rfl ?_
        refine wl_gx (ox_nei rfl rfl rfl) rfl rfl rfl rfl rfl rfl ?_
        refine wl_x (ox_pick_t rfl rfl rfl) rfl rfl rfl ?_
        refine wl_nil ?_
        refine nx_then ?_
        refine ws_if rfl (fun hne => ?_) (fun hne => ?_)
        · skip
          refine ws_seq ?_
          refine ws_region ?_
          refine wl_x (ox_assign rfl rfl) rfl rfl rfl ?_
          refine wl_nil ?_
          refine nx_then ?_
          refine ws_ret ?_
          refine nx_block_ret ?_
          refine nx_then_ret ?_
          refine nx_then_ret ?_
          refine nx_block_ret ?_
          refine nx_then_ret ?_
          exact nx_ret1 rfl rfl (by rw [same_not hc (by omega)])
        · skip
          refine ws_skip ?_
          refine nx_block ?_
          refine nx_then ?_
          refine ws_region ?_
          refine wl_x (ox_move rfl rfl) rfl rfl rfl ?_
          refine wl_x (ox_add rfl rfl rfl (by omega)) rfl rfl rfl ?_
          refine wl_x (ox_assign rfl rfl) rfl rfl rfl ?_
          refine wl_nil ?_
          refine nx_round (all.length - (k + 1)) _ (by omega) ⟨k + 1, rfl, rfl, rfl, rfl, by omega, hnext fun _ => by omega⟩ (by repeat (first | exact trivial | refine ⟨rfl, ?_⟩))
      · skip
        refine wr_skip rfl rfl rfl rfl rfl ?_
        refine wr_skip rfl rfl rfl rfl rfl ?_
        refine wr_skip rfl rfl rfl rfl rfl ?_
        refine wr_skip rfl rfl rfl rfl rfl ?_
        refine wr_skip rfl rfl rfl rfl rfl ?_
        refine wr_skip rfl rfl rfl rfl rfl ?_
        refine wr_skip rfl rfl rfl rfl rfl ?_
        refine wr_skip rfl rfl rfl rfl rfl ?_
        refine wr_skip rfl rfl rfl rfl rfl ?_
        refine wr_skip rfl rfl rfl rfl rfl ?_
        refine wr_skip rfl rfl rfl rfl rfl ?_
        refine wr_nil ?_
        refine wl_skip rfl rfl rfl rfl rfl rfl rfl ?_
        refine wl_skip rfl rfl rfl rfl rfl rfl rfl ?_
        refine wl_x (ox_pick_f rfl rfl rfl) rfl rfl rfl ?_
        refine wl_nil ?_
        refine nx_then ?_
        refine ws_cond_f rfl ?_
        refine ws_skip ?_
        refine nx_block ?_
        refine nx_then ?_
        refine ws_region ?_
        refine wl_x (ox_move rfl rfl) rfl rfl rfl ?_
        refine wl_x (ox_add rfl rfl rfl (by omega)) rfl rfl rfl ?_
        refine wl_x (ox_assign rfl rfl) rfl rfl rfl ?_
        refine wl_nil ?_
        refine nx_round (all.length - (k + 1)) _ (by omega) ⟨k + 1, rfl, rfl, rfl, rfl, by omega, hnext fun h => by rw [hc] at h; cases h⟩ (by repeat (first | exact trivial | refine ⟨rfl, ?_⟩))
  · skip
    refine ws_exit ?_
    refine nx_then_exit ?_
    refine nx_then_exit ?_
    refine nx_block_exit ?_
    refine nx_then ?_
    refine ws_seq ?_
    refine ws_region ?_
    refine wl_x (ox_assign rfl rfl) rfl rfl rfl ?_
    refine wl_nil ?_
    refine nx_then ?_
    refine ws_ret ?_
    have hsame := same_of (a := la) (b := lb) fun x hx hc => by
      rw [← hall] at hx
      obtain ⟨j, hj, rfl⟩ := List.getElem_of_mem hx
      exact hinv j hj (by omega) hc
    exact nx_ret1 rfl rfl (by rw [hsame])
end Go.Proofs.Ythdkhnjnhhofgaa
