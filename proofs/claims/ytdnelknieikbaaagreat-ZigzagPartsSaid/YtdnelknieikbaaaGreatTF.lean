/- Parts of the proof: Yd Yg Yh Yi Yj Lj Yk Yo Yl Ym. -/
import Derived.Test.YtdnelknieikbaaaGreatTE
set_option linter.unusedSimpArgs false
set_option linter.unusedVariables false
set_option maxRecDepth 100000
namespace Go.Proofs.YtdnelknieikbaaaGreat
open Tryz
open Go.Eng Go.RowKit Go.Lin
theorem rreduce_ok (p : Int) (r c : Nat) (f : Nat → Nat → Int) (ev : Value) (h : Hp) (hp : IsP p) (hr : r ≤ 400) (hc : c ≤ 800) (hf : InP p r c f) (hR : RdL cI 1 h [] ev (mat r c f)) :
  FnT Tryz.prog 86 #[.agg #[.int .i64 p, .int .i64 r, .int .i64 c, ev]] h [] (fun x h' ms' => h.le h' ∧ ∃ (F : Nat → Nat → Int) (pv : List Nat) (eu vp : Value) (m m2 : Hp), x = .tuple #[.agg #[.int .i64 p, .int .i64 r, .int .i64 c, eu], vp] ∧ ms' = [m, m2] ∧ OwnL cI 1 3 m eu (mat r c F) ∧ OwnL cI 1 3 m2 vp (pvI pv) ∧ Ech p r c f F pv) := by
 have hb : 2 ≤ p ∧ p ≤ 997 := ⟨hp.1, hp.2.1⟩
 have e1 := hR.rd.one
 have b2 : r * c ≤ 400 * 800 := Nat.mul_le_mul hr hc
 have el : (mat r c f).length = r * c := mat_len _ _ _
 refine fn_enter func86 ntmps86 rfl rfl (fun w0 hw0 => ?_)
 simp only [argS]
 refine RsQ ?_
 refine wl_box [_, _, _, _] rfl rfl (by rfl) rfl rfl rfl (fun g1 => ?_)
 refine AlQ [.int .i64 0, .int .i64 0, .int .i64 0, .slice none 0 0] rfl el42 rfl rfl (fun g2 => Qm rfl (RnQ (ws_freezeBi 1 rfl fun h' hle hS => ?_)))
 have hR := hR.up hle
 have hA := Seg.all hS
 have hA0 := hA 0 _ rfl
 refine RsQ (Qx (ox_fieldF fd42_0 rfl rfl) rfl (Qx (ox_load rfl underlying3 rfl rfl (hA0 _)) rfl (Qm rfl (RtQ (Qx (ox_fieldF fd42_2 rfl rfl) rfl (Qx (ox_load rfl underlying3 rfl rfl (hA _ _ rfl _)) rfl (Qm rfl (RnQ ?_))))))))
 refine ws_cut (fun s hh ms' => ∃ (m : Hp) (eu : Value) (g6 : Nat), s = [(1, .pointer (some ⟨g1, 0, none⟩)), (2, .pointer (some ⟨g2, 0, none⟩)), (4, .int .i64 p), (5, .int .i64 c), (6, .pointer (some ⟨g6, 0, none⟩))] ∧ h' = hh ∧ ms' = [Blk g6 42 [.int .i64 p, .int .i64 r, .int .i64 c, eu], m, Blk g2 42 [.int .i64 0, .int .i64 0, .int .i64 0, .slice none 0 0]] ∧ OwnL cI 1 3 m eu (mat r c f)) ?_ (fun s h ms hI => ?_)
 ·refine ws_stab (n := 11) (bs := [true, true, true, true, false, true, true, false, false, false, false]) [true, true, true, true, false, true, true] fol (by kernel_rfl) (by kernel_rfl) rfl rfl (Qp rfl (ox_move rfl rfl) (Qp rfl (ox_fieldF fd42_1 rfl rfl) (Qp rfl (ox_load rfl underlying3 rfl rfl (hA _ _ rfl _)) (Qp rfl (ox_move rfl rfl) (Qp rfl (ox_fieldF fd42_3 rfl rfl) (Qp rfl (ox_load rfl underlying24 rfl rfl (hA _ _ rfl _)) ?_))))))
  unfold PZs
  simp only [List.cons_append, List.nil_append]
  refine wb_step [4, 9] (by kernel_rfl) rfl ?_
  refine wbl_cons rfl ?_ ?_
  ·refine wl_buildSlice [] [] [] rfl underlying24 el3 rfl (by omega) (by kernel_rfl) (by repeat (first | exact trivial | refine ⟨⟨by first | rfl | exact (hR.rd.any).cells | exact ((hO1.rd (h := h) (ms := [m1]) (List.Mem.head _)).rd).cells | exact Rd.cells ‹_› | exact (RdL.rd ‹_›).cells, rfl, rfl⟩, ?_⟩)) rfl rfl rfl rfl (fun g25 => ?_)
   refine Qw (wb_step [7, 9] (by kernel_rfl) rfl ?_)
   refine wbl_cons rfl ?_ ?_
   ·refine wl_appendL 0 (OwnL.blk (F := cI) (el := 3) (g := g25) (l := ([] : List Int)) 0 cI_len rfl (by omega)) hR.any rfl underlying24 el3 rfl (by omega) rfl rfl rfl cI_one (by simp; omega) (by simp; omega) rfl rfl rfl (fun v1 m1 hO1 => ?_)
    rw [List.nil_append] at hO1
    have ov : v1.oneCell' = true := (hO1.rd (h := h) (ms := [m1]) (List.Mem.head _)).rd.one
    refine Qw (wb_step [8, 9] (by kernel_rfl) rfl ?_)
    refine wbl_cons rfl ?_ ?_
    ·refine Qx (ox_buildS st42 [.int .i64 0, .int .i64 0, .int .i64 0, .slice none 0 0] [(0, _), (1, _), (2, _), (3, _)] [_, _, _, _] rfl el42 rfl rfl (by repeat (first | exact trivial | refine ⟨⟨rfl, rfl, rfl⟩, ?_⟩ | refine ⟨⟨((hO1.rd (h := h) (ms := [m1]) (List.Mem.head _)).rd).cells, rfl, rfl⟩, ?_⟩)) rfl) rfl ?_
     refine Qw (Qo 9 rfl (AlQ [.int .i64 0, .int .i64 0, .int .i64 0, .slice none 0 0] rfl el42 rfl rfl (fun g6 => Qw (Qo 10 rfl ?_))))
     refine wl_storeAll 0 [_, _, _, _] rfl el42 rfl rfl rfl (by (simp [ov]; done)) rfl rfl rfl rfl rfl ?_
     refine Qw (Qe ?_)
     exact nx_meet _ ⟨m1, v1, g6, rfl, rfl, rfl, hO1⟩ Qs
    refine wbl_cons rfl ?_ ?_
    ·refine AlQ [.int .i64 0, .int .i64 0, .int .i64 0, .slice none 0 0] rfl el42 rfl rfl (fun g6 => Qw (Qo 8 rfl ?_))
     refine Qx (ox_buildS st42 [.int .i64 0, .int .i64 0, .int .i64 0, .slice none 0 0] [(0, _), (1, _), (2, _), (3, _)] [_, _, _, _] rfl el42 rfl rfl (by repeat (first | exact trivial | refine ⟨⟨rfl, rfl, rfl⟩, ?_⟩ | refine ⟨⟨((hO1.rd (h := h) (ms := [m1]) (List.Mem.head _)).rd).cells, rfl, rfl⟩, ?_⟩)) rfl) rfl ?_
     refine Qw (Qo 10 rfl ?_)
     refine wl_storeAll 0 [_, _, _, _] rfl el42 rfl rfl rfl (by (simp [ov]; done)) rfl rfl rfl rfl rfl ?_
     refine Qw (Qe ?_)
     exact nx_meet _ ⟨m1, v1, g6, rfl, rfl, rfl, hO1⟩ Qs
    exact wbl_nil
   refine wbl_cons rfl ?_ ?_
   ·refine AlQ [.int .i64 0, .int .i64 0, .int .i64 0, .slice none 0 0] rfl el42 rfl rfl (fun g6 => Qw (Qo 7 rfl ?_))
    refine wl_appendL 1 (OwnL.blk (F := cI) (el := 3) (g := g25) (l := ([] : List Int)) 0 cI_len rfl (by omega)) hR.any rfl underlying24 el3 rfl (by omega) rfl rfl rfl cI_one (by simp; omega) (by simp; omega) rfl rfl rfl (fun v1 m1 hO1 => ?_)
    rw [List.nil_append] at hO1
    have ov : v1.oneCell' = true := (hO1.rd (h := h) (ms := [m1]) (List.Mem.head _)).rd.one
    refine Qw (Qo 8 rfl ?_)
    refine Qx (ox_buildS st42 [.int .i64 0, .int .i64 0, .int .i64 0, .slice none 0 0] [(0, _), (1, _), (2, _), (3, _)] [_, _, _, _] rfl el42 rfl rfl (by repeat (first | exact trivial | refine ⟨⟨rfl, rfl, rfl⟩, ?_⟩ | refine ⟨⟨((hO1.rd (h := h) (ms := [m1]) (List.Mem.head _)).rd).cells, rfl, rfl⟩, ?_⟩)) rfl) rfl ?_
    refine Qw (Qo 10 rfl ?_)
    refine wl_storeAll 0 [_, _, _, _] rfl el42 rfl rfl rfl (by (simp [ov]; done)) rfl rfl rfl rfl rfl ?_
    refine Qw (Qe ?_)
    exact nx_meet _ ⟨m1, v1, g6, rfl, rfl, rfl, hO1⟩ Qs
   exact wbl_nil
  refine wbl_cons rfl ?_ ?_
  ·refine AlQ [.int .i64 0, .int .i64 0, .int .i64 0, .slice none 0 0] rfl el42 rfl rfl (fun g6 => Qw (Qo 4 rfl ?_))
   refine wl_buildSlice [] [] [] rfl underlying24 el3 rfl (by omega) (by kernel_rfl) (by repeat (first | exact trivial | refine ⟨⟨by first | rfl | exact (hR.rd.any).cells | exact ((hO1.rd (h := h) (ms := [m1]) (List.Mem.head _)).rd).cells | exact Rd.cells ‹_› | exact (RdL.rd ‹_›).cells, rfl, rfl⟩, ?_⟩)) rfl rfl rfl rfl (fun g25 => ?_)
   refine Qw (Qo 7 rfl ?_)
   refine wl_appendL 0 (OwnL.blk (F := cI) (el := 3) (g := g25) (l := ([] : List Int)) 0 cI_len rfl (by omega)) hR.any rfl underlying24 el3 rfl (by omega) rfl rfl rfl cI_one (by simp; omega) (by simp; omega) rfl rfl rfl (fun v1 m1 hO1 => ?_)
   rw [List.nil_append] at hO1
   have ov : v1.oneCell' = true := (hO1.rd (h := h) (ms := [m1]) (List.Mem.head _)).rd.one
   refine Qw (Qo 8 rfl ?_)
   refine Qx (ox_buildS st42 [.int .i64 0, .int .i64 0, .int .i64 0, .slice none 0 0] [(0, _), (1, _), (2, _), (3, _)] [_, _, _, _] rfl el42 rfl rfl (by repeat (first | exact trivial | refine ⟨⟨rfl, rfl, rfl⟩, ?_⟩ | refine ⟨⟨((hO1.rd (h := h) (ms := [m1]) (List.Mem.head _)).rd).cells, rfl, rfl⟩, ?_⟩)) rfl) rfl ?_
   refine Qw (Qo 10 rfl ?_)
   refine wl_storeAll 1 [_, _, _, _] rfl el42 rfl rfl rfl (by (simp [ov]; done)) rfl rfl rfl rfl rfl ?_
   refine Qw (Qe ?_)
   exact nx_swap (nx_meet _ ⟨m1, v1, g6, rfl, rfl, rfl, hO1⟩ Qs)
  exact wbl_nil
 obtain ⟨m, eu, g6, rfl, rfl, rfl, hO⟩ := hI
 ·have e2 : eu.oneCell' = true := (hO.rd (h := h) (ms := [m]) (List.Mem.head _)).rd.one
  refine ws_emp (ws_perm (ms' := [Blk g6 42 [.int .i64 p, .int .i64 r, .int .i64 c, eu], m, Hp.emp, Blk g2 42 [.int .i64 0, .int .i64 0, .int .i64 0, .slice none 0 0]]) ((List.Perm.swap _ _ _).trans ((List.Perm.swap _ _ _).cons _)) (RsQ (Qm rfl (RtQ (Qm rfl (RnQ (ws_seq (RsQ (Qm rfl (RnQ (ws_block ?_)))))))))))
  refine ws_loop (fun q s hh ms' => ∃ (j : Nat) (F : Nat → Nat → Int) (pv : List Nat) (vp : Value) (m m2 : Hp), q = c - j ∧ s = [(1, .pointer (some ⟨g1, 0, none⟩)), (2, .pointer (some ⟨g2, 0, none⟩)), (4, .int .i64 p), (5, .int .i64 c), (6, .pointer (some ⟨g6, 0, none⟩)), (7, vp), (8, .int .i64 (pv.length : Nat)), (9, .int .i64 j)] ∧ h' = hh ∧ ms' = [Blk g6 42 [.int .i64 p, .int .i64 r, .int .i64 c, eu], m, m2, Blk g2 42 [.int .i64 0, .int .i64 0, .int .i64 0, .slice none 0 0]] ∧ j ≤ c ∧ OwnL cI 1 3 m eu (mat r c F) ∧ OwnL cI 1 3 m2 vp (pvI pv) ∧ Red p r c f F pv j)
   (c - 0) _ ⟨0, f, [], _, m, _, rfl, rfl, rfl, rfl, by omega, hO, OwnL.nil cI_len, Red.start hf⟩ Qs ?_
  rintro q s hh ms' ⟨j, F, pv, vp, m, m2, rfl, rfl, rfl, rfl, hj, hO, hO2, hRed⟩
  have ovp := (pvI_rd (h := h') (ms := [m2]) hO2 (List.Mem.head _)).one
  have hlr := hRed.len
  refine ws_seq (RsQ (Qm rfl (Qm rfl (Qx (ox_lss rfl rfl rfl) rfl (Qm rfl ?_)))))
  refine wl_split (t := 33) rfl (fun hlt => ?_) (fun hlt => ?_)
  ·have hjc : j < c := by omega
   refine Qg (ox_move rfl rfl) rfl (Qg (ox_fieldF fd42_1 rfl rfl) rfl (Qg (ox_load rfl underlying3 rfl rfl (hA _ _ rfl _)) rfl (Qg (ox_lss rfl rfl rfl) rfl (Qx (ox_pick_t rfl rfl rfl) rfl (RnQ ?_)))))
   refine ws_if rfl (fun hlt0 => ?_) (fun hlt0 => ?_)
   ·have htr : pv.length < r := by omega
    refine ws_skip (nx_then (ws_seq (ws_block (RsQ (Qm rfl (Qm rfl (RnQ (ws_seq (ws_block ?_)))))))))
    refine ws_loop (fun q s hh ms' => ∃ (i : Nat), q = r - i ∧ s = [(1, .pointer (some ⟨g1, 0, none⟩)), (2, .pointer (some ⟨g2, 0, none⟩)), (4, .int .i64 p), (5, .int .i64 c), (6, .pointer (some ⟨g6, 0, none⟩)), (7, vp), (8, .int .i64 pv.length), (9, .int .i64 j), (10, .int .i64 i)] ∧ h' = hh ∧ ms' = [Blk g6 42 [.int .i64 p, .int .i64 r, .int .i64 c, eu], m, m2, Blk g2 42 [.int .i64 0, .int .i64 0, .int .i64 0, .slice none 0 0]] ∧ pv.length ≤ i ∧ i ≤ r ∧ ∀ a, pv.length ≤ a → a < i → F a j = 0)
     (r - pv.length) _ ⟨pv.length, rfl, rfl, rfl, rfl, by omega, by omega, fun a h1 h2 => by omega⟩ Qs ?_
    rintro q s hh ms' ⟨i, rfl, rfl, rfl, rfl, hli, hir, hno⟩
    have elF : (mat r c F).length = r * c := mat_len _ _ _
    refine ws_seq (RsQ (Qm rfl (Qx (ox_fieldF fd42_1 rfl rfl) rfl (Qx (ox_load rfl underlying3 rfl rfl (hA _ _ rfl _)) rfl (Qx (ox_lss rfl rfl rfl) rfl (Qm rfl ?_))))))
    refine wl_split (t := 46) rfl (fun hi => ?_) (fun hi => ?_)
    ·have hi : i < r := by omega
     have hix := ix_lt hi hjc
     have hFi := hRed.bd i hi j hjc
     refine Qg (ox_fieldF fd42_3 rfl rfl) rfl (Qg (ox_load rfl underlying24 rfl rfl (Cell.blk 0 rfl rfl)) rfl (Qg (ox_move rfl rfl) rfl (Qg (ox_move rfl rfl) rfl (Qg (ox_mul rfl rfl rfl (by omega)) rfl (Qg (ox_move rfl rfl) rfl (Qg (ox_add rfl rfl rfl (by omega)) rfl (Qg (ox_indexR (i * c + j) (hO.rd (List.Mem.tail _ (List.Mem.head _))).rd rfl underlying24 el3 rfl rfl (by omega) (by omega)) rfl (Qg (ox_load rfl underlying3 rfl rfl ((hO.rd (List.Mem.tail _ (List.Mem.head _))).ent hi hjc)) rfl (Qg (ox_eqi rfl rfl rfl) rfl (Qx (ox_pick_t rfl rfl rfl) rfl (RnQ ?_)))))))))))
     refine ws_if rfl (fun hz => ?_) (fun hz => ?_)
     ·refine ws_skip (nx_then (ws_block (ws_region (Qm rfl (Qx (ox_add rfl rfl rfl (by omega)) rfl (Qm rfl (wl_nil (nx_block ?_))))))))
      refine nx_round (r - (i + 1)) _ (by omega) ⟨i + 1, rfl, rfl, rfl, rfl, by omega, by omega, fun a h1 h2 => ?_⟩ Qs
      rcases (by omega : a < i ∨ a = i) with h3 | rfl
      ·exact hno a h1 h3
      ·exact hz
     ·refine ws_exit (nx_then_exit (nx_then_exit (nx_block_exit (nx_then (ws_seq (RsQ (Qm rfl (Qx (ox_fieldF fd42_1 rfl rfl) rfl (Qx (ox_load rfl underlying3 rfl rfl (hA _ _ rfl _)) rfl (Qx (ox_eqi rfl rfl rfl) rfl (RnQ (ws_if rfl (fun hc => absurd hc (by omega)) (fun hc => ws_skip (nx_then (RsQ (Qx (ox_fieldF fd42_3 rfl rfl) rfl (Qx (ox_load rfl underlying24 rfl rfl (Cell.blk 0 rfl rfl)) rfl (Qm rfl (Qm rfl (Qx (ox_mul rfl rfl rfl (by omega)) rfl (Qm rfl (Qx (ox_add rfl rfl rfl (by omega)) rfl (Qx (ox_indexR (i * c + j) (hO.rd (List.Mem.tail _ (List.Mem.head _))).rd rfl underlying24 el3 rfl rfl (by omega) (by omega)) rfl (Qx (ox_load rfl underlying3 rfl rfl ((hO.rd (List.Mem.tail _ (List.Mem.head _))).ent hi hjc)) rfl (Qm rfl (Qx (ox_call rfl call81 rfl (over_v (F i j) p _ hp (by omega) (by omega) _)) rfl (Qm rfl (RnQ (ws_seq (RsQ (Qm rfl (RnQ (ws_block ?_)))))))))))))))))))))))))))))))))
      have ho1 := ovf_bd hp (show 1 ≤ F i j by omega) hFi.2
      have ho2 := ovf_inv hp (show 1 ≤ F i j by omega) hFi.2
      generalize ovf (F i j) p = v at *
      refine ws_loop (fun q s hh ms' => ∃ (b : Nat) (m : Hp), q = c - b ∧ s = [(1, .pointer (some ⟨g1, 0, none⟩)), (2, .pointer (some ⟨g2, 0, none⟩)), (4, .int .i64 p), (5, .int .i64 c), (6, .pointer (some ⟨g6, 0, none⟩)), (7, vp), (8, .int .i64 pv.length), (9, .int .i64 j), (10, .int .i64 i), (11, .int .i64 v), (12, .int .i64 b)] ∧ h' = hh ∧ ms' = [Blk g6 42 [.int .i64 p, .int .i64 r, .int .i64 c, eu], m, m2, Blk g2 42 [.int .i64 0, .int .i64 0, .int .i64 0, .slice none 0 0]] ∧ b ≤ c ∧ OwnL cI 1 3 m eu (mat r c (sst p pv.length i v F b)))
       (c - 0) _ ⟨0, m, rfl, rfl, rfl, rfl, by omega, by rw [mat_congr (fun a _ b _ => sst_zero p pv.length i v F a b)]; exact hO⟩ Qs ?_
      rintro q s hh ms' ⟨b, m, rfl, rfl, rfl, rfl, hbc, hO⟩
      refine ws_seq (RsQ (Qm rfl (Qm rfl (Qx (ox_lss rfl rfl rfl) rfl (RnQ ?_)))))
      refine ws_if rfl (fun hltb => ?_) (fun hltb => ?_)
      ·have hb' : b < c := by omega
       have hxi := ix_lt hi hb'
       have hxt := ix_lt htr hb'
       have hFb := hRed.bd i hi b hb'
       have hbm := mul_bd hFb (p := p) ⟨show 0 ≤ v by omega, ho1.2⟩ hb.2
       have els : (mat r c (sst p pv.length i v F b)).length = r * c := mat_len _ _ _
       have hat := sst_at p pv.length i v F b
       refine ws_skip (nx_then (ws_seq (ws_block (RsQ (Qx (ox_fieldF fd42_3 rfl rfl) rfl (Qx (ox_load rfl underlying24 rfl rfl (Cell.blk 0 rfl rfl)) rfl (Qm rfl (Qm rfl (Qx (ox_mul rfl rfl rfl (by omega)) rfl (Qm rfl (Qx (ox_add rfl rfl rfl (by omega)) rfl (Qx (ox_indexR (i * c + b) (hO.rd (List.Mem.tail _ (List.Mem.head _))).rd rfl underlying24 el3 rfl rfl (by omega) (by omega)) rfl (Qx (ox_load rfl underlying3 rfl rfl ((hat i ▸ (hO.rd (List.Mem.tail _ (List.Mem.head _))).ent hi hb'))) rfl (Qm rfl (RnQ (ws_seq (ws_draw 16 fol (by kernel_rfl) rfl (wr_x (ox_fieldF fd42_3 rfl rfl) rfl rfl (wr_x (ox_load rfl underlying24 rfl rfl (Cell.blk 0 rfl rfl)) rfl rfl (wr_x (ox_move rfl rfl) rfl rfl (wr_x (ox_move rfl rfl) rfl rfl (wr_x (ox_mul rfl rfl rfl (by omega)) rfl rfl (wr_x (ox_move rfl rfl) rfl rfl (wr_x (ox_add rfl rfl rfl (by omega)) rfl rfl (wr_x (ox_fieldF fd42_3 rfl rfl) rfl rfl (wr_x (ox_load rfl underlying24 rfl rfl (Cell.blk 0 rfl rfl)) rfl rfl (wr_x (ox_move rfl rfl) rfl rfl (wr_x (ox_move rfl rfl) rfl rfl (wr_x (ox_mul rfl rfl rfl (by omega)) rfl rfl (wr_x (ox_move rfl rfl) rfl rfl (wr_x (ox_add rfl rfl rfl (by omega)) rfl rfl (wr_x (ox_indexR (pv.length * c + b) (hO.rd (List.Mem.tail _ (List.Mem.head _))).rd rfl underlying24 el3 rfl rfl (by omega) (by omega)) rfl rfl (wr_x (ox_load rfl underlying3 rfl rfl ((hat pv.length ▸ (hO.rd (List.Mem.tail _ (List.Mem.head _))).ent htr hb'))) rfl rfl (wr_nil (Qx (ox_indexR (i * c + b) (hO.rd (List.Mem.tail _ (List.Mem.head _))).rd rfl underlying24 el3 rfl rfl (by omega) (by omega)) rfl (wl_storeN 1 (i * c + b) hO rfl el3 rfl rfl rfl (by omega) rfl rfl (fun m1 hO1 => ?_)))))))))))))))))))))))))))))))))))))
       rw [mat_set _ hb'] at hO1
       have els1 : (mat r c (upd2 (sst p pv.length i v F b) i b (F pv.length b))).length = r * c := mat_len _ _ _
       refine RnQ (ws_draw 12 fol (by kernel_rfl) rfl (wr_x (ox_fieldF fd42_3 rfl rfl) rfl rfl (wr_x (ox_load rfl underlying24 rfl rfl (Cell.blk 0 rfl rfl)) rfl rfl (wr_x (ox_move rfl rfl) rfl rfl (wr_x (ox_move rfl rfl) rfl rfl (wr_x (ox_mul rfl rfl rfl (by omega)) rfl rfl (wr_x (ox_move rfl rfl) rfl rfl (wr_x (ox_add rfl rfl rfl (by omega)) rfl rfl (wr_x (ox_move rfl rfl) rfl rfl (wr_x (ox_move rfl rfl) rfl rfl (wr_x (ox_mul rfl rfl rfl (by omega)) rfl rfl (wr_x (ox_move rfl rfl) rfl rfl (wr_x (ox_remP rfl rfl rfl (by omega) (by omega)) rfl rfl (wr_nil (Qx (ox_indexR (pv.length * c + b) (hO1.rd (List.Mem.tail _ (List.Mem.head _))).rd rfl underlying24 el3 rfl rfl (by omega) (by omega)) rfl (wl_storeN 1 (pv.length * c + b) hO1 rfl el3 rfl rfl rfl (by omega) rfl rfl (fun m2' hO2' => ?_)))))))))))))))))
       rw [mat_set _ hb', mat_congr (fun a _ b' _ => sst_step p pv.length i v F b a b')] at hO2'
       refine wl_nil (nx_block (nx_then (ws_region (Qm rfl (Qx (ox_add rfl rfl rfl (by omega)) rfl (Qm rfl (wl_nil ?_)))))))
       refine nx_round (c - (b + 1)) _ (by omega) ⟨b + 1, m2', rfl, rfl, rfl, rfl, by omega, hO2'⟩ Qs
      ·obtain rfl : b = c := by omega
       rw [mat_congr (fun a _ b' hb' => sst_all p pv.length i j v F b a b' hb')] at hO
       have hb2 := rs2_bd (v := v) hb.1 htr hi hRed.bd
       refine ws_exit (nx_then_exit (nx_then_exit (nx_block_exit (nx_then (ws_seq (RsQ (Qm rfl (RnQ (ws_block ?_)))))))))
       refine ws_loop (fun q s hh ms' => ∃ (k : Nat) (m : Hp), q = r - k ∧ s = [(1, .pointer (some ⟨g1, 0, none⟩)), (2, .pointer (some ⟨g2, 0, none⟩)), (4, .int .i64 p), (5, .int .i64 b), (6, .pointer (some ⟨g6, 0, none⟩)), (7, vp), (8, .int .i64 pv.length), (9, .int .i64 j), (10, .int .i64 i), (11, .int .i64 v), (14, .int .i64 k)] ∧ h' = hh ∧ ms' = [Blk g6 42 [.int .i64 p, .int .i64 r, .int .i64 b, eu], m, m2, Blk g2 42 [.int .i64 0, .int .i64 0, .int .i64 0, .slice none 0 0]] ∧ k ≤ r ∧ OwnL cI 1 3 m eu (mat r b (kst p pv.length i j v F k)))
        (r - 0) _ ⟨0, m, rfl, rfl, rfl, rfl, by omega, hO⟩ Qs ?_
       rintro q s hh ms' ⟨k, m, rfl, rfl, rfl, rfl, hk, hO⟩
       refine ws_seq (RsQ (Qm rfl (Qx (ox_fieldF fd42_1 rfl rfl) rfl (Qx (ox_load rfl underlying3 rfl rfl (hA _ _ rfl _)) rfl (Qx (ox_lss rfl rfl rfl) rfl (RnQ ?_))))))
       refine ws_if rfl (fun hltk => ?_) (fun hltk => ?_)
       ·have hkr : k < r := by omega
        have hxk := ix_lt hkr hjc
        have hn := hb2 k hkr j hjc
        have hkk := kst_k p pv.length i j v F k j
        have elk : (mat r b (kst p pv.length i j v F k)).length = r * b := mat_len _ _ _
        refine ws_skip (nx_then (ws_seq (ws_block (RsQ (Qx (ox_fieldF fd42_3 rfl rfl) rfl (Qx (ox_load rfl underlying24 rfl rfl (Cell.blk 0 rfl rfl)) rfl (Qm rfl (Qm rfl (Qx (ox_mul rfl rfl rfl (by omega)) rfl (Qm rfl (Qx (ox_add rfl rfl rfl (by omega)) rfl (Qx (ox_indexR (k * b + j) (hO.rd (List.Mem.tail _ (List.Mem.head _))).rd rfl underlying24 el3 rfl rfl (by omega) (by omega)) rfl (Qx (ox_load rfl underlying3 rfl rfl ((hkk ▸ (hO.rd (List.Mem.tail _ (List.Mem.head _))).ent hkr hjc))) rfl (Qm rfl (RtQ (Qm rfl (RnQ (ws_block ?_))))))))))))))))))
        refine ws_loop (fun q s hh ms' => ∃ (d : Nat) (m : Hp), q = b - d ∧ s = [(1, .pointer (some ⟨g1, 0, none⟩)), (2, .pointer (some ⟨g2, 0, none⟩)), (4, .int .i64 p), (5, .int .i64 b), (6, .pointer (some ⟨g6, 0, none⟩)), (7, vp), (8, .int .i64 pv.length), (9, .int .i64 j), (10, .int .i64 i), (11, .int .i64 v), (14, .int .i64 k), (15, .int .i64 (rs2 p pv.length i v F k j)), (16, .int .i64 d)] ∧ h' = hh ∧ ms' = [Blk g6 42 [.int .i64 p, .int .i64 r, .int .i64 b, eu], m, m2, Blk g2 42 [.int .i64 0, .int .i64 0, .int .i64 0, .slice none 0 0]] ∧ d ≤ b ∧ ((k = pv.length ∨ rs2 p pv.length i v F k j = 0) → d = 0) ∧ OwnL cI 1 3 m eu (mat r b (kpt p pv.length i j v F k d)))
         (b - 0) _ ⟨0, m, rfl, rfl, rfl, rfl, by omega, fun _ => rfl, by rw [mat_congr (fun a _ b' _ => kpt_zero p pv.length i j v F k a b')]; exact hO⟩ Qs ?_
        rintro q s hh ms' ⟨d, m, rfl, rfl, rfl, rfl, hd, hd0, hO⟩
        have hdone : (k = pv.length ∨ rs2 p pv.length i v F k j = 0) → OwnL cI 1 3 m eu (mat r b (kst p pv.length i j v F (k + 1))) := fun hx => by
         obtain rfl := hd0 hx
         rw [mat_congr (fun a _ b' _ => kpt_zero p pv.length i j v F k a b'), mat_congr (fun a _ b' hb' => kst_same p pv.length i j v F k a b' (by rcases hx with hx | hx; exact .inl hx; exact .inr ⟨hx, hb2 k hkr b' hb'⟩))] at hO
         exact hO
        refine ws_seq (RsQ (Qm rfl (Qm rfl (Qx (ox_lss rfl rfl rfl) rfl (Qm rfl ?_)))))
        refine wl_split (t := 137) rfl (fun hq1 => ?_) (fun hq1 => ?_)
        ·have hdb : d < b := by omega
         refine Qg (ox_move rfl rfl) rfl (Qg (ox_move rfl rfl) rfl (Qg (ox_nei rfl rfl rfl) rfl (Qx (ox_pick_t rfl rfl rfl) rfl (Qm rfl ?_))))
         refine wl_split (t := 142) rfl (fun hq2 => ?_) (fun hq2 => ?_)
         ·have hkt : k ≠ pv.length := by omega
          refine Qg (ox_move rfl rfl) rfl (Qg (ox_gtr rfl rfl rfl) rfl (Qx (ox_pick_t rfl rfl rfl) rfl (RnQ ?_)))
          refine ws_if rfl (fun hq3 => ?_) (fun hq3 => ?_)
          ·have hxd := ix_lt hkr hdb
           have hxt := ix_lt htr hdb
           have hv1 := hb2 k hkr d hdb
           have hv2 := hb2 pv.length htr d hdb
           have hka := kpt_at p pv.length i j v F k d
           have hkt2 := kpt_t p pv.length i j v F k d d
           have hbm := mul_bd (p := p) (a := p - rs2 p pv.length i v F k j) ⟨by omega, by omega⟩ hv2 hb.2
           have elp : (mat r b (kpt p pv.length i j v F k d)).length = r * b := mat_len _ _ _
           refine ws_skip (nx_then (ws_seq (ws_block (ws_draw 32 fol (by kernel_rfl) rfl (wr_x (ox_fieldF fd42_3 rfl rfl) rfl rfl (wr_x (ox_load rfl underlying24 rfl rfl (Cell.blk 0 rfl rfl)) rfl rfl (wr_x (ox_move rfl rfl) rfl rfl (wr_x (ox_move rfl rfl) rfl rfl (wr_x (ox_mul rfl rfl rfl (by omega)) rfl rfl (wr_x (ox_move rfl rfl) rfl rfl (wr_x (ox_add rfl rfl rfl (by omega)) rfl rfl (wr_x (ox_fieldF fd42_3 rfl rfl) rfl rfl (wr_x (ox_load rfl underlying24 rfl rfl (Cell.blk 0 rfl rfl)) rfl rfl (wr_x (ox_move rfl rfl) rfl rfl (wr_x (ox_move rfl rfl) rfl rfl (wr_x (ox_mul rfl rfl rfl (by omega)) rfl rfl (wr_x (ox_move rfl rfl) rfl rfl (wr_x (ox_add rfl rfl rfl (by omega)) rfl rfl (wr_x (ox_indexR (k * b + d) (hO.rd (List.Mem.tail _ (List.Mem.head _))).rd rfl underlying24 el3 rfl rfl (by omega) (by omega)) rfl rfl (wr_x (ox_load rfl underlying3 rfl rfl ((hka ▸ (hO.rd (List.Mem.tail _ (List.Mem.head _))).ent hkr hdb))) rfl rfl (wr_x (ox_move rfl rfl) rfl rfl (wr_x (ox_move rfl rfl) rfl rfl (wr_x (ox_sub rfl rfl rfl (by omega)) rfl rfl (wr_x (ox_fieldF fd42_3 rfl rfl) rfl rfl (wr_x (ox_load rfl underlying24 rfl rfl (Cell.blk 0 rfl rfl)) rfl rfl (wr_x (ox_move rfl rfl) rfl rfl (wr_x (ox_move rfl rfl) rfl rfl (wr_x (ox_mul rfl rfl rfl (by omega)) rfl rfl (wr_x (ox_move rfl rfl) rfl rfl (wr_x (ox_add rfl rfl rfl (by omega)) rfl rfl (wr_x (ox_indexR (pv.length * b + d) (hO.rd (List.Mem.tail _ (List.Mem.head _))).rd rfl underlying24 el3 rfl rfl (by omega) (by omega)) rfl rfl (wr_x (ox_load rfl underlying3 rfl rfl ((hkt2 ▸ (hO.rd (List.Mem.tail _ (List.Mem.head _))).ent htr hdb))) rfl rfl (wr_x (ox_mul rfl rfl rfl (by omega)) rfl rfl (wr_x (ox_add rfl rfl rfl (by omega)) rfl rfl (wr_x (ox_move rfl rfl) rfl rfl (wr_x (ox_remP rfl rfl rfl (by omega) (by omega)) rfl rfl (wr_nil (Qx (ox_indexR (k * b + d) (hO.rd (List.Mem.tail _ (List.Mem.head _))).rd rfl underlying24 el3 rfl rfl (by omega) (by omega)) rfl (wl_storeN 1 (k * b + d) hO rfl el3 rfl rfl rfl (by omega) rfl rfl (fun m1 hO1 => ?_))))))))))))))))))))))))))))))))))))))))
           rw [mat_set _ hdb, mat_congr (fun a _ b' _ => kpt_step p pv.length i j v F k d a b' hkt)] at hO1
           refine wl_nil (nx_block (nx_then (ws_region (Qm rfl (Qx (ox_add rfl rfl rfl (by omega)) rfl (Qm rfl (wl_nil ?_)))))))
           refine nx_round (b - (d + 1)) _ (by omega) ⟨d + 1, m1, rfl, rfl, rfl, rfl, by omega, fun hx => by omega, hO1⟩ Qs
          ·refine ws_exit (nx_then_exit (nx_then_exit (nx_block_exit (nx_block (nx_then (ws_region (Qm rfl (Qx (ox_add rfl rfl rfl (by omega)) rfl (Qm rfl (wl_nil ?_))))))))))
           refine nx_round (r - (k + 1)) _ (by omega) ⟨k + 1, m, rfl, rfl, rfl, rfl, by omega, hdone (.inr (by omega))⟩ Qs
         ·refine Qk rfl (Qk rfl (Qx (ox_pick_f rfl rfl rfl) rfl (RnQ (ws_cond_f rfl (ws_exit (nx_then_exit (nx_then_exit (nx_block_exit (nx_block (nx_then (ws_region (Qm rfl (Qx (ox_add rfl rfl rfl (by omega)) rfl (Qm rfl (wl_nil ?_)))))))))))))))
          refine nx_round (r - (k + 1)) _ (by omega) ⟨k + 1, m, rfl, rfl, rfl, rfl, by omega, hdone (.inl (by omega))⟩ Qs
        ·refine Qk rfl (Qk rfl (Qk rfl (Qx (ox_pick_f rfl rfl rfl) rfl (Qm rfl (Qk rfl (Qk rfl (Qx (ox_pick_f rfl rfl rfl) rfl (RnQ (ws_cond_f rfl (ws_exit (nx_then_exit (nx_then_exit (nx_block_exit (nx_block (nx_then (ws_region (Qm rfl (Qx (ox_add rfl rfl rfl (by omega)) rfl (Qm rfl (wl_nil ?_))))))))))))))))))))
         obtain rfl : d = b := by omega
         refine nx_round (r - (k + 1)) _ (by omega) ⟨k + 1, m, rfl, rfl, rfl, rfl, by omega, by rw [mat_congr (fun a _ b' hb' => kpt_all p pv.length i j v F k d a b' hb')] at hO; exact hO⟩ Qs
       ·obtain rfl : k = r := by omega
        refine ws_exit (nx_then_exit (nx_then_exit (nx_block_exit (nx_then (RsQ (Qm rfl (Qm rfl ?_)))))))
        refine wl_buildSlice1 [_] rfl underlying24 el3 rfl (by rfl) rfl rfl (by omega) rfl rfl rfl (fun g183 => ?_)
        refine wl_appendL 3 hO2 (RdL.one cI_len (List.Mem.head _) rfl) rfl underlying24 el3 rfl (by omega) rfl rfl rfl cI_one (by simp only [pvI_len, List.length_singleton]; omega) (by simp only [pvI_len, List.length_singleton]; omega) rfl rfl rfl (fun vp' mv hOv => ?_)
        rw [pvI_snoc] at hOv
        refine Qm rfl (RrQ (Qm rfl (Qx (ox_add rfl rfl rfl (by omega)) rfl (Qm rfl (wl_nil (nx_block (nx_then (ws_region (Qm rfl (Qx (ox_add rfl rfl rfl (by omega)) rfl (Qm rfl (wl_nil (nx_drop ?_)))))))))))))
        have hlen1 : (pv ++ [j]).length = pv.length + 1 := by simp
        refine nx_round (b - (j + 1)) [(1, .pointer (some ⟨g1, 0, none⟩)), (2, .pointer (some ⟨g2, 0, none⟩)), (4, .int .i64 p), (5, .int .i64 b), (6, .pointer (some ⟨g6, 0, none⟩)), (7, vp'), (8, .int .i64 ((pv.length + 1 : Nat) : Int)), (9, .int .i64 ((j + 1 : Nat) : Int))] (by omega) ⟨j + 1, rs3 p pv.length i j v F, pv ++ [j], vp', m, mv, rfl, by rw [hlen1], rfl, rfl, by omega, by rw [mat_congr (fun a ha b' _ => kst_all p pv.length i j v F k a b' ha)] at hO; exact hO, hOv, hRed.step hb.1 hi hli hjc ho2⟩ Qs
    ·refine Qk rfl (Qk rfl (Qk rfl (Qk rfl (Qk rfl (Qk rfl (Qk rfl (Qk rfl (Qk rfl (Qk rfl (Qx (ox_pick_f rfl rfl rfl) rfl (RnQ (ws_cond_f rfl (ws_exit (nx_then_exit (nx_then_exit (nx_block_exit (nx_then (ws_seq (RsQ (Qm rfl (Qx (ox_fieldF fd42_1 rfl rfl) rfl (Qx (ox_load rfl underlying3 rfl rfl (hA _ _ rfl _)) rfl (Qx (ox_eqi rfl rfl rfl) rfl (RnQ ?_))))))))))))))))))))))))
     refine ws_if rfl (fun hc => ?_) (fun hc => absurd (by omega) hc)
     refine ws_exit (nx_then_exit (nx_block_exit (nx_then (ws_region (Qm rfl (Qx (ox_add rfl rfl rfl (by omega)) rfl (Qm rfl (wl_nil ?_))))))))
     refine nx_round (c - (j + 1)) _ (by omega) ⟨j + 1, F, pv, vp, m, m2, rfl, rfl, rfl, rfl, by omega, hO, hO2, hRed.skip fun a ha hl => hno a hl (by omega)⟩ Qs
   ·have hfin := Red.fin (show r ≤ pv.length by omega) (c - j) j hRed
    rw [show j + (c - j) = c by omega] at hfin
    refine ws_exit (nx_then_exit (nx_then_exit (nx_block_exit (nx_then (RsQ (Qx (ox_loadG rfl underlying42 rfl el42 rfl rfl (Seg.blk 0 rfl)) rfl (Qm rfl ?_)))))))
    refine wl_storeAll 3 [_, _, _, _] rfl el42 rfl rfl rfl (by (simp [e2]; done)) rfl rfl rfl rfl rfl ?_
    refine Qm rfl (RnQ (ws_ret (nx_drop ?_)))
    exact nx_retD2 (vs := [_, _, _, _]) 2 rfl rfl rfl underlying42 rfl el42 rfl rfl (⟨hle, F, pv, eu, vp, m, m2, rfl, rfl, hO, hO2, ⟨hfin⟩⟩)
  ·obtain rfl : j = c := by omega
   refine Qk rfl (Qk rfl (Qk rfl (Qk rfl (Qx (ox_pick_f rfl rfl rfl) rfl (RnQ (ws_cond_f rfl (ws_exit (nx_then_exit (nx_then_exit (nx_block_exit (nx_then (RsQ (Qx (ox_loadG rfl underlying42 rfl el42 rfl rfl (Seg.blk 0 rfl)) rfl (Qm rfl ?_))))))))))))))
   refine wl_storeAll 3 [_, _, _, _] rfl el42 rfl rfl rfl (by (simp [e2]; done)) rfl rfl rfl rfl rfl ?_
   refine Qm rfl (RnQ (ws_ret (nx_drop ?_)))
   exact nx_retD2 (vs := [_, _, _, _]) 2 rfl rfl rfl underlying42 rfl el42 rfl rfl (⟨hle, F, pv, eu, vp, m, m2, rfl, rfl, hO, hO2, ⟨hRed⟩⟩)
end Go.Proofs.YtdnelknieikbaaaGreat
namespace Go.Proofs.YtdnelknieikbaaaGreat
open Tryz
open Go.Eng Go.RowKit Go.Lin
def VecB (d : Nat → Nat) (fr n : Nat) (es : List Value) (v : Nat → Nat → Int) (m : Hp) : Prop := Bag n (fun k x => OwnL cI 1 3 x (es.getD k undef) (vec (d (fr + k)) (v (fr + k)))) m
def StO (d : Nat → Nat) (g fr to : Nat) (v : Nat → Nat → Int) (m : Hp) : Prop :=
 ∃ (vv : Value) (es : List Value) (ma mb : Hp), fr ≤ to ∧ m = (Blk g 110 [.int .i64 fr, .int .i64 to, vv]).join (ma.join mb) ∧ (Blk g 110 [.int .i64 fr, .int .i64 to, vv]).disj (ma.join mb) ∧ ma.disj mb ∧ OwnL cV 1 24 ma vv es ∧ es.length = to + 1 - fr ∧ VecB d fr es.length es v mb
def RdS (h : Hp) (d : Nat → Nat) (g fr to : Nat) (v : Nat → Nat → Int) : Prop :=
 ∃ (vv : Value) (es : List Value), fr ≤ to ∧ Seg h [] ⟨g, 0, none⟩ [.int .i64 fr, .int .i64 to, vv] ∧ RdL cV 1 h [] vv es ∧ es.length = to + 1 - fr ∧ ∀ k (hk : k < es.length), RdL cI 1 h [] es[k] (vec (d (fr + k)) (v (fr + k)))
theorem es_getD {es : List Value} {k : Nat} (hk : k < es.length) : es.getD k undef = es[k] := by simp [List.getD, hk]
theorem VecB.rd {d : Nat → Nat} {fr n : Nat} {es : List Value} {v : Nat → Nat → Int} {m h : Hp} (B : VecB d fr n es v m) (hl : m.le h) (hn : n = es.length) : ∀ k (hk : k < es.length), RdL cI 1 h [] es[k] (vec (d (fr + k)) (v (fr + k))) := fun k hk => by
 obtain ⟨x, hx, O⟩ := Bag.all B k (by omega)
 rw [es_getD hk] at O
 exact O.rdh (Hp.le_trans hx hl)
theorem StO.rd {d : Nat → Nat} {g fr to : Nat} {v : Nat → Nat → Int} {m h : Hp} (S : StO d g fr to v m) (hl : m.le h) : RdS h d g fr to v := by
 obtain ⟨vv, es, ma, mb, h0, rfl, h1, h2, h3, h4, h5⟩ := S
 have l1 : ma.le h := Hp.le_trans (Hp.le_trans Hp.le_joinl (Hp.le_joinr h1)) hl
 have l2 : mb.le h := Hp.le_trans (Hp.le_trans (Hp.le_joinr h2) (Hp.le_joinr h1)) hl
 exact ⟨vv, es, h0, Seg.ofLe (Hp.le_trans Hp.le_joinl hl), h3.rdh l1, h4, h5.rd l2 rfl⟩
theorem zadd (a : Addr) : a.add 0 = a := by unfold Addr.add; simp
theorem last_r (d : Nat → Nat) (g fr to : Nat) (v : Nat → Nat → Int) (h : Hp) (hS : RdS h d g fr to v) (ht : to ≤ 1000) : ∃ u, (∀ ms, FnV Tryz.prog 107 #[.pointer (some ⟨g, 0, none⟩)] h ms u) ∧ RdL cI 1 h [] u (vec (d to) (v to)) := by
 obtain ⟨vv, es, h0, h1, h2, h3, h4⟩ := hS
 have hk : to - fr < es.length := by omega
 refine ⟨es[to - fr], fun ms => fnv ?_ ms, by have := h4 (to - fr) hk; rwa [show fr + (to - fr) = to by omega] at this⟩
 have hA := Seg.all h1
 have hlen : ((es.length : Nat) : Int) = (to : Int) + 1 - fr := by omega
 have hn : es.length ≤ 1001 := by omega
 refine fn_enter func107 ntmps107 rfl rfl (fun w0 hw0 => ?_)
 simp only [argS]
 refine RsQ (Qm rfl (RnQ (ws_seq (ws_stab (n := 15) (bs := [true, true, true, true, true, true, true, true, true, true, true, true, true, true, false]) [true, true, true, true, true, true, true, true, true, true, true, true, true, true] fol (by kernel_rfl) (by kernel_rfl) rfl rfl (Qp rfl (ox_move rfl rfl) (Qp rfl (ox_nilCheck rfl rfl) (Qp rfl (ox_fieldF fd110_0 rfl rfl) (Qp rfl (ox_fieldF fd64_2 rfl rfl) (Qp rfl (ox_load rfl underlying62 rfl rfl (hA 2 _ rfl _)) (Qp rfl (ox_move rfl rfl) (Qp rfl (ox_nilCheck rfl rfl) (Qp rfl (ox_fieldF fd110_0 rfl rfl) (Qp rfl (ox_fieldF fd64_2 rfl rfl) (Qp rfl (ox_load rfl underlying62 rfl rfl (hA 2 _ rfl _)) (Qp rfl (ox_lenR h2.rd.any rfl underlying62 rfl) (Qp rfl (ox_sub rfl rfl rfl (by omega)) (Qp rfl (ox_indexR (to - fr) h2.rd.any rfl underlying62 el24 rfl rfl (by omega) (by omega)) (Qp rfl (ox_load rfl underlying24 rfl rfl (h2.any.cell0 hk rfl)) ?_))))))))))))))))))
 unfold PZs
 simp only [List.cons_append, List.nil_append]
 refine Qo 14 rfl (Qm rfl (Qw (Qe (nx_then (ws_ret ?_)))))
 exact nx_ret1 rfl rfl (rfl)
end Go.Proofs.YtdnelknieikbaaaGreat
namespace Go.Proofs.YtdnelknieikbaaaGreat
open Tryz
open Go.Eng Go.RowKit Go.Lin
def addv (p n : Int) (ft : Nat) (v w : Nat → Nat → Int) (k i : Nat) : Int := if ft ≤ k then (v k i + n * w k i) % p else v k i
def addb (p n : Int) (to b : Nat) (v w : Nat → Nat → Int) (k i : Nat) : Int := if to < k + b then (v k i + n * w k i) % p else v k i
def addi (p n : Int) (i : Nat) (v w : Nat → Int) (a : Nat) : Int := if a < i then (v a + n * w a) % p else v a
theorem addi_step (p n : Int) (i : Nat) (v w : Nat → Int) (a : Nat) : (if a = i then (v i + n * w i) % p else addi p n i v w a) = addi p n (i + 1) v w a := by
 unfold addi
 by_cases h : a = i
 ·rw [if_pos h, if_pos (by omega), h]
 ·rw [if_neg h]
  by_cases h2 : a < i
  ·rw [if_pos h2, if_pos (by omega)]
  ·rw [if_neg h2, if_neg (by omega)]
theorem addi_at (p n : Int) (i : Nat) (v w : Nat → Int) : addi p n i v w i = v i := if_neg (by omega)
theorem add_ok (p n : Int) (d : Nat → Nat) (gs gt fs ft to : Nat) (v w : Nat → Nat → Int) (vv : Value) (es : List Value) (mb : Hp) (h : Hp) (hp : 2 ≤ p ∧ p ≤ 997) (hn : 0 ≤ n ∧ n ≤ 997) (hto : to ≤ 1000) (hfs : fs ≤ to) (hd : ∀ k, d k ≤ 400)
  (hv : ∀ k, fs ≤ k → k ≤ to → ∀ i, i < d k → 0 ≤ v k i ∧ v k i < p) (hw : ∀ k, ft ≤ k → k ≤ to → ∀ i, i < d k → 0 ≤ w k i ∧ w k i < p)
  (hS : Seg h [] ⟨gs, 0, none⟩ [.int .i64 fs, .int .i64 to, vv]) (hE : RdL cV 1 h [] vv es) (hl : es.length = to + 1 - fs) (B : VecB d fs es.length es v mb) (hT : RdS h d gt ft to w) :
  FnT Tryz.prog 112 #[.pointer (some ⟨gs, 0, none⟩), .int .i64 p, .int .i64 n, .pointer (some ⟨gt, 0, none⟩)] h [mb] (fun r h' ms' => h = h' ∧ ∃ mb', ms' = [mb'] ∧ VecB d fs es.length es (addv p n ft v w) mb') := by
 obtain ⟨wv, ws, hft, hS2, hE2, hl2, hW⟩ := hT
 have hA := Seg.all hS
 have hA2 := Seg.all hS2
 have c1 : ((es.length : Nat) : Int) = (to : Int) + 1 - fs := by omega
 have c2 : ((ws.length : Nat) : Int) = (to : Int) + 1 - ft := by omega
 refine fn_enter func112 ntmps112 rfl rfl (fun w0 hw0 => ?_)
 simp only [argS]
 refine RsQ (Qm rfl (RnQ (ws_block ?_)))
 refine ws_loop (fun q s hh ms' => ∃ (b : Nat) (m : Hp), q = 2000 - b ∧ s = [(0, .pointer (some ⟨gs, 0, none⟩)), (1, .int .i64 p), (2, .int .i64 n), (3, .pointer (some ⟨gt, 0, none⟩)), (8, .int .i64 ((b : Int) + 1))] ∧ h = hh ∧ ms' = [m] ∧ b ≤ es.length ∧ b ≤ ws.length ∧ VecB d fs es.length es (addb p n to b v w) m)
  (2000 - 0) _ ⟨0, mb, rfl, rfl, rfl, rfl, by omega, by omega, B.mono fun l hl x O => by rw [vec_congr (f := addb p n to 0 v w (fs + l)) (g := v (fs + l)) (fun i _ => if_neg (by omega))]; exact O⟩ Qs ?_
 rintro q s hh ms' ⟨b, m, rfl, rfl, rfl, rfl, hb1, hb2, B⟩
 refine ws_seq (ws_seq (ws_stab (n := 15) (bs := [true, true, true, true, true, true, true, true, true, true, true, true, true, true, true]) [true, true, true, true, true, true, true, true, true, true, true, true, true, true, true] fol (by kernel_rfl) (by kernel_rfl) rfl rfl (Qp rfl (ox_move rfl rfl) (Qp rfl (ox_move rfl rfl) (Qp rfl (ox_nilCheck rfl rfl) (Qp rfl (ox_fieldF fd110_0 rfl rfl) (Qp rfl (ox_fieldF fd64_2 rfl rfl) (Qp rfl (ox_load rfl underlying62 rfl rfl (hA 2 _ rfl _)) (Qp rfl (ox_lenR hE.rd.any rfl underlying62 rfl) (Qp rfl (ox_move rfl rfl) (Qp rfl (ox_nilCheck rfl rfl) (Qp rfl (ox_fieldF fd110_0 rfl rfl) (Qp rfl (ox_fieldF fd64_2 rfl rfl) (Qp rfl (ox_load rfl underlying62 rfl rfl (hA2 2 _ rfl _)) (Qp rfl (ox_lenR hE2.rd.any rfl underlying62 rfl) (Qp rfl (ox_min rfl rfl rfl) (Qp rfl (ox_leq rfl rfl rfl) ?_)))))))))))))))))
 unfold PZs
 simp only [List.cons_append, List.nil_append]
 refine Qe (nx_then ?_)
 refine ws_if rfl (fun hlt => ?_) (fun hlt => ?_)
 ·have hkk : to - b - fs < es.length := by omega
  have hkk2 : to - b - ft < ws.length := by omega
  have hbt : b ≤ to := by omega
  refine ws_skip (nx_then (ws_seq (ws_block (ws_seq (ws_stab (n := 32) (bs := [true, true, true, true, true, true, true, true, true, true, true, true, true, true, true, true, true, true, true, true, true, true, true, true, true, true, true, true, true, true, false, false]) [true, true, true, true, true, true, true, true, true, true, true, true, true, true, true, true, true, true, true, true, true, true, true, true, true, true, true, true, true, true] fol (by kernel_rfl) (by kernel_rfl) rfl rfl (Qp rfl (ox_move rfl rfl) (Qp rfl (ox_nilCheck rfl rfl) (Qp rfl (ox_fieldF fd110_0 rfl rfl) (Qp rfl (ox_fieldF fd64_2 rfl rfl) (Qp rfl (ox_load rfl underlying62 rfl rfl (hA 2 _ rfl _)) (Qp rfl (ox_move rfl rfl) (Qp rfl (ox_nilCheck rfl rfl) (Qp rfl (ox_fieldF fd110_0 rfl rfl) (Qp rfl (ox_fieldF fd64_2 rfl rfl) (Qp rfl (ox_load rfl underlying62 rfl rfl (hA 2 _ rfl _)) (Qp rfl (ox_lenR hE.rd.any rfl underlying62 rfl) (Qp rfl (ox_move rfl rfl) (Qp rfl (ox_sub rfl rfl rfl (by omega)) (Qp rfl (ox_indexR (to - b - fs) hE.rd.any rfl underlying62 el24 rfl rfl (by omega) (by omega)) (Qp rfl (ox_load rfl underlying24 rfl rfl (hE.any.cell0 hkk rfl)) (Qp rfl (ox_move rfl rfl) (Qp rfl (ox_nilCheck rfl rfl) (Qp rfl (ox_fieldF fd110_0 rfl rfl) (Qp rfl (ox_fieldF fd64_2 rfl rfl) (Qp rfl (ox_load rfl underlying62 rfl rfl (hA2 2 _ rfl _)) (Qp rfl (ox_move rfl rfl) (Qp rfl (ox_nilCheck rfl rfl) (Qp rfl (ox_fieldF fd110_0 rfl rfl) (Qp rfl (ox_fieldF fd64_2 rfl rfl) (Qp rfl (ox_load rfl underlying62 rfl rfl (hA2 2 _ rfl _)) (Qp rfl (ox_lenR hE2.rd.any rfl underlying62 rfl) (Qp rfl (ox_move rfl rfl) (Qp rfl (ox_sub rfl rfl rfl (by omega)) (Qp rfl (ox_indexR (to - b - ft) hE2.rd.any rfl underlying62 el24 rfl rfl (by omega) (by omega)) (Qp rfl (ox_load rfl underlying24 rfl rfl (hE2.any.cell0 hkk2 rfl)) ?_)))))))))))))))))))))))))))))))))))
  unfold PZs
  simp only [List.cons_append, List.nil_append]
  refine Qo 30 rfl (Qm rfl (Qw (Qo 31 rfl (Qm rfl (Qw (Qe ?_))))))
  obtain ⟨m1, m2, rfl, hdj, O, hoth, hclose⟩ := Bag.open B hkk
  rw [es_getD hkk, show fs + (to - b - fs) = to - b by omega] at O
  have hWk := hW (to - b - ft) hkk2
  rw [show ft + (to - b - ft) = to - b by omega] at hWk
  have hvk := hv (to - b) (by omega) (by omega)
  have hwk := hw (to - b) (by omega) (by omega)
  have hdk := hd (to - b)
  have O : OwnL cI 1 3 m1 es[to - b - fs] (vec (d (to - b)) (v (to - b))) := by
   rwa [vec_congr (f := addb p n to b v w (to - b)) (g := v (to - b)) (fun i _ => if_neg (by omega))] at O
  refine nx_then (ws_part hdj ?_)
  have ew := vec_len (d (to - b)) (w (to - b))
  have hRl : ∀ ms, m1 ∈ ms → Rd h ms es[to - b - fs] 1 (d (to - b)) ((vec (d (to - b)) (v (to - b))).flatMap cI) := fun ms hm => by
   have := (O.rd (h := h) hm).rd
   rwa [vec_len] at this
  refine RsQ (Qm rfl (Qx (ox_lenR (hRl _ (List.Mem.head _)) rfl underlying24 rfl) rfl (Qm rfl (RnQ (ws_block ?_)))))
  refine ws_loop (fun q s hh ms' => ∃ (i : Nat) (m1 : Hp), q = d (to - b) - i ∧ s = [(0, .pointer (some ⟨gs, 0, none⟩)), (1, .int .i64 p), (2, .int .i64 n), (3, .pointer (some ⟨gt, 0, none⟩)), (8, .int .i64 ((b : Int) + 1)), (9, es[to - b - fs]), (10, ws[to - b - ft]), (60, .int .i64 (d (to - b))), (61, .int .i64 i)] ∧ h = hh ∧ ms' = [m1, m2] ∧ i ≤ d (to - b) ∧ OwnL cI 1 3 m1 es[to - b - fs] (vec (d (to - b)) (addi p n i (v (to - b)) (w (to - b)))))
   (d (to - b) - 0) _ ⟨0, m1, rfl, rfl, rfl, rfl, by omega, by rw [vec_congr (f := addi p n 0 (v (to - b)) (w (to - b))) (g := v (to - b)) (fun i _ => if_neg (by omega))]; exact O⟩ Qs ?_
  rintro q s hh ms' ⟨i, m1, rfl, rfl, rfl, rfl, hi, O⟩
  have hRl : ∀ ms, m1 ∈ ms → Rd h ms es[to - b - fs] 1 (d (to - b)) ((vec (d (to - b)) (addi p n i (v (to - b)) (w (to - b)))).flatMap cI) := fun ms hm => by
   have := (O.rd (h := h) hm).rd
   rwa [vec_len] at this
  refine RsQ (Qx (ox_lss rfl rfl rfl) rfl (RnQ (ws_seq ?_)))
  refine ws_if rfl (fun hlti => ?_) (fun hlti => ?_)
  ·have hid : i < d (to - b) := by omega
   have hvi := hvk i hid
   have hwi := hwk i hid
   have hmb : 0 ≤ n * w (to - b) i ∧ n * w (to - b) i ≤ 997 * 997 := ⟨Int.mul_nonneg hn.1 hwi.1, Int.mul_le_mul hn.2 (by omega) hwi.1 (by omega)⟩
   have ew2 := vec_len (d (to - b)) (addi p n i (v (to - b)) (w (to - b)))
   have hcw : ∀ ms, Cell h ms ((vbase ws[to - b - ft]).add (i * 1)) (.int .i64 (w (to - b) i)) := fun ms => (hWk.any (ms := ms)).ev hid
   have hcv : ∀ ms, m1 ∈ ms → Cell h ms ((vbase es[to - b - fs]).add (i * 1)) (.int .i64 (v (to - b) i)) := fun ms hm => by
    have := (O.rd (h := h) hm).ev hid
    rwa [addi_at] at this
   refine ws_skip (nx_then (ws_seq (ws_block (RsQ (Qm rfl (Qm rfl (RnQ (ws_stab (n := 17) (bs := [true, true, true, true, true, false, true, true, true, true, true, true, false, true, false, true, false]) [true, true, true, true, true, false, true, true, true, true, true, true, false, true, false, true] fol (by kernel_rfl) (by kernel_rfl) rfl rfl (Qp rfl (ox_move rfl rfl) (Qp rfl (ox_move rfl rfl) (Qp rfl (ox_move rfl rfl) (Qp rfl (ox_move rfl rfl) (Qp rfl (ox_indexS (i) (hRl [m1] (List.Mem.head _)) rfl underlying24 el3 rfl rfl (by omega) (by omega)) (Qp rfl (ox_move rfl rfl) (Qp rfl (ox_move rfl rfl) (Qp rfl (ox_move rfl rfl) (Qp rfl (ox_indexR (i) hWk.rd.any rfl underlying24 el3 rfl rfl (by omega) (by omega)) (Qp rfl (ox_load rfl underlying3 rfl rfl (hcw _)) (Qp rfl (ox_mul rfl rfl rfl (by omega)) (Qp rfl (ox_move rfl rfl) (Qp rfl (ox_indexS (i) (hRl [m1] (List.Mem.head _)) rfl underlying24 el3 rfl rfl (by omega) (by omega)) ?_)))))))))))))))))))))
   unfold PZs
   simp only [List.cons_append, List.nil_append]
   refine Qo 5 rfl (Qx (ox_load rfl underlying3 rfl rfl (hcv _ (List.Mem.head _))) rfl (Qw (Qo 12 rfl (Qx (ox_add rfl rfl rfl (by omega)) rfl (Qw (Qo 14 rfl (Qx (ox_remP rfl rfl rfl (by omega) (by omega)) rfl (Qw (Qo 16 rfl (wl_storeN 0 i O rfl el3 rfl rfl rfl (by omega) rfl rfl (fun m' hO' => Qw (Qe (nx_block (nx_then (ws_region (Qx (ox_add rfl rfl rfl (by omega)) rfl (Qm rfl (wl_nil ?_))))))))))))))))))
   refine nx_round (d (to - b) - (i + 1)) _ (by omega) ⟨i + 1, m', rfl, rfl, rfl, rfl, by omega, ?_⟩ Qs
   rw [vec_set, vec_congr (fun a _ => addi_step p n i (v (to - b)) (w (to - b)) a)] at hO'
   exact hO'
  ·obtain rfl : i = d (to - b) := by omega
   refine ws_exit (nx_then_exit (nx_then_exit (nx_block_exit (nx_block (nx_then (ws_region (Qm rfl (Qx (ox_add rfl rfl rfl (by omega)) rfl (Qm rfl (wl_nil (nx_apart fun hap => ?_)))))))))))
   have hd12 : m1.disj m2 := (List.pairwise_cons.1 hap).1 _ (List.mem_singleton.2 rfl)
   refine nx_join ?_
   refine nx_round (2000 - (b + 1)) _ (by omega) ⟨b + 1, m1.join m2, rfl, rfl, rfl, rfl, by omega, by omega, ?_⟩ Qs
   refine hclose _ m1 hd12 ?_ fun k hk hne x O => ?_
   ·rw [es_getD hkk, show fs + (to - b - fs) = to - b by omega, vec_congr (f := addb p n to (b + 1) v w (to - b)) (g := addi p n (d (to - b)) (v (to - b)) (w (to - b))) (fun a ha => ?_)]
    ·exact O
    ·unfold addb addi
     rw [if_pos (by omega), if_pos ha]
   ·rw [vec_congr (f := addb p n to (b + 1) v w (fs + k)) (g := addb p n to b v w (fs + k)) (fun a _ => ?_)]
    ·exact O
    ·unfold addb
     by_cases h3 : to < fs + k + b
     ·rw [if_pos h3, if_pos (by omega)]
     ·rw [if_neg h3, if_neg (by omega)]
 ·refine ws_exit (nx_then_exit (nx_then_exit (nx_block_exit ?_)))
  have hfin : ∀ l a, l < es.length → addv p n ft v w (fs + l) a = addb p n to b v w (fs + l) a := fun l a hl => by
   unfold addv addb
   by_cases h3 : ft ≤ fs + l
   ·rw [if_pos h3, if_pos (by omega)]
   ·rw [if_neg h3, if_neg (by omega)]
  exact nx_end0 rfl (⟨rfl, m, rfl, B.mono fun l hl x O => by rw [vec_congr (f := addv p n ft v w (fs + l)) (g := addb p n to b v w (fs + l)) (fun a _ => hfin l a hl)]; exact O⟩)
end Go.Proofs.YtdnelknieikbaaaGreat
namespace Go.Proofs.YtdnelknieikbaaaGreat
open Tryz
open Go.Eng Go.RowKit Go.Lin
variable {n d k : Nat} {w : Nat → Nat → Int} {v : Value}
def BagV (d n : Nat) (es : List Value) (w : Nat → Nat → Int) (m : Hp) : Prop := es.length = n ∧ Bag n (fun k x => OwnL cI 1 3 x (es.getD k undef) (vec d (w k))) m
theorem BagV.zero (d : Nat) (w : Nat → Nat → Int) : BagV d 0 [] w Hp.emp := ⟨rfl, Bag.zero _⟩
theorem BagV.snoc {es : List Value} {w' : Nat → Nat → Int} {m x : Hp} (B : BagV d n es w m) (O : OwnL cI 1 3 x v (vec d (w' n))) (hd : m.disj x) (hw : ∀ k, k < n → ∀ i, i < d → w' k i = w k i) : BagV d (n + 1) (es ++ [v]) w' (m.join x) := by
 obtain ⟨h1, B⟩ := B
 refine ⟨by rw [List.length_append, h1]; rfl, Bag.snoc (B.mono fun l hl x O => ?_) ?_ hd⟩
 ·have : (es ++ [v]).getD l undef = es.getD l undef := by simp [List.getD, List.getElem?_append_left (show l < es.length by omega)]
  rw [this, vec_congr (hw l hl)]; exact O
 ·have : (es ++ [v]).getD n undef = v := by simp [List.getD, ← h1]
  rw [this]; exact O
theorem BagV.rd {es : List Value} {m h : Hp} {vv : Value} (B : BagV d n es w m) (hR : RdL cV 1 h [] vv es) (hl : m.le h) : RdV h vv n d w := by
 obtain ⟨h1, B⟩ := B
 refine ⟨es, h1, hR, fun j hj => ?_⟩
 obtain ⟨x, hx, O⟩ := Bag.all B j (by omega)
 rw [es_getD hj] at O
 exact O.rdh (Hp.le_trans hx hl)
theorem RdV.rdn {h : Hp} (R : RdV h v n d w) : ∃ vs : List Value, vs.length = n ∧ Rd h [] v 1 n (vs.flatMap cV) := by
 obtain ⟨vs, h1, h2, _⟩ := R
 refine ⟨vs, h1, ?_⟩
 have := h2.rd
 rwa [h1] at this
theorem one_of (h : v.oneCell' = true) : ∀ a ∈ [v], ∀ c ∈ cV a, c.oneCell' = true := fun a ha c hc => by
 rw [List.mem_singleton.1 ha] at hc
 simp [cV] at hc
 subst hc; exact h
theorem perm3 {α : Type} (a b c : α) : [a, b, c].Perm [c, a, b] := List.Perm.trans (List.Perm.cons a (List.Perm.swap c b [])) (List.Perm.swap c a [b])
def from_ (n : Nat) (pv : List Nat) : List Nat := pv.filter fun j => decide (n ≤ j)
theorem from_yes {pv : List Nat} (hk : k < pv.length) (h : n ≤ pv.getD k 0) : from_ n (pv.take (k + 1)) = from_ n (pv.take k) ++ [pv.getD k 0] := by
 unfold from_
 rw [take_succ_filter _ _ _ hk]
 have e := pv_getD hk
 rw [e] at h
 rw [if_pos (by simp; exact h), e]
theorem from_no {pv : List Nat} (hk : k < pv.length) (h : ¬ n ≤ pv.getD k 0) : from_ n (pv.take (k + 1)) = from_ n (pv.take k) := by
 unfold from_
 rw [take_succ_filter _ _ _ hk]
 have e := pv_getD hk
 rw [e] at h
 rw [if_neg (by simp; omega), List.append_nil]
theorem getD_snoc {l : List Nat} {x : Nat} (hk : k < l.length) : (l ++ [x]).getD k 0 = l.getD k 0 := by simp [List.getD, List.getElem?_append_left hk]
theorem getD_snoc_self {l : List Nat} {x : Nat} : (l ++ [x]).getD l.length 0 = x := by simp [List.getD]
theorem basis_ok (p : Int) (d n : Nat) (w : Nat → Nat → Int) (vl : Value) (h : Hp) (R : RtM p d n fun i j => w j i) (hnd : n + d ≤ 400) (hR : RdV h vl n d w) :
  FnT Tryz.prog 116 #[.int .i64 p, .int .i64 d, vl] h [] (fun x h' ms' => h.le h' ∧ ∃ (F : Nat → Nat → Int) (pv : List Nat) (ma mb : Hp) (es : List Value), Ech p d (n + d) (jn n (fun i j => w j i) eye) F pv ∧ ms' = [ma, mb] ∧ OwnL cV 1 24 ma x es ∧ BagV d (from_ n pv).length es (fun t i => jn n (fun i j => w j i) eye i ((from_ n pv).getD t 0)) mb) := by
 have hb := R.bd
 have rl := R.rl
 have cl := R.cl
 obtain ⟨vs0, hvs0, hRn⟩ := RdV.rdn hR
 have o1 := hRn.one
 refine fn_enter func116 ntmps116 rfl rfl (fun w0 hw0 => ?_)
 simp only [argS]
 refine RsQ (Qm rfl (RtQ (Qm rfl (Qm rfl (Qm rfl (wl_call rfl call97 rfl (columns_ok p d n w vl h R.i64 rl cl hR) rfl rfl rfl (fun x h1 ms1 l1 hF => ?_)))))))
 obtain ⟨rfl, ec, mc, rfl, rfl, hOc⟩ := hF
 refine wl_freezeL hOc fun h1 l1 hRc => (Qm rfl (Qm rfl (wl_call rfl call87 rfl (one_ok p d h1 R.pr rl) rfl rfl rfl (fun x h2 ms2 l2 hF => ?_))))
 obtain ⟨rfl, eo, mo, rfl, rfl, hOo⟩ := hF
 refine wl_freezeL hOo fun h2 l2 hRo => ?_
 have hRc := hRc.up l2
 refine wl_call rfl call138 rfl (joinf_ok p d n d (fun i j => w j i) eye ec eo h2 R (eye_rt R.pr rl) hnd hRc hRo) rfl rfl rfl (fun x h3 ms3 l3 hF => ?_)
 obtain ⟨l3, v3, rfl, ej, mj, rfl, rfl, hOj⟩ := hF
 have RJ : RtM p d (n + d) (jn n (fun i j => w j i) eye) := ⟨R.pr, rl, by omega, fun i hi j hj => by
  unfold jn
  split
  ·rename_i hjn; exact R.en i hi j hjn
  ·exact (eye_rt R.pr rl).en i hi (j - n) (by omega)⟩
 refine wl_freezeL hOj fun h4 l4 hRj => ?_
 have oj := hRj.rd.one
 refine Qm rfl (Qx (ox_extract rfl rfl rfl) rfl (Qx (ox_extract rfl rfl rfl) rfl (AlQ [.int .i64 0, .int .i64 0, .int .i64 0, .slice none 0 0] rfl el42 rfl rfl (fun g7 => ?_))))
 refine wl_storeAll 0 [_, _, _, _] rfl el42 rfl rfl rfl (by (simp [oj]; done)) rfl rfl rfl rfl rfl ?_
 refine Qm rfl (RnQ (ws_freezeBi 0 rfl fun h5 l5 hS => ?_))
 have hRj := hRj.up l5
 refine RsQ (Qx (ox_loadG rfl underlying42 rfl el42 rfl rfl (Seg.any hS)) rfl (wl_call rfl call120 rfl (echelon_ok p d (n + d) (jn n (fun i j => w j i) eye) ej h5 RJ hRj) rfl rfl rfl (fun x h6 ms6 l6 hF => ?_)))
 obtain ⟨l6, F, pv, eu, vp, m, m2, rfl, rfl, hOe, hOp, hE⟩ := hF
 have oe : eu.oneCell' = true := (hOe.rd (h := h) (ms := [m]) (List.Mem.head _)).rd.one
 have op : vp.oneCell' = true := (hOp.rd (h := h) (ms := [m2]) (List.Mem.head _)).rd.one
 have hRj := hRj.up l6
 have hS := hS.le l6
 have hlh : h.le h6 := Hp.le_trans l1 (Hp.le_trans l2 (Hp.le_trans l3 (Hp.le_trans l4 (Hp.le_trans l5 l6))))
 have hRn := hRn.le hlh
 have hlen := hE.red.len
 refine Qm rfl (Qx (ox_extract rfl rfl rfl) rfl (Qx (ox_extract rfl rfl rfl) rfl (AlQ [.int .i64 0, .int .i64 0, .int .i64 0, .slice none 0 0] rfl el42 rfl rfl (fun g9 => ?_))))
 refine wl_storeAll 0 [_, _, _, _] rfl el42 rfl rfl rfl (by (simp [oe]; done)) rfl rfl rfl rfl rfl ?_
 refine Qm rfl (RnQ (ws_dropAt 0 rfl (ws_dropAt 0 rfl (ws_freezeL hOp fun h7 l7 hRp => ?_))))
 have hRj := hRj.up l7
 have hS := hS.le l7
 have hRn := hRn.le l7
 have hlh := Hp.le_trans hlh l7
 have hRpn : Rd h7 [] vp 1 pv.length ((pvI pv).flatMap cI) := by
  have := hRp.rd
  rwa [pvI_len] at this
 refine RsQ (Qm rfl (RnQ (ws_seq (RsQ (Qm rfl (Qx (ox_lenR hRpn.any rfl underlying24 rfl) rfl (Qm rfl (RnQ (ws_block (ws_emp (ws_emp ?_)))))))))))
 refine ws_loop (fun q s hh ms' => ∃ (k : Nat) (es : List Value) (vv : Value) (ma mb : Hp), q = pv.length - k ∧ s = [(2, vl), (7, .pointer (some ⟨g7, 0, none⟩)), (11, vv), (30, vp), (31, .int .i64 pv.length), (32, .int .i64 k)] ∧ h7 = hh ∧ ms' = [ma, mb] ∧ k ≤ pv.length ∧ OwnL cV 1 24 ma vv es ∧ BagV d (from_ n (pv.take k)).length es (fun t i => jn n (fun i j => w j i) eye i ((from_ n (pv.take k)).getD t 0)) mb)
  (pv.length - 0) _ ⟨0, [], _, _, _, rfl, rfl, rfl, rfl, by omega, OwnL.nil cV_len, BagV.zero _ _⟩ Qs ?_
 rintro q s hh ms' ⟨k, es, vv, ma, mb, rfl, rfl, rfl, rfl, hk, hO, hB⟩
 refine RsQ (Qx (ox_lss rfl rfl rfl) rfl (RnQ (ws_seq ?_)))
 refine ws_if rfl (fun hlt => ?_) (fun hlt => ?_)
 ·have hkl : k < pv.length := by omega
  have hpc : pv.getD k 0 < n + d := by rw [pv_getD hkl]; exact hE.red.lt k hkl
  have hpcell : ∀ ms, Cell h7 ms ((vbase vp).add (k * 1)) (.int .i64 ((pv.getD k 0 : Nat) : Int)) := fun ms => by
   have hl : k < (pvI pv).length := by rw [pvI_len]; exact hkl
   have := (hRp.any (ms := ms)).cell0 hl (u := .int .i64 (pvI pv)[k]) rfl
   have e : (pvI pv)[k] = ((pv.getD k 0 : Nat) : Int) := by simp [pvI, List.getD_eq_getElem?_getD, hkl]
   rw [e] at this
   exact this
  refine ws_skip (nx_then (ws_seq (ws_block (RsQ (Qx (ox_indexR _ hRpn.any rfl underlying24 el3 rfl rfl rfl (by omega)) rfl (Qx (ox_load rfl underlying3 rfl rfl (hpcell _)) rfl (Qm rfl (RtQ (Qm rfl (Qm rfl (Qx (ox_lenR hRn.any rfl underlying62 rfl) rfl (Qx (ox_geq rfl rfl rfl) rfl (RnQ ?_)))))))))))))
  refine ws_if rfl (fun hge => ?_) (fun hge => ?_)
  ·have hge' : n ≤ pv.getD k 0 := by omega
   refine ws_region (Qm rfl (Qx (ox_loadG rfl underlying42 rfl el42 rfl rfl (Seg.any hS)) rfl (Qm rfl (wl_call rfl call89 rfl (column_ok p d (n + d) (jn n (fun i j => w j i) eye) ej (pv.getD k 0) h7 rl (by omega) hpc hRj) rfl rfl rfl (fun v h8 ms8 l8 hF => ?_)))))
   obtain ⟨rfl, mv, rfl, hOv⟩ := hF
   have ov : v.oneCell' = true := (hOv.rd (h := h) (ms := [mv]) (List.Mem.head _)).rd.one
   refine wl_buildSlice1 [_] rfl underlying62 el24 rfl (((hOv.rd (h := h) (ms := [mv]) (List.Mem.head _)).rd).cells) rfl rfl (by omega) rfl rfl rfl (fun g44 => ?_)
   have hes : es.length ≤ 400 := by
    have h1 := hB.1
    have h2 : (from_ n (pv.take k)).length ≤ (pv.take k).length := List.length_filter_le _ _
    rw [List.length_take] at h2
    omega
   refine wl_appendV 2 hO (RdL.one cV_len (List.Mem.head _) rfl) rfl underlying62 el24 rfl (by omega) rfl rfl rfl (one_of ov) (by simp only [List.length_singleton]; omega) (by simp only [List.length_singleton]; omega) rfl rfl rfl (fun vv' ma' hO' => ?_)
   refine Qm rfl (wl_nil (nx_block (nx_then (ws_region (Qx (ox_add rfl rfl rfl (by omega)) rfl (Qm rfl (wl_nil (nx_dropAt 0 rfl (nx_perm (ms' := [mb, mv, ma']) (perm3 _ _ _) (nx_apart fun hap => ?_))))))))))
   have hd12 : mb.disj mv := (List.pairwise_cons.1 hap).1 _ List.mem_cons_self
   refine nx_join (nx_swap ?_)
   refine nx_round (pv.length - (k + 1)) _ (by omega) ⟨k + 1, es ++ [v], vv', ma', mb.join mv, rfl, rfl, rfl, rfl, by omega, hO', ?_⟩ Qs
   rw [from_yes hkl hge', List.length_append, List.length_singleton]
   refine hB.snoc (w' := fun t i => jn n (fun i j => w j i) eye i ((from_ n (pv.take k) ++ [pv.getD k 0]).getD t 0)) ?_ hd12 fun t ht i _ => ?_
   ·show OwnL cI 1 3 mv v (vec d fun i => jn n (fun i j => w j i) eye i ((from_ n (pv.take k) ++ [pv.getD k 0]).getD (from_ n (pv.take k)).length 0))
    rw [getD_snoc_self]
    exact hOv
   ·show jn n (fun i j => w j i) eye i ((from_ n (pv.take k) ++ [pv.getD k 0]).getD t 0) = _
    rw [getD_snoc ht]
  ·refine ws_skip (nx_block (nx_then (ws_region (Qx (ox_add rfl rfl rfl (by omega)) rfl (Qm rfl (wl_nil ?_))))))
   refine nx_round (pv.length - (k + 1)) _ (by omega) ⟨k + 1, es, vv, ma, mb, rfl, rfl, rfl, rfl, by omega, hO, by rw [from_no hkl (by omega)]; exact hB⟩ Qs
 ·obtain rfl : k = pv.length := by omega
  rw [List.take_length] at hB
  refine ws_exit (nx_then_exit (nx_then_exit (nx_block_exit (nx_then (RsQ (Qm rfl (Qm rfl (RnQ (ws_ret ?_)))))))))
  exact nx_ret1 rfl rfl (⟨hlh, F, pv, ma, mb, es, hE, rfl, hO, hB⟩)
end Go.Proofs.YtdnelknieikbaaaGreat
namespace Go.Proofs.YtdnelknieikbaaaGreat
open Tryz
open Go.Eng Go.RowKit Go.Lin
theorem StO.mk {d : Nat → Nat} {g fr to : Nat} {v : Nat → Nat → Int} {vv : Value} {es : List Value} {ma mb : Hp} (h0 : fr ≤ to) (hO : OwnL cV 1 24 ma vv es) (hl : es.length = to + 1 - fr) (B : VecB d fr es.length es v mb) (h1 : (Blk g 110 [.int .i64 fr, .int .i64 to, vv]).disj ma) (h1' : (Blk g 110 [.int .i64 fr, .int .i64 to, vv]).disj mb) (h2 : ma.disj mb) : StO d g fr to v ((Blk g 110 [.int .i64 fr, .int .i64 to, vv]).join (ma.join mb)) :=
 ⟨vv, es, ma, mb, h0, rfl, Hp.disj_symm (Hp.disj_join (Hp.disj_symm h1) (Hp.disj_symm h1')), h2, hO, hl, B⟩
theorem Bag.single {R : Nat → Hp → Prop} {m : Hp} (h : R 0 m) : Bag 1 R m := by
 have := (Bag.zero R).snoc h (fun g => .inl rfl)
 rwa [Hp.emp_join] at this
theorem pw3 {a b c : Hp} (h : [a, b, c].Pairwise Hp.disj) : (a.disj b ∧ a.disj c) ∧ b.disj c ∧ True := by
 have h1 := List.pairwise_cons.1 h
 have h2 := List.pairwise_cons.1 h1.2
 exact ⟨⟨h1.1 _ (by simp), h1.1 _ (by simp)⟩, h2.1 _ (by simp), trivial⟩
theorem perm3' {α : Type} (a b c : α) : [a, b, c].Perm [b, c, a] := List.Perm.trans (List.Perm.swap b a [c]) (List.Perm.cons b (List.Perm.swap c a []))
theorem perm4 {α : Type} (a b c d : α) : [a, b, c, d].Perm [c, a, b, d] := by
 have := (perm3 a b c).append_right [d]
 exact this
theorem grow_bag {d : Nat → Nat} {fr to : Nat} {v : Nat → Nat → Int} {w : Nat → Int} {es : List Value} {mb mu : Hp} {u' : Value} (h0 : fr ≤ to) (hl : es.length = to + 1 - fr) (B : VecB d fr es.length es v mb) (hOu : OwnL cI 1 3 mu u' (vec (d (to + 1)) w)) (hd12 : mb.disj mu) : VecB d fr (es ++ [u']).length (es ++ [u']) (fun k => if k = to + 1 then w else v k) (mb.join mu) := by
 have e : (es ++ [u']).length = es.length + 1 := by simp
 rw [e]
 refine Bag.snoc (B.mono fun l hl2 x O => ?_) ?_ hd12
 ·have : (es ++ [u']).getD l undef = es.getD l undef := by simp [List.getD, List.getElem?_append_left hl2]
  rw [this]
  show OwnL cI 1 3 x _ (vec (d (fr + l)) (if fr + l = to + 1 then w else v (fr + l)))
  rw [if_neg (by omega)]; exact O
 ·have : (es ++ [u']).getD es.length undef = u' := by simp [List.getD]
  rw [this]
  show OwnL cI 1 3 mu _ (vec (d (fr + es.length)) (if fr + es.length = to + 1 then w else v (fr + es.length)))
  rw [if_pos (by omega), show fr + es.length = to + 1 by omega]; exact hOu
theorem born_ok (d : Nat → Nat) (gm sp : Nat) (w : Nat → Int) (v a0 a2 a3 : Value) (h : Hp) (hM : Seg h [] ⟨gm, 0, none⟩ [a0, .int .i64 sp, a2, a3]) (hR : RdL cI 1 h [] v (vec (d sp) w)) (hd : d sp ≤ 400) :
  FnT Tryz.prog 88 #[.pointer (some ⟨gm, 0, none⟩), v] h [] (fun x h' ms' => h = h' ∧ ∃ g m, x = .pointer (some ⟨g, 0, none⟩) ∧ ms' = [m] ∧ StO d g sp sp (fun _ => w) m) := by
 have hA := Seg.all hM
 have ew := vec_len (d sp) w
 refine fn_enter func88 ntmps88 rfl rfl (fun w0 hw0 => ?_)
 simp only [argS]
 refine RsQ (Qm rfl (RnQ (ws_seq (ws_stab (n := 15) (bs := [true, true, true, true, true, true, true, true, true, false, false, false, false, false, false]) [true, true, true, true, true, true, true, true, true] fol (by kernel_rfl) (by kernel_rfl) rfl rfl (Qp rfl (ox_move rfl rfl) (Qp rfl (ox_nilCheck rfl rfl) (Qp rfl (ox_fieldF fd132_1 rfl rfl) (Qp rfl (ox_load rfl underlying3 rfl rfl (hA 1 _ rfl _)) (Qp rfl (ox_move rfl rfl) (Qp rfl (ox_nilCheck rfl rfl) (Qp rfl (ox_fieldF fd132_1 rfl rfl) (Qp rfl (ox_load rfl underlying3 rfl rfl (hA 1 _ rfl _)) (Qp rfl (ox_move rfl rfl) ?_)))))))))))))
 unfold PZs
 simp only [List.cons_append, List.nil_append]
 refine Qo 9 rfl (wl_call rfl call51 rfl (clone_ok (vec (d sp) w) v h hR (by omega)) rfl rfl rfl (fun u h1 ms1 l1 hF => ?_))
 obtain ⟨rfl, mu, rfl, hO⟩ := hF
 have ou : u.oneCell' = true := (hO.rd (h := h) (ms := [mu]) (List.Mem.head _)).rd.one
 refine Qw (Qo 10 rfl (wl_buildSlice1 [_] rfl underlying62 el24 rfl ((hO.rd (h := h) (ms := [mu]) (List.Mem.head _)).rd.cells) rfl rfl (by omega) rfl rfl rfl (fun g15 => Qw (Qo 11 rfl ?_))))
 refine Qx (ox_buildS st64 [.int .i64 0, .int .i64 0, .slice none 0 0] [(0, _), (1, _), (2, _)] [_, _, _] rfl el64 rfl rfl (by repeat (first | exact trivial | refine ⟨⟨rfl, rfl, rfl⟩, ?_⟩)) rfl) rfl ?_
 refine Qw (Qo 12 rfl ?_)
 refine Qx (ox_buildS st110 [.int .i64 0, .int .i64 0, .slice none 0 0] [(0, _)] [_, _, _] rfl el110 rfl rfl (by repeat (first | exact trivial | refine ⟨⟨rfl, rfl, rfl⟩, ?_⟩)) rfl) rfl ?_
 refine Qw (Qo 13 rfl (wl_box [.int .i64 sp, .int .i64 sp, .slice (some ⟨g15, 0, none⟩) 1 1] rfl rfl rfl rfl rfl rfl (fun g18 => Qw (Qo 14 rfl (Qm rfl (Qw (Qe (nx_then (ws_ret (nx_apart fun hap => ?_))))))))))
 obtain ⟨hp1, hp2, _⟩ := pw3 hap
 refine nx_perm (ms' := [Blk g15 24 [u], mu, Blk g18 110 [.int .i64 sp, .int .i64 sp, .slice (some ⟨g15, 0, none⟩) 1 1]]) (perm3' _ _ _) (nx_join (nx_swap (nx_join ?_)))
 exact nx_ret1 rfl rfl (⟨rfl, g18, _, rfl, rfl, StO.mk (Nat.le_refl _) (OwnL.blk (l := [u]) 1 cV_len rfl (by omega)) (by simp) (Bag.single (by simpa using hO)) hp1.1 hp1.2 hp2⟩)
theorem grow_ok (d : Nat → Nat) (g fr to : Nat) (v : Nat → Nat → Int) (w : Nat → Int) (u : Value) (m h : Hp) (S : StO d g fr to v m) (hR : RdL cI 1 h [] u (vec (d (to + 1)) w)) (hd : d (to + 1) ≤ 400) (hto : to ≤ 1000) :
  FnT Tryz.prog 113 #[.pointer (some ⟨g, 0, none⟩), u] h [m] (fun x h' ms' => h = h' ∧ ∃ m', ms' = [m'] ∧ StO d g fr (to + 1) (fun k => if k = to + 1 then w else v k) m') := by
 obtain ⟨vv, es, ma, mb, h0, rfl, hd1, hd2, hO, hl, B⟩ := S
 have ew := vec_len (d (to + 1)) w
 refine fn_enter func113 ntmps113 rfl rfl (fun w0 hw0 => ?_)
 simp only [argS]
 refine ws_part hd1 (ws_swap (ws_part hd2 ?_))
 refine ws_cut (fun s hh ms' => ∃ (vv' : Value) (es' : List Value) (ma' mb' : Hp), s = [(0, .pointer (some ⟨g, 0, none⟩))] ∧ h = hh ∧ ms' = [ma', mb', Blk g 110 [.int .i64 fr, .int .i64 to, vv']] ∧ OwnL cV 1 24 ma' vv' es' ∧ es'.length = to + 1 + 1 - fr ∧ VecB d fr es'.length es' (fun k => if k = to + 1 then w else v k) mb') ?_ (fun s h ms hI => ?_)
 ·refine ws_stab (n := 14) (bs := [true, true, true, true, true, false, true, false, false, false, true, true, true, false]) [true, true, true, true, true, false, true, false, false, false, true, true, true] fol (by kernel_rfl) (by kernel_rfl) rfl rfl (Qp rfl (ox_move rfl rfl) (Qp rfl (ox_move rfl rfl) (Qp rfl (ox_nilCheck rfl rfl) (Qp rfl (ox_fieldF fd110_0 rfl rfl) (Qp rfl (ox_fieldF fd64_2 rfl rfl) (Qp rfl (ox_move rfl rfl) (Qp rfl (ox_nilCheck rfl rfl) (Qp rfl (ox_fieldF fd110_0 rfl rfl) (Qp rfl (ox_fieldF fd64_2 rfl rfl) ?_)))))))))
  unfold PZs
  simp only [List.cons_append, List.nil_append]
  refine wb_step [5, 7] (by kernel_rfl) rfl ?_
  refine wbl_cons rfl ?_ ?_
  ·refine Qx (ox_load rfl underlying62 rfl rfl (Cell.blk 2 (k := 2) rfl rfl)) rfl (Qw (Qo 7 rfl (wl_call rfl call51 rfl (clone_ok (vec (d (to + 1)) w) u h hR (by omega)) rfl rfl rfl (fun u' h1 ms1 l1 hF => ?_))))
   obtain ⟨rfl, mu, rfl, hOu⟩ := hF
   have ou : u'.oneCell' = true := (hOu.rd (h := h) (ms := [mu]) (List.Mem.head _)).rd.one
   refine Qw (Qo 8 rfl (wl_buildSlice1 [_] rfl underlying62 el24 rfl ((hOu.rd (h := h) (ms := [mu]) (List.Mem.head _)).rd.cells) rfl rfl (by omega) rfl rfl rfl (fun g12 => Qw (Qo 9 rfl ?_))))
   refine wl_appendV 2 hO (RdL.one cV_len (List.Mem.head _) rfl) rfl underlying62 el24 rfl (by omega) rfl rfl rfl (one_of ou) (by simp only [List.length_singleton]; omega) (by simp only [List.length_singleton]; omega) rfl rfl rfl (fun vv' ma' hO' => ?_)
   have ov : vv'.oneCell' = true := (hO'.rd (h := h) (ms := [ma']) (List.Mem.head _)).rd.one
   refine Qw (Qo 13 rfl ?_)
   refine wl_storeAt 4 _ rfl el62 rfl rfl (by assumption) rfl rfl (by (simp; done)) rfl rfl ?_
   refine Qw (Qe (nx_dropAt 0 rfl (nx_perm (ms' := [mb, mu, ma', Blk g 110 [.int .i64 fr, .int .i64 to, vv']]) (perm4 _ _ _ _) (nx_apart fun hap => ?_))))
   have hd12 : mb.disj mu := (List.pairwise_cons.1 hap).1 _ List.mem_cons_self
   refine nx_join (nx_swap (nx_meet _ ⟨vv', es ++ [u'], ma', mb.join mu, rfl, rfl, rfl, hO', by rw [List.length_append, List.length_singleton]; omega, grow_bag h0 hl B hOu hd12⟩ Qs))
  refine wbl_cons rfl ?_ ?_
  ·refine wl_call rfl call51 rfl (clone_ok (vec (d (to + 1)) w) u h hR (by omega)) rfl rfl rfl (fun u' h1 ms1 l1 hF => ?_)
   obtain ⟨rfl, mu, rfl, hOu⟩ := hF
   have ou : u'.oneCell' = true := (hOu.rd (h := h) (ms := [mu]) (List.Mem.head _)).rd.one
   refine Qw (wb_step [5, 8] (by kernel_rfl) rfl ?_)
   refine wbl_cons rfl ?_ ?_
   ·refine Qx (ox_load rfl underlying62 rfl rfl (Cell.blk 3 (k := 2) rfl rfl)) rfl (Qw (Qo 8 rfl (wl_buildSlice1 [_] rfl underlying62 el24 rfl ((hOu.rd (h := h) (ms := [mu]) (List.Mem.head _)).rd.cells) rfl rfl (by omega) rfl rfl rfl (fun g12 => Qw (Qo 9 rfl ?_)))))
    refine wl_appendV 2 hO (RdL.one cV_len (List.Mem.head _) rfl) rfl underlying62 el24 rfl (by omega) rfl rfl rfl (one_of ou) (by simp only [List.length_singleton]; omega) (by simp only [List.length_singleton]; omega) rfl rfl rfl (fun vv' ma' hO' => ?_)
    have ov : vv'.oneCell' = true := (hO'.rd (h := h) (ms := [ma']) (List.Mem.head _)).rd.one
    refine Qw (Qo 13 rfl ?_)
    refine wl_storeAt 4 _ rfl el62 rfl rfl (by assumption) rfl rfl (by (simp; done)) rfl rfl ?_
    refine Qw (Qe (nx_dropAt 0 rfl (nx_perm (ms' := [mb, mu, ma', Blk g 110 [.int .i64 fr, .int .i64 to, vv']]) (perm4 _ _ _ _) (nx_apart fun hap => ?_))))
    have hd12 : mb.disj mu := (List.pairwise_cons.1 hap).1 _ List.mem_cons_self
    refine nx_join (nx_swap (nx_meet _ ⟨vv', es ++ [u'], ma', mb.join mu, rfl, rfl, rfl, hO', by rw [List.length_append, List.length_singleton]; omega, grow_bag h0 hl B hOu hd12⟩ Qs))
   refine wbl_cons rfl ?_ ?_
   ·refine wl_buildSlice1 [_] rfl underlying62 el24 rfl ((hOu.rd (h := h) (ms := [mu]) (List.Mem.head _)).rd.cells) rfl rfl (by omega) rfl rfl rfl (fun g12 => Qw (Qo 5 rfl (Qx (ox_load rfl underlying62 rfl rfl (Cell.blk 4 (k := 2) rfl rfl)) rfl (Qw (Qo 9 rfl ?_)))))
    refine wl_appendV 2 hO (RdL.one cV_len (List.Mem.head _) rfl) rfl underlying62 el24 rfl (by omega) rfl rfl rfl (one_of ou) (by simp only [List.length_singleton]; omega) (by simp only [List.length_singleton]; omega) rfl rfl rfl (fun vv' ma' hO' => ?_)
    have ov : vv'.oneCell' = true := (hO'.rd (h := h) (ms := [ma']) (List.Mem.head _)).rd.one
    refine Qw (Qo 13 rfl ?_)
    refine wl_storeAt 4 _ rfl el62 rfl rfl (by assumption) rfl rfl (by (simp; done)) rfl rfl ?_
    refine Qw (Qe (nx_dropAt 0 rfl (nx_perm (ms' := [mb, mu, ma', Blk g 110 [.int .i64 fr, .int .i64 to, vv']]) (perm4 _ _ _ _) (nx_apart fun hap => ?_))))
    have hd12 : mb.disj mu := (List.pairwise_cons.1 hap).1 _ List.mem_cons_self
    refine nx_join (nx_swap (nx_meet _ ⟨vv', es ++ [u'], ma', mb.join mu, rfl, rfl, rfl, hO', by rw [List.length_append, List.length_singleton]; omega, grow_bag h0 hl B hOu hd12⟩ Qs))
   exact wbl_nil
  exact wbl_nil
 ·obtain ⟨vv', es', ma', mb', rfl, rfl, rfl, hO', hl', B'⟩ := hI
  refine ws_region (Qm rfl (Qx (ox_nilCheck rfl rfl) rfl (Qx (ox_fieldF fd110_0 rfl rfl) rfl (Qx (ox_fieldF fd64_1 rfl rfl) rfl (Qx (ox_load rfl underlying3 rfl rfl (Cell.blk 2 (k := 1) rfl rfl)) rfl (Qx (ox_add rfl rfl rfl (by omega)) rfl (Qx (ox_nilCheck rfl rfl) rfl (Qx (ox_fieldF fd110_0 rfl rfl) rfl (Qx (ox_fieldF fd64_1 rfl rfl) rfl ?_)))))))))
  refine wl_storeAt 2 _ rfl el3 rfl rfl (by rfl) rfl rfl (by (simp; done)) rfl rfl ?_
  refine wl_nil (nx_apart fun hap => ?_)
  obtain ⟨hp1, hp2, _⟩ := pw3 hap
  refine nx_join (nx_swap (nx_join ?_))
  exact nx_end0 rfl (⟨rfl, _, rfl, StO.mk (by omega) hO' hl' B' (Hp.disj_symm hp1.2) (Hp.disj_symm hp2) hp1.1⟩)
end Go.Proofs.YtdnelknieikbaaaGreat
namespace Go.Lin
variable {n d : Nat} {b : Nat → Bool} {L : List Nat} {p : Int} {v : Nat → Nat → Int}
def lsm : List Nat → (Nat → Int) → Int
  | [], _ => 0
  | a :: l, f => f a + lsm l f
theorem lsm_append (f : Nat → Int) : ∀ l l' : List Nat, lsm (l ++ l') f = lsm l f + lsm l' f
  | [], l' => by simp [lsm]
  | a :: l, l' => by rw [List.cons_append, lsm, lsm, lsm_append f l l']; omega
theorem lsm_perm {f : Nat → Int} {l l' : List Nat} (h : l.Perm l') : lsm l f = lsm l' f := by
  induction h with
  | nil => rfl
  | cons x _ ih => rw [lsm, lsm, ih]
  | swap x y l => rw [lsm, lsm, lsm, lsm]; omega
  | trans _ _ ih1 ih2 => exact ih1.trans ih2
theorem lsm_sm (f : Nat → Int) : ∀ l : List Nat, lsm l f = sm l.length fun t => f (l.getD t 0) := by
  intro l
  have key : ∀ l' : List Nat, ∀ l'', l = l' ++ l'' → lsm l' f = sm l'.length fun t => f (l.getD t 0) := by
    intro l'
    induction h : l'.length generalizing l' with
    | zero => intro l'' _; have := List.length_eq_zero_iff.1 h; subst this; rfl
    | succ n ih =>
      intro l'' e
      obtain ⟨a, b, rfl⟩ : ∃ a b, l' = a ++ [b] := ⟨l'.dropLast, l'.getLast (by intro h0; rw [h0] at h; cases h), (List.dropLast_concat_getLast _).symm⟩
      rw [List.length_append, List.length_singleton] at h
      rw [lsm_append]
      show _ = sm n _ + _
      rw [ih a (by omega) ([b] ++ l'') (by rw [e, List.append_assoc])]
      congr 1
      have hn : n = a.length := by omega
      subst hn
      rw [e]
      simp [lsm, List.getD]
  exact key l [] (by simp)
theorem lsm_sel (n : Nat) (b : Nat → Bool) (f : Nat → Int) : (sm n fun l => if b l then f l else 0) = lsm (sel n b) f := by
  rw [sm_sel, lsm_sm]; rfl
theorem sel_perm (hn : L.Nodup) (h : ∀ l, l ∈ L ↔ l < n ∧ b l = true) : L.Perm (sel n b) :=
  (List.perm_ext_iff_of_nodup hn (sel_nodup n b)).2 fun a => by rw [mem_sel]; exact h a
theorem ind_of_list (hp : L.Perm (sel n b)) (hI : Ind p L.length (fun _ => true) d fun t => v (L.getD t 0)) : Ind p n b d v := by
  intro c hc l hl hb
  have hm : l ∈ L := hp.mem_iff.2 (mem_sel.2 ⟨hl, hb⟩)
  obtain ⟨t, ht, rfl⟩ := List.mem_iff_getElem.1 hm
  have := hI (fun t => c (L.getD t 0)) (fun i hi => Cg.trans (Cg.of_eq ?_) (hc i hi)) t ht rfl
  · have e : L.getD t 0 = L[t] := by simp [List.getD, ht]
    show p ∣ c L[t]
    rw [← e]; exact this
  · unfold comb
    rw [lsm_sel n b fun l => c l * v l i, ← lsm_perm hp, lsm_sm]
    exact sm_congr fun t _ => if_pos rfl
theorem list_of_ind (hp : L.Perm (sel n b)) (hI : Ind p n b d v) : Ind p L.length (fun _ => true) d fun t => v (L.getD t 0) := by
  intro c hc t ht _
  have hn : L.Nodup := hp.nodup_iff.2 (sel_nodup n b)
  have hm : L[t] ∈ sel n b := hp.mem_iff.1 (List.getElem_mem ht)
  have := hI (fun l => c (L.idxOf l)) (fun i hi => Cg.trans (Cg.of_eq ?_) (hc i hi)) L[t] (mem_sel.1 hm).1 (mem_sel.1 hm).2
  · rwa [hn.idxOf_getElem t ht] at this
  · unfold comb
    rw [lsm_sel n b fun l => c (L.idxOf l) * v l i, ← lsm_perm hp, lsm_sm]
    exact sm_congr fun t ht => by
      have e : L.getD t 0 = L[t] := by simp [List.getD, ht]
      rw [if_pos rfl, e, hn.idxOf_getElem t ht]; show _ = c t * v (L.getD t 0) i; rw [e]
theorem cnt_of_list (hp : L.Perm (sel n b)) : cnt n b = L.length := hp.length_eq.symm
theorem ind_elem {v' : Nat → Nat → Int} {s t : Nat} {k : Int} (hs : s < n) (ht : t < n) (hst : s ≠ t) (hbs : b s = true) (hbt : b t = true) (hI : Ind p n b d v) (h1 : ∀ l, l < n → l ≠ s → b l = true → ∀ i, i < d → Cg p (v' l i) (v l i)) (h2 : ∀ i, i < d → Cg p (v' s i) (v s i + k * v t i)) : Ind p n b d v' := by
  intro c hc
  have h := hI (fun l => if l = t then c t + k * c s else c l) (fun i hi => ?_)
  · have e1 := h s hs hbs
    rw [if_neg hst] at e1
    have e2 := h t ht hbt
    rw [if_pos rfl] at e2
    intro l hl hb
    by_cases hlt : l = t
    · subst hlt
      have e3 : p ∣ k * c s := Int.dvd_mul_of_dvd_right e1
      have := Int.dvd_sub e2 e3
      rwa [Int.add_sub_cancel] at this
    · have := h l hl hb
      rwa [if_neg hlt] at this
  · refine Cg.trans ?_ (hc i hi)
    have e1 : comb n b (fun l => if l = t then c t + k * c s else c l) v i = comb n b c v i + sm n (fun l => if l = t then k * c s * v t i else 0) := by
      unfold comb
      rw [← sm_add]
      exact sm_congr fun l _ => by
        by_cases hlt : l = t
        · subst hlt; simp only [hbt, if_true]; rw [Int.add_mul]
        · simp only [if_neg hlt, Int.add_zero]
    have e2 : Cg p (comb n b c v' i) (comb n b c v i + sm n (fun l => if l = s then k * c s * v t i else 0)) := by
      unfold comb
      rw [← sm_add]
      refine Cg.sm fun l hl => ?_
      by_cases hls : l = s
      · subst hls
        rw [if_pos hbs, if_pos hbs, if_pos rfl]
        refine (Cg.mul (Cg.refl p (c l)) (h2 i hi)).trans (Cg.of_eq ?_)
        rw [Int.mul_add, ← Int.mul_assoc (c l) k, Int.mul_comm (c l) k]
      · rw [if_neg hls, Int.add_zero]
        cases hb : b l with
        | false => exact Cg.refl _ _
        | true => exact Cg.mul (Cg.refl p _) (h1 l hl hls hb i hi)
    rw [sm_delta n s (fun _ => k * c s * v t i) hs] at e2
    rw [e1, sm_delta n t (fun _ => k * c s * v t i) ht]
    exact e2.symm
theorem Ind.congr {b' : Nat → Bool} {v' : Nat → Nat → Int} (hI : Ind p n b d v) (hb : ∀ l, l < n → b l = b' l) (hv : ∀ l, l < n → b l = true → ∀ i, i < d → Cg p (v' l i) (v l i)) : Ind p n b' d v' := by
  intro c hc l hl hbl
  refine hI c (fun i hi => ?_) l hl ((hb l hl).trans hbl)
  refine Cg.trans (Cg.sm fun l hl => ?_) (hc i hi)
  rw [← hb l hl]
  cases h : b l with
  | false => exact Cg.refl _ _
  | true => exact (Cg.mul (Cg.refl p _) (hv l hl h i hi)).symm
def Zg.tr (Z : Zg) (k : Nat) : Zg := { Z with n := k + 1 }
def Dc.may (D : Dc) (Z : Zg) (t s : Nat) : Prop := D.fr t = D.fr s ∨ (D.fr s < D.fr t ∧ Z.back (D.fr t - 1) = true) ∨ (D.fr t < D.fr s ∧ Z.back (D.fr s - 1) = false)
def Dc.adds (D : Dc) (p : Int) (s t : Nat) (n : Int) : Dc := { D with vec := fun l k i => if l = s ∧ D.fr t ≤ k then (D.vec l k i + n * D.vec t k i) % p else D.vec l k i }
theorem adds_ok {Z : Zg} {D : Dc} {K s t : Nat} {n : Int} (hK : Z.n = K + 1) (V : Valid Z D) (hs : s < D.N) (ht : t < D.N) (hst : s ≠ t) (hsK : D.to s = K) (htK : D.to t = K) (hm : D.may Z t s) : Valid Z (D.adds Z.p s t n) := by
  have hon : ∀ k l, (D.adds Z.p s t n).on k l = D.on k l := fun _ _ => rfl
  have hne : ∀ l, l ≠ s → ∀ k i, (D.adds Z.p s t n).vec l k i = D.vec l k i := fun l hl k i => if_neg fun h => hl h.1
  have hfar : ∀ k i, k < D.fr t → (D.adds Z.p s t n).vec s k i = D.vec s k i := fun k i h => if_neg fun h2 => by omega
  have hnear : ∀ k i, D.fr t ≤ k → Cg Z.p ((D.adds Z.p s t n).vec s k i) (D.vec s k i + n * D.vec t k i) := fun k i h => by
    show Cg _ (if s = s ∧ D.fr t ≤ k then (D.vec s k i + n * D.vec t k i) % Z.p else D.vec s k i) _
    rw [if_pos ⟨rfl, h⟩]; exact Cg.mod _ _
  refine ⟨V.ends, fun k hk => ?_, fun k hk => V.cnt k hk, fun k hk l hl ho i hi => ?_⟩
  · by_cases h : D.on k s = true ∧ D.fr t ≤ k
    · exact ind_elem (b := D.on k) (v := fun l => D.vec l k) (k := n) hs ht hst h.1 (Dc.on_iff.2 ⟨h.2, by omega⟩) (V.ind k hk) (fun l _ hl _ i _ => Cg.of_eq (hne l hl k i)) fun i _ => hnear k i h.2
    · refine (V.ind k hk).congr (fun _ _ => rfl) fun l hl ho i _ => Cg.of_eq ?_
      by_cases hls : l = s
      · subst hls
        exact hfar k i (Nat.lt_of_not_le fun h2 => h ⟨ho, h2⟩)
      · exact hne l hls k i
  · rw [hon] at ho ⊢
    have A := V.arr k hk l hl ho i hi
    by_cases hls : l = s
    · subst hls
      have o := Dc.on_iff.1 ho
      -- what the arrow makes of the other one
      have At : D.on (Z.src k) t = true → Cg Z.p (ap (Z.mat k) (Z.d (Z.src k)) (D.vec t (Z.src k)) i) (if D.on (Z.tgt k) t then D.vec t (Z.tgt k) i else 0) := fun h => V.arr k hk t ht h i hi
      have sum : D.fr t ≤ Z.src k → Cg Z.p (ap (Z.mat k) (Z.d (Z.src k)) ((D.adds Z.p l t n).vec l (Z.src k)) i) ((if D.on (Z.tgt k) l then D.vec l (Z.tgt k) i else 0) + n * (if D.on (Z.tgt k) t then D.vec t (Z.tgt k) i else 0)) := fun h => by
        refine (ap_cg (w := fun j => D.vec l (Z.src k) j + n * D.vec t (Z.src k) j) (fun j _ => hnear _ j h) i).trans ?_
        have e : ap (Z.mat k) (Z.d (Z.src k)) (fun j => D.vec l (Z.src k) j + n * D.vec t (Z.src k) j) i = ap (Z.mat k) (Z.d (Z.src k)) (D.vec l (Z.src k)) i + n * ap (Z.mat k) (Z.d (Z.src k)) (D.vec t (Z.src k)) i := by
          unfold ap
          rw [← sm_mul, ← sm_add]
          exact sm_congr fun j _ => by rw [Int.mul_add, ← Int.mul_assoc n (Z.mat k i j), Int.mul_comm n (Z.mat k i j), Int.mul_assoc]
        rw [e]
        exact Cg.add A (Cg.mul (Cg.refl _ n) (At (Dc.on_iff.2 ⟨h, by omega⟩)))
      have same : Z.src k < D.fr t → Cg Z.p (ap (Z.mat k) (Z.d (Z.src k)) ((D.adds Z.p l t n).vec l (Z.src k)) i) (if D.on (Z.tgt k) l then D.vec l (Z.tgt k) i else 0) := fun h =>
        (ap_cg (fun j _ => Cg.of_eq (hfar _ j h)) i).trans A
      by_cases h1 : D.fr t ≤ Z.src k
      · refine (sum h1).trans ?_
        by_cases h2 : D.fr t ≤ Z.tgt k
        · have hot : D.on (Z.tgt k) t = true := Dc.on_iff.2 ⟨h2, by rcases Z.src_tgt k with ⟨_, e, _⟩ | ⟨_, e, _⟩ <;> omega⟩
          rw [hot]
          cases hot2 : D.on (Z.tgt k) l with
          | true => simp only [if_true]; exact (hnear _ i h2).symm
          | false =>
            exfalso
            have h3 : ¬ (D.fr l ≤ Z.tgt k ∧ Z.tgt k ≤ D.to l) := fun h => by rw [Dc.on_iff.2 h] at hot2; cases hot2
            unfold Dc.may at hm
            rcases Z.src_tgt k with ⟨e1, e2, e3⟩ | ⟨e1, e2, e3⟩
            · omega
            · have e4 : D.fr l - 1 = k := by omega
              rw [e4, e3] at hm
              rcases hm with hm | hm | hm
              · omega
              · omega
              · cases hm.2
        · have hot : D.on (Z.tgt k) t = false := by
            cases h : D.on (Z.tgt k) t with
            | false => rfl
            | true => exact absurd (Dc.on_iff.1 h).1 h2
          rw [hot, hfar _ i (by omega)]
          simp only [Bool.false_eq_true, if_false, Int.mul_zero, Int.add_zero]
          exact Cg.refl _ _
      · refine (same (by omega)).trans ?_
        by_cases h2 : D.fr t ≤ Z.tgt k
        · exfalso
          unfold Dc.may at hm
          rcases Z.src_tgt k with ⟨e1, e2, e3⟩ | ⟨e1, e2, e3⟩
          · have e4 : D.fr t - 1 = k := by omega
            rw [e4, e3] at hm
            rcases hm with hm | hm | hm
            · omega
            · cases hm.2
            · omega
          · omega
        · rw [hfar _ i (by omega)]; exact Cg.refl _ _
    · have e : ap (Z.mat k) (Z.d (Z.src k)) ((D.adds Z.p s t n).vec l (Z.src k)) i = ap (Z.mat k) (Z.d (Z.src k)) (D.vec l (Z.src k)) i := sm_congr fun j _ => by rw [hne l hls]
      rw [e, hne l hls]
      exact A
def Dc.grow (D : Dc) (k : Nat) (st : List Nat) (nb : Nat) (W : Nat → Nat → Int) : Dc where
  N := D.N + nb
  fr l := if l < D.N then D.fr l else k + 1
  to l := if l < D.N then (if l ∈ st then k + 1 else D.to l) else k + 1
  vec l j i := if j = k + 1 then W l i else D.vec l j i
theorem grow_ok {Z : Zg} {D : Dc} {k nb : Nat} {st : List Nat} {W : Nat → Nat → Int} (V : Valid (Z.tr k) D) (hst : ∀ l ∈ st, l < D.N ∧ D.to l = k) (hnd : st.Nodup) (hL : L.Perm (st ++ List.range' D.N nb)) (hI : Ind Z.p L.length (fun _ => true) (Z.d (k + 1)) fun t => W (L.getD t 0)) (hc : L.length = Z.d (k + 1))
    (hf : Z.back k = false → ∀ l, l < D.N → D.to l = k → ∀ i, i < Z.d (k + 1) → Cg Z.p (ap (Z.mat k) (Z.d k) (D.vec l k) i) (if l ∈ st then W l i else 0))
    (hb : Z.back k = true → (∀ l ∈ st, ∀ i, i < Z.d k → Cg Z.p (ap (Z.mat k) (Z.d (k + 1)) (W l) i) (D.vec l k i)) ∧ ∀ l, D.N ≤ l → l < D.N + nb → ∀ i, i < Z.d k → Cg Z.p (ap (Z.mat k) (Z.d (k + 1)) (W l) i) 0) :
    Valid (Z.tr (k + 1)) (D.grow k st nb W) := by
  have hends := V.ends
  have hon : ∀ j l, j ≤ k → l < D.N → (D.grow k st nb W).on j l = D.on j l := fun j l hj hl => by
    unfold Dc.on Dc.grow
    simp only [if_pos hl]
    congr 1
    by_cases hm : l ∈ st
    · rw [if_pos hm, (hst l hm).2]
      rw [decide_eq_true (show j ≤ k + 1 by omega), decide_eq_true hj]
    · rw [if_neg hm]
  have hoff : ∀ j l, j ≤ k → D.N ≤ l → (D.grow k st nb W).on j l = false := fun j l hj hl => by
    unfold Dc.on Dc.grow
    simp only [if_neg (show ¬ l < D.N by omega)]
    rw [decide_eq_false (show ¬ k + 1 ≤ j by omega)]; rfl
  have hnew : ∀ l, l < D.N + nb → ((D.grow k st nb W).on (k + 1) l = true ↔ l ∈ st ++ List.range' D.N nb) := fun l hl => by
    rw [Dc.on_iff, List.mem_append, List.mem_range'_1]
    unfold Dc.grow
    by_cases h : l < D.N
    · simp only [if_pos h]
      have he := hends l h
      by_cases hm : l ∈ st
      · simp only [if_pos hm]
        have := (hst l hm).2
        simp [hm]; omega
      · simp only [if_neg hm]
        have : (Z.tr k).n = k + 1 := rfl
        simp [hm]; omega
    · simp only [if_neg h]
      simp; omega
  have hvec : ∀ j l i, j ≤ k → (D.grow k st nb W).vec l j i = D.vec l j i := fun j l i hj => if_neg (by omega)
  have hW : ∀ l i, (D.grow k st nb W).vec l (k + 1) i = W l i := fun l i => if_pos rfl
  have hsel : L.Perm (sel (D.N + nb) ((D.grow k st nb W).on (k + 1))) := by
    refine hL.trans (sel_perm ?_ fun l => ?_)
    · refine List.nodup_append.2 ⟨hnd, List.nodup_range', fun a ha b hb2 => ?_⟩
      have h1 := (hst a ha).1
      have h2 := List.mem_range'_1.1 hb2
      omega
    · constructor
      · intro h
        have : l < D.N + nb := by
          rcases List.mem_append.1 h with h | h
          · have := (hst l h).1; omega
          · have := List.mem_range'_1.1 h; omega
        exact ⟨this, (hnew l this).2 h⟩
      · exact fun h => (hnew l h.1).1 h.2
  refine ⟨fun l hl => ?_, fun j hj => ?_, fun j hj => ?_, fun j hj l hl ho i hi => ?_⟩
  · show (if l < D.N then D.fr l else k + 1) ≤ (if l < D.N then (if l ∈ st then k + 1 else D.to l) else k + 1) ∧ (if l < D.N then (if l ∈ st then k + 1 else D.to l) else k + 1) < k + 1 + 1
    by_cases h : l < D.N
    · have := hends l h
      have h2 : (Z.tr k).n = k + 1 := rfl
      simp only [if_pos h]
      split
      · omega
      · omega
    · simp only [if_neg h]; omega
  · have hj' : j < k + 1 + 1 := hj
    rcases (by omega : j ≤ k ∨ j = k + 1) with h | rfl
    · -- as it was
      intro c hc2 l hl hbl
      have hl' : l < D.N + nb := hl
      rcases Nat.lt_or_ge l D.N with h2 | h2
      · refine V.ind j (show j < k + 1 by omega) c (fun i hi => Cg.trans (Cg.of_eq ?_) (hc2 i hi)) l h2 (by rw [← hon j l h h2]; exact hbl)
        unfold comb
        show sm D.N _ = sm (D.N + nb) _
        rw [sm_split D.N nb]
        have e0 : (sm nb fun t => if (D.grow k st nb W).on j (D.N + t) then c (D.N + t) * (D.grow k st nb W).vec (D.N + t) j i else 0) = 0 := sm_zero' fun t _ => by rw [hoff j _ h (by omega)]; rfl
        rw [e0, Int.add_zero]
        exact sm_congr fun l hl => by rw [hon j l h hl]; simp only [hvec j l i h]
      · rw [hoff j l h h2] at hbl; cases hbl
    · exact (ind_of_list (v := fun l => W l) hsel hI).congr (fun _ _ => rfl) fun l _ _ i _ => Cg.of_eq (hW l i)
  · have hj' : j < k + 1 + 1 := hj
    rcases (by omega : j ≤ k ∨ j = k + 1) with h | rfl
    · have := V.cnt j (show j < k + 1 by omega)
      refine Eq.trans ?_ this
      show cnt (D.N + nb) _ = cnt D.N _
      have key : ∀ m, cnt (D.N + m) ((D.grow k st nb W).on j) = cnt D.N (D.on j) := fun m => by
        induction m with
        | zero => exact cnt_congr fun l hl => hon j l h hl
        | succ m ih => rw [← Nat.add_assoc, cnt_succ, hoff j _ h (by omega), ih]; rfl
      exact key nb
    · exact (cnt_of_list hsel).trans hc
  · have hj' : j + 1 < k + 1 + 1 := hj
    have hl' : l < D.N + nb := hl
    show Cg Z.p (ap (Z.mat j) (Z.d (Z.src j)) _ i) (if (D.grow k st nb W).on (Z.tgt j) l then (D.grow k st nb W).vec l (Z.tgt j) i else 0)
    have ho' : (D.grow k st nb W).on (Z.src j) l = true := ho
    have hi' : i < Z.d (Z.tgt j) := hi
    rcases (by omega : j < k ∨ j = k) with h | rfl
    · have hs : Z.src j ≤ k ∧ Z.tgt j ≤ k := by rcases Z.src_tgt j with ⟨_, _, _⟩ | ⟨_, _, _⟩ <;> omega
      rcases Nat.lt_or_ge l D.N with h2 | h2
      · rw [hon _ l hs.1 h2] at ho'
        rw [hon _ l hs.2 h2, hvec _ l i hs.2]
        refine Cg.trans (Cg.of_eq (sm_congr fun b _ => ?_)) (V.arr j (show j + 1 < k + 1 by omega) l h2 ho' i hi')
        show Z.mat j i b * (D.grow k st nb W).vec l (Z.src j) b = _
        rw [hvec _ l b hs.1]; rfl
      · rw [hoff _ l hs.1 h2] at ho'; cases ho'
    · rcases Z.src_tgt j with ⟨e1, e2, e3⟩ | ⟨e1, e2, e3⟩
      · have e1' : (Z.tr (j + 1)).src j = j := e1
        rw [e1] at ho'
        rw [e1, e2, e1']
        rw [e2] at hi'
        rcases Nat.lt_or_ge l D.N with h2 | h2
        · rw [hon _ l (Nat.le_refl _) h2] at ho'
          have ot := (Dc.on_iff.1 ho').2
          have hlt := (hends l h2).2
          have hlt' : D.to l < j + 1 := hlt
          refine Cg.trans (Cg.of_eq (sm_congr fun b _ => ?_)) ((hf e3 l h2 (by omega) i hi').trans (Cg.of_eq ?_))
          · rw [hvec _ l b (Nat.le_refl _)]
          · rw [hW]
            by_cases hm : l ∈ st
            · rw [if_pos hm, if_pos ((hnew l hl').2 (List.mem_append_left _ hm))]
            · rw [if_neg hm, if_neg]
              intro h3
              rcases List.mem_append.1 ((hnew l hl').1 h3) with h4 | h4
              · exact hm h4
              · have := List.mem_range'_1.1 h4; omega
        · rw [hoff _ l (Nat.le_refl _) h2] at ho'; cases ho'
      · have e1' : (Z.tr (j + 1)).src j = j + 1 := e1
        rw [e1] at ho'
        rw [e1, e2, e1']
        rw [e2] at hi'
        rcases List.mem_append.1 ((hnew l hl').1 ho') with h4 | h4
        · have h5 := hst l h4
          have h6 := hends l h5.1
          have o : D.on j l = true := Dc.on_iff.2 ⟨by omega, by omega⟩
          rw [hon j l (Nat.le_refl _) h5.1, o, hvec j l i (Nat.le_refl _)]
          refine Cg.trans (Cg.of_eq (sm_congr fun b _ => ?_)) ((hb e3).1 l h4 i hi')
          rw [hW]
        · have h5 := List.mem_range'_1.1 h4
          rw [hoff j l (Nat.le_refl _) h5.1]
          refine Cg.trans (Cg.of_eq (sm_congr fun b _ => ?_)) ((hb e3).2 l h5.1 h5.2 i hi')
          rw [hW]
end Go.Lin
namespace Go.Proofs.YtdnelknieikbaaaGreat
open Tryz
open Go.Eng Go.RowKit Go.Lin
variable {d : Nat → Nat} {m : Hp}
structure SM where
 g : Nat
 fr : Nat
 to : Nat
 v : Nat → Nat → Int
def BagS (d : Nat → Nat) (N : Nat) (S : Nat → SM) (m : Hp) : Prop := Bag N (fun l x => StO d (S l).g (S l).fr (S l).to (S l).v x) m
def SM.Bd (p : Int) (d : Nat → Nat) (S : SM) : Prop := ∀ k, S.fr ≤ k → k ≤ S.to → ∀ i, i < d k → 0 ≤ S.v k i ∧ S.v k i < p
theorem BagS.rd {N : Nat} {S : Nat → SM} {h : Hp} (B : BagS d N S m) (hl : m.le h) {l : Nat} (hN : l < N) : RdS h d (S l).g (S l).fr (S l).to (S l).v := by
 obtain ⟨x, hx, O⟩ := Bag.all B l hN
 exact O.rd (Hp.le_trans hx hl)
theorem StO.le {g fr to : Nat} {v : Nat → Nat → Int} (S : StO d g fr to v m) : fr ≤ to := by
 obtain ⟨vv, es, ma, mb, h0, _⟩ := S
 exact h0
theorem BagS.fr_to {N : Nat} {S : Nat → SM} (B : BagS d N S m) {l : Nat} (hN : l < N) : (S l).fr ≤ (S l).to := by
 obtain ⟨x, hx, O⟩ := Bag.all B l hN
 exact O.le
def adds (p n : Int) (s t : Nat) (S : Nat → SM) (l : Nat) : SM := if l = s then { S s with v := addv p n (S t).fr (S s).v (S t).v } else S l
theorem addB_ok (p n : Int) (d : Nat → Nat) (N s t : Nat) (S : Nat → SM) (mB h : Hp) (hp : 2 ≤ p ∧ p ≤ 997) (hn : 0 ≤ n ∧ n ≤ 997) (hd : ∀ k, d k ≤ 400) (hs : s < N) (ht : t < N) (hne : s ≠ t) (hto : (S s).to = (S t).to) (hto2 : (S s).to ≤ 1000) (bs : (S s).Bd p d) (bt : (S t).Bd p d) (B : BagS d N S mB) :
  FnT Tryz.prog 112 #[.pointer (some ⟨(S s).g, 0, none⟩), .int .i64 p, .int .i64 n, .pointer (some ⟨(S t).g, 0, none⟩)] h [mB] (fun r h' ms' => h = h' ∧ ∃ mB', ms' = [mB'] ∧ BagS d N (adds p n s t S) mB') := by
 obtain ⟨m1, m2, rfl, hdj, hO, hoth, hclose⟩ := Bag.open B hs
 obtain ⟨vv, es, ma, mb, h0, rfl, h1, h2, h3, h4, h5⟩ := hO
 have hd1 : ma.disj m2 := Hp.disj_left (Hp.disj_right hdj)
 have hd2 : mb.disj m2 := Hp.disj_right (Hp.disj_right hdj)
 have hd3 : (Blk (S s).g 110 [.int .i64 (S s).fr, .int .i64 (S s).to, vv]).disj m2 := Hp.disj_left hdj
 have g1 := Goes.part hdj []
 have g2 := Goes.parts h1 (List.Perm.refl ((Blk (S s).g 110 [.int .i64 (S s).fr, .int .i64 (S s).to, vv]) :: ma.join mb :: [m2]))
 have g3 := Goes.perm (List.Perm.swap (ma.join mb) (Blk (S s).g 110 [.int .i64 (S s).fr, .int .i64 (S s).to, vv]) [m2])
 have g4 := Goes.parts h2 (List.Perm.swap mb ma [Blk (S s).g 110 [.int .i64 (S s).fr, .int .i64 (S s).to, vv], m2])
 refine fnt_from (ms1 := [mb] ++ [ma, Blk (S s).g 110 [.int .i64 (S s).fr, .int .i64 (S s).to, vv], m2]) (g1.trans (g2.1.trans (g3.trans g4.1))) (fun k hk => dom_part k (g2.2 k (dom_perm (List.Perm.swap _ _ _) k (g4.2 k hk)))) ?_
 refine fnt_goes (fnt_read (post := fun r ms' => ∃ mb', ms' = [mb'] ∧ VecB d (S s).fr es.length es (addv p n (S t).fr (S s).v (S t).v) mb') fun h' hl hm => ?_) ?_
 ·have hlm := hm m2 (by simp)
  obtain ⟨x, hx, hT⟩ := hoth t ht (Ne.symm hne)
  have hT := hT.rd (Hp.le_trans hx hlm)
  rw [← hto] at hT
  exact (add_ok p n d (S s).g (S t).g (S s).fr (S t).fr (S s).to (S s).v (S t).v vv es mb h' hp hn hto2 h0 hd bs (by rw [hto]; exact bt) (Seg.ofLe (hm _ (List.Mem.tail _ (List.Mem.head _)))) (h3.rdh (hm _ (List.Mem.head _))) h4 h5 hT).mono fun r h2 ms2 ⟨e, mb', e2, B'⟩ => ⟨mb', e2, B'⟩
 ·rintro r h' ms' ⟨rfl, ms2, rfl, mb', rfl, B'⟩ hap
  have hap' : [mb', ma, Blk (S s).g 110 [.int .i64 (S s).fr, .int .i64 (S s).to, vv], m2].Pairwise Hp.disj := hap
  have q1 := List.pairwise_cons.1 hap'
  have q2 := List.pairwise_cons.1 q1.2
  have q3 := List.pairwise_cons.1 q2.2
  have d1 : ma.disj mb' := Hp.disj_symm (q1.1 _ (by simp))
  have d2 : (Blk (S s).g 110 [.int .i64 (S s).fr, .int .i64 (S s).to, vv]).disj ma := Hp.disj_symm (q2.1 _ (by simp))
  have d3 : (Blk (S s).g 110 [.int .i64 (S s).fr, .int .i64 (S s).to, vv]).disj mb' := Hp.disj_symm (q1.1 _ (by simp))
  have d4 := q1.1 m2 (by simp)
  have d5 := q2.1 m2 (by simp)
  have d6 := q3.1 m2 (by simp)
  have hS := StO.mk (d := d) (g := (S s).g) h0 h3 h4 B' d2 d3 d1
  refine ⟨[((Blk (S s).g 110 [.int .i64 (S s).fr, .int .i64 (S s).to, vv]).join (ma.join mb')).join m2], ?_, rfl, _, rfl, ?_⟩
  ·refine (Goes.perm (List.Perm.swap ma mb' _)).trans ((Goes.join ma mb' _).trans ((Goes.perm (List.Perm.swap _ _ _)).trans ((Goes.join _ _ _).trans (Goes.join _ _ _))))
  ·refine hclose _ _ (Hp.disj_join d6 (Hp.disj_join d5 d4)) ?_ fun k hk hks x O => ?_
   ·unfold adds
    rw [if_pos rfl]
    exact hS
   ·unfold adds
    rw [if_neg hks]
    exact O
def grows (s : Nat) (w : Nat → Int) (S : Nat → SM) (l : Nat) : SM := if l = s then { S s with to := (S s).to + 1, v := fun k => if k = (S s).to + 1 then w else (S s).v k } else S l
theorem growB_ok (d : Nat → Nat) (N s : Nat) (S : Nat → SM) (w : Nat → Int) (u : Value) (mB h : Hp) (hs : s < N) (hR : RdL cI 1 h [] u (vec (d ((S s).to + 1)) w)) (hd : d ((S s).to + 1) ≤ 400) (hto : (S s).to ≤ 1000) (B : BagS d N S mB) :
  FnT Tryz.prog 113 #[.pointer (some ⟨(S s).g, 0, none⟩), u] h [mB] (fun x h' ms' => h = h' ∧ ∃ mB', ms' = [mB'] ∧ BagS d N (grows s w S) mB') := by
 obtain ⟨m1, m2, rfl, hdj, hO, hoth, hclose⟩ := Bag.open B hs
 refine fnt_from (ms1 := [m1] ++ [m2]) (Goes.part hdj []) dom_part ?_
 refine fnt_goes (fnt_read (post := fun r ms' => ∃ m', ms' = [m'] ∧ StO d (S s).g (S s).fr ((S s).to + 1) (fun k => if k = (S s).to + 1 then w else (S s).v k) m') fun h' hl hm => ?_) ?_
 ·exact (grow_ok d (S s).g (S s).fr (S s).to (S s).v w u m1 h' hO (hR.up hl) hd hto).mono fun r h2 ms2 ⟨e, m', e2, S'⟩ => ⟨m', e2, S'⟩
 ·rintro r h' ms' ⟨rfl, ms2, rfl, m', rfl, S'⟩ hap
  have d1 : m'.disj m2 := (List.pairwise_cons.1 hap).1 _ (by simp)
  refine ⟨[m'.join m2], Goes.join _ _ _, rfl, _, rfl, hclose _ _ d1 ?_ fun k hk hks x O => ?_⟩
  ·unfold grows
   rw [if_pos rfl]
   exact S'
  ·unfold grows
   rw [if_neg hks]
   exact O
end Go.Proofs.YtdnelknieikbaaaGreat
namespace Go.Proofs.YtdnelknieikbaaaGreat
open Tryz
open Go.Eng Go.RowKit Go.Lin
def rvs (n i : Nat) (f : Nat → Int) (a : Nat) : Int := if a < i ∨ n - 1 - a < i then f (n - 1 - a) else f a
theorem rvs_mid (n i : Nat) (f : Nat → Int) {a : Nat} (h1 : i ≤ a) (h2 : i ≤ n - 1 - a) : rvs n i f a = f a := if_neg (by omega)
theorem rvs_step {n i : Nat} (f : Nat → Int) (hi : i < n - 1 - i) {a : Nat} (ha : a < n) : (if a = n - 1 - i then f i else if a = i then f (n - 1 - i) else rvs n i f a) = rvs n (i + 1) f a := by
 unfold rvs
 by_cases h1 : a = n - 1 - i
 ·rw [if_pos h1, if_pos (by omega)]; congr 1; omega
 ·rw [if_neg h1]
  by_cases h2 : a = i
  ·rw [if_pos h2, if_pos (by omega), h2]
  ·rw [if_neg h2]
   by_cases h3 : a < i ∨ n - 1 - a < i
   ·rw [if_pos h3, if_pos (by omega)]
   ·rw [if_neg h3, if_neg (by omega)]
theorem reverse_ok (n : Nat) (f : Nat → Int) (v : Value) (m h : Hp) (hn : n ≤ 1000000) (O : OwnL cI 1 3 m v (vec n f)) :
  FnT Tryz.prog 52 #[v] h [m] (fun x h' ms' => h = h' ∧ ∃ m', ms' = [m'] ∧ OwnL cI 1 3 m' v (vec n fun a => f (n - 1 - a))) := by
 have hRd : ∀ (f : Nat → Int) m, OwnL cI 1 3 m v (vec n f) → Rd h [m] v 1 n ((vec n f).flatMap cI) := fun f m O => by
  have := (O.rd (h := h) (ms := [m]) (List.Mem.head _)).rd
  rwa [vec_len] at this
 refine fn_enter func52 ntmps52 rfl rfl (fun w0 hw0 => ?_)
 simp only [argS]
 refine RsQ (Qm rfl (Qx (ox_lenR (hRd _ _ O) rfl underlying24 rfl) rfl (Qx (ox_sub rfl rfl rfl (by omega)) rfl (Qm rfl (Qm rfl (RnQ (ws_block ?_)))))))
 refine ws_loop (fun q s hh ms' => ∃ (i : Nat) (m : Hp), q = n + 1 - i ∧ s = [(0, v), (2, .int .i64 i), (3, .int .i64 ((n : Int) - 1 - i))] ∧ h = hh ∧ ms' = [m] ∧ i ≤ n ∧ OwnL cI 1 3 m v (vec n (rvs n i f)))
  (n + 1 - 0) [(0, v), (2, .int .i64 0), (3, .int .i64 ((n : Int) - 1))] ⟨0, m, rfl, by rw [show ((n : Int) - 1 - (0 : Nat)) = (n : Int) - 1 by omega]; rfl, rfl, rfl, by omega, by rw [vec_congr (f := rvs n 0 f) (g := f) (fun a _ => if_neg (by omega))]; exact O⟩ Qs ?_
 rintro q s hh ms' ⟨i, m, rfl, rfl, rfl, rfl, hi, O⟩
 refine ws_seq (RsQ (Qm rfl (Qm rfl (Qx (ox_lss rfl rfl rfl) rfl (RnQ ?_)))))
 refine ws_if rfl (fun hlt => ?_) (fun hlt => ?_)
 ·have hin : i < n - 1 - i := by omega
  have e1 : (n : Int) - 1 - i = ((n - 1 - i : Nat) : Int) := by omega
  have hi2 : n - 1 - i < n := by omega
  have c1 : ∀ {j : Nat}, j < n → i ≤ j → i ≤ n - 1 - j → ∀ ms, m ∈ ms → Cell h ms ((vbase v).add (j * 1)) (.int .i64 (f j)) := fun hj h1 h2 ms hm => by
   have := (O.rd (h := h) hm).ev hj
   rwa [rvs_mid n i f h1 h2] at this
  have el : (vec n (rvs n i f)).length = n := vec_len _ _
  have el2 : ∀ x, ((vec n (rvs n i f)).set i x).length = n := fun x => by rw [List.length_set, vec_len]
  refine ws_skip (nx_then ?_)
  refine ws_cut (fun s hh ms' => ∃ (m2 : Hp), s = [(0, v), (2, .int .i64 i), (3, .int .i64 ((n : Int) - 1 - i))] ∧ h = hh ∧ ms' = [m2] ∧ OwnL cI 1 3 m2 v (((vec n (rvs n i f)).set i (f (n - 1 - i))).set (n - 1 - i) (f i))) ?_ (fun s h ms hI => ?_)
  ·refine ws_block (ws_stab (n := 16) (bs := [true, true, true, true, true, true, true, false, true, true, true, false, true, false, true, false]) [true, true, true, true, true, true, true, false, true, true, true, false, true, false, true] fol (by kernel_rfl) (by kernel_rfl) rfl rfl (Qp rfl (ox_move rfl rfl) (Qp rfl (ox_move rfl rfl) (Qp rfl (ox_move rfl rfl) (Qp rfl (ox_move rfl rfl) (Qp rfl (ox_move rfl rfl) (Qp rfl (ox_move rfl rfl) (Qp rfl (ox_indexS (n - 1 - i) (hRd _ _ O) rfl underlying24 el3 rfl rfl (by omega) (by omega)) (Qp rfl (ox_move rfl rfl) (Qp rfl (ox_move rfl rfl) (Qp rfl (ox_indexS (i) (hRd _ _ O) rfl underlying24 el3 rfl rfl (by omega) (by omega)) (Qp rfl (ox_indexS (i) (hRd _ _ O) rfl underlying24 el3 rfl rfl (by omega) (by omega)) (Qp rfl (ox_indexS (n - 1 - i) (hRd _ _ O) rfl underlying24 el3 rfl rfl (by omega) (by omega)) ?_)))))))))))))
   unfold PZs
   simp only [List.cons_append, List.nil_append]
   refine wb_step [7, 11] (by kernel_rfl) rfl ?_
   refine wbl_cons rfl ?_ ?_
   ·refine Qx (ox_load rfl underlying3 rfl rfl (c1 (show n - 1 - i < n by omega) (by omega) (by omega) _ (List.Mem.head _))) rfl ?_
    refine Qw (Qo 11 rfl ?_)
    refine Qx (ox_load rfl underlying3 rfl rfl (c1 (show i < n by omega) (by omega) (by omega) _ (List.Mem.head _))) rfl ?_
    refine Qw (Qo 13 rfl (wl_storeN 0 i O rfl el3 rfl rfl rfl (by omega) rfl rfl (fun m1 O1 => Qw (Qo 15 rfl ?_))))
    refine wl_storeN 0 (n - 1 - i) O1 rfl el3 rfl rfl rfl (by rw [el2]; omega) rfl rfl (fun m2 O2 => ?_)
    refine Qw (Qe ?_)
    exact nx_block (nx_meet _ ⟨m2, rfl, rfl, rfl, O2⟩ Qs)
   refine wbl_cons rfl ?_ ?_
   ·refine Qx (ox_load rfl underlying3 rfl rfl (c1 (show i < n by omega) (by omega) (by omega) _ (List.Mem.head _))) rfl ?_
    refine Qw (Qo 7 rfl ?_)
    refine Qx (ox_load rfl underlying3 rfl rfl (c1 (show n - 1 - i < n by omega) (by omega) (by omega) _ (List.Mem.head _))) rfl ?_
    refine Qw (Qo 13 rfl (wl_storeN 0 i O rfl el3 rfl rfl rfl (by omega) rfl rfl (fun m1 O1 => Qw (Qo 15 rfl ?_))))
    refine wl_storeN 0 (n - 1 - i) O1 rfl el3 rfl rfl rfl (by rw [el2]; omega) rfl rfl (fun m2 O2 => ?_)
    refine Qw (Qe ?_)
    exact nx_block (nx_meet _ ⟨m2, rfl, rfl, rfl, O2⟩ Qs)
   exact wbl_nil
  ·obtain ⟨m2, rfl, rfl, rfl, O2⟩ := hI
   refine ws_region (Qm rfl (Qx (ox_add rfl rfl rfl (by omega)) rfl (Qm rfl (Qx (ox_sub rfl rfl rfl (by omega)) rfl (Qm rfl (Qm rfl (wl_nil ?_)))))))
   refine nx_round (n + 1 - (i + 1)) [(0, v), (2, .int .i64 ((i : Int) + 1)), (3, .int .i64 ((n : Int) - 1 - i - 1))] (by omega) ⟨i + 1, m2, rfl, by rw [show ((n : Int) - 1 - i - 1) = (n : Int) - 1 - (i + 1 : Nat) by omega]; rfl, rfl, rfl, by omega, ?_⟩ Qs
   rw [vec_set, vec_set, vec_congr (fun a ha => rvs_step f hin ha)] at O2
   exact O2
 ·refine ws_exit (nx_then_exit (nx_then_exit (nx_block_exit ?_)))
  have e1 : ∀ a, a < n → rvs n i f a = f (n - 1 - a) := fun a ha => by
   unfold rvs
   by_cases h1 : a < i ∨ n - 1 - a < i
   ·rw [if_pos h1]
   ·rw [if_neg h1]; congr 1; omega
  exact nx_end0 rfl (⟨rfl, m, rfl, by rw [vec_congr e1] at O; exact O⟩)
end Go.Proofs.YtdnelknieikbaaaGreat
namespace Go.Proofs.YtdnelknieikbaaaGreat
open Go.Eng Go.RowKit Go.Lin
variable {S : Nat → SM} {Z : Zg} {N k s l i t : Nat} {al en st : List Nat} {p n : Int} {w : Nat → Nat → Int} {x : Nat → Int}
theorem _root_.Go.Lin.Valid.congr {D D' : Dc} (V : Valid Z D) (hN : D'.N = D.N) (hf : ∀ l, l < D.N → D'.fr l = D.fr l ∧ D'.to l = D.to l) (hv : ∀ l, l < D.N → ∀ k, D.on k l = true → ∀ i, i < Z.d k → Cg Z.p (D'.vec l k i) (D.vec l k i)) : Valid Z D' := by
 have hon : ∀ k l, l < D.N → D'.on k l = D.on k l := fun k l hl => by unfold Dc.on; rw [(hf l hl).1, (hf l hl).2]
 refine ⟨fun l hl => ?_, fun k hk => ?_, fun k hk => ?_, fun k hk l hl ho i hi => ?_⟩
 ·rw [hN] at hl; rw [(hf l hl).1, (hf l hl).2]; exact V.ends l hl
 ·rw [hN]
  exact (V.ind k hk).congr (fun l hl => (hon k l hl).symm) fun l hl ho i hi => hv l hl k ho i hi
 ·rw [hN, cnt_congr fun l hl => hon k l hl]; exact V.cnt k hk
 ·rw [hN] at hl
  rw [hon _ l hl] at ho ⊢
  refine (ap_cg (fun j hj => hv l hl _ ho j hj) i).trans ((V.arr k hk l hl ho i hi).trans ?_)
  cases h : D.on (Z.tgt k) l with
  | false => exact Cg.refl _ _
  | true => exact (hv l hl _ h i hi).symm
theorem ind_snoc (F : Lin.Fld p) {n d : Nat} (hI : Ind p n tt d w) (hno : ¬ ∃ x : Nat → Int, ∀ a, a < d → Cg p (comb n tt x w a) (w n a)) : Ind p (n + 1) tt d w := by
 intro c hc
 have e : ∀ a, comb (n + 1) tt c w a = comb n tt c w a + c n * w n a := fun a => rfl
 have hn : p ∣ c n := Classical.byContradiction fun h => by
  obtain ⟨u, hu⟩ := F.inv _ h
  refine hno ⟨fun l => -(u * c l), fun a ha => ?_⟩
  have h1 := hc a ha
  rw [e] at h1
  have h2 : Cg p (u * (comb n tt c w a + c n * w n a)) 0 := by
   have := (Cg.refl p u).mul h1
   rwa [Int.mul_zero] at this
  have h3 : Cg p (u * (c n * w n a)) (w n a) := by
   have := hu.mul (Cg.refl p (w n a))
   rwa [Int.one_mul, Int.mul_comm (c n), Int.mul_assoc] at this
  have h4 : comb n tt (fun l => -(u * c l)) w a = -(u * comb n tt c w a) := by
   rw [comb_tt, comb_tt, ← Int.neg_mul, ← sm_mul]
   exact sm_congr fun l _ => by rw [Int.neg_mul, Int.mul_assoc, Int.neg_mul]
  rw [h4]
  rw [Int.mul_add] at h2
  have h5 := h2.sub h3
  have e5 : u * comb n tt c w a + u * (c n * w n a) - u * (c n * w n a) = u * comb n tt c w a := by omega
  have h6 : Cg p (u * comb n tt c w a) (0 - w n a) := by rwa [e5] at h5
  have := h6.neg
  rwa [show -(0 - w n a) = w n a by omega] at this
 intro l hl hb
 rcases (by omega : l < n ∨ l = n) with h | rfl
 ·refine hI c (fun a ha => ?_) l h rfl
  have h1 := hc a ha
  rw [e] at h1
  have h2 : Cg p (c n * w n a) 0 := by unfold Cg; rw [Int.sub_zero]; exact Int.dvd_mul_of_dvd_left hn
  have := h1.sub h2
  rwa [Int.add_sub_cancel, Int.sub_zero] at this
 ·exact hn
def dcOf (N : Nat) (S : Nat → SM) : Dc := ⟨N, fun l => (S l).fr, fun l => (S l).to, fun l => (S l).v⟩
structure Mch (Z : Zg) (k N : Nat) (S : Nat → SM) (al en : List Nat) : Prop where
 val : Valid (Z.tr k) (dcOf N S)
 perm : (en ++ al).Perm (List.range N)
 live : ∀ l ∈ al, (S l).to = k
 dead : ∀ l ∈ en, (S l).to < k
 ord : al.Pairwise ((dcOf N S).may Z)
 bd : ∀ l, l < N → (S l).Bd Z.p Z.d
theorem Mch.lt (M : Mch Z k N S al en) (h : l ∈ al) : l < N := List.mem_range.1 (M.perm.mem_iff.1 (List.mem_append_right _ h))
theorem Mch.nodup (M : Mch Z k N S al en) : al.Nodup := (List.nodup_append.1 (M.perm.nodup_iff.2 List.nodup_range)).2.1
theorem Mch.in_ (M : Mch Z k N S al en) (h : l < N) (ht : (S l).to = k) : l ∈ al := by
 rcases List.mem_append.1 (M.perm.mem_iff.2 (List.mem_range.2 h)) with h1 | h1
 ·have := M.dead l h1; omega
 ·exact h1
theorem Mch.cnt_al (M : Mch Z k N S al en) : al.length = Z.d k := by
 have h := M.val.cnt k (show k < k + 1 by omega)
 have hp : al.Perm (sel N ((dcOf N S).on k)) := sel_perm M.nodup fun l => by
  constructor
  ·intro hl
   have h1 := M.lt hl
   have h2 := M.live l hl
   have h3 := M.val.ends l h1
   exact ⟨h1, Dc.on_iff.2 ⟨by have : (S l).fr ≤ (S l).to := h3.1; show (S l).fr ≤ k; omega, by show k ≤ (S l).to; omega⟩⟩
  ·rintro ⟨h1, h2⟩
   have h3 := (M.val.ends l h1).2
   have h4 := (Dc.on_iff.1 h2).2
   exact M.in_ h1 (by have h5 : (S l).to < k + 1 := h3; have h6 : k ≤ (S l).to := h4; omega)
 exact (cnt_of_list hp).symm.trans h
structure Fw (Z : Zg) (k N : Nat) (S0 S : Nat → SM) (al st de : List Nat) (i : Nat) (w : Nat → Nat → Int) : Prop where
 val : Valid (Z.tr k) (dcOf N S)
 same : ∀ l, (S l).g = (S0 l).g ∧ (S l).fr = (S0 l).fr ∧ (S l).to = (S0 l).to
 bd : ∀ l, l < N → (S l).Bd Z.p Z.d
 sub : st.Sublist (al.take i)
 perm : (st ++ de).Perm (al.take i)
 im : ∀ t, t < st.length → ∀ a, a < Z.d (k + 1) → w t a = ap (Z.mat k) (Z.d k) ((S (st.getD t 0)).v k) a % Z.p
 ind : Ind Z.p st.length tt (Z.d (k + 1)) w
 dead : ∀ l ∈ de, ∀ a, a < Z.d (k + 1) → Cg Z.p (ap (Z.mat k) (Z.d k) ((S l).v k) a) 0
theorem ind_zero (p : Int) (d : Nat) (w : Nat → Nat → Int) : Ind p 0 tt d w := fun c hc l hl => by omega
theorem Fw.start (M : Mch Z k N S al en) (w : Nat → Nat → Int) : Fw Z k N S S al [] [] 0 w :=
 ⟨M.val, fun _ => ⟨rfl, rfl, rfl⟩, M.bd, by simp, by simp, fun t ht => by simp at ht, ind_zero _ _ _, fun l hl => by simp at hl⟩
theorem take_succ' {l : List Nat} (hi : i < l.length) : l.take (i + 1) = l.take i ++ [l.getD i 0] := by
 have e : l.getD i 0 = l[i] := by simp [List.getD, hi]
 rw [e, List.take_append_getElem hi]
theorem Fw.stay (F : Lin.Fld Z.p) {S0 : Nat → SM} {de : List Nat} {w' : Nat → Nat → Int} (W : Fw Z k N S0 S al st de i w) (hi : i < al.length) (hw : ∀ t, t < st.length → ∀ a, a < Z.d (k + 1) → w' t a = w t a) (hv : ∀ a, a < Z.d (k + 1) → w' st.length a = ap (Z.mat k) (Z.d k) ((S (al.getD i 0)).v k) a % Z.p)
  (hno : ∀ x : Nat → Int, ¬ ∀ a, a < Z.d (k + 1) → Cg Z.p (ap (fun i j => w j i) st.length x a) (w' st.length a)) : Fw Z k N S0 S al (st ++ [al.getD i 0]) de (i + 1) w' := by
 refine ⟨W.val, W.same, W.bd, ?_, ?_, fun t ht a ha => ?_, ?_, W.dead⟩
 ·rw [take_succ' hi]; exact W.sub.append_right _
 ·rw [take_succ' hi]
  have h1 : (st ++ [al.getD i 0] ++ de).Perm ((st ++ de) ++ [al.getD i 0]) := by
   rw [List.append_assoc, List.append_assoc]
   exact List.Perm.append_left _ List.perm_append_comm
  exact h1.trans (W.perm.append_right _)
 ·rw [List.length_append, List.length_singleton] at ht
  rcases (by omega : t < st.length ∨ t = st.length) with h | rfl
  ·rw [hw t h a ha, getD_snoc h]; exact W.im t h a ha
  ·rw [getD_snoc_self]; exact hv a ha
 ·rw [List.length_append, List.length_singleton]
  refine ind_snoc F (W.ind.congr (fun _ _ => rfl) fun l hl _ a ha => Cg.of_eq (hw l hl a ha)) fun ⟨x, hx⟩ => hno x fun a ha => Cg.trans (Cg.of_eq ?_) (hx a ha)
  rw [comb_tt]
  exact sm_congr fun t ht => by rw [hw t ht a ha, Int.mul_comm]
structure FwI (Z : Zg) (k N : Nat) (S S' : Nat → SM) (st : List Nat) (s : Nat) (x : Nat → Int) (j : Nat) : Prop where
 val : Valid (Z.tr k) (dcOf N S')
 same : ∀ l, (S' l).g = (S l).g ∧ (S' l).fr = (S l).fr ∧ (S' l).to = (S l).to
 bd : ∀ l, l < N → (S' l).Bd Z.p Z.d
 other : ∀ l, l ≠ s → S' l = S l
 sum : ∀ a, a < Z.d k → Cg Z.p ((S' s).v k a) ((S s).v k a + sm j fun t => (Z.p - x t) * (S (st.getD t 0)).v k a)
theorem FwI.start (hV : Valid (Z.tr k) (dcOf N S)) (hb : ∀ l, l < N → (S l).Bd Z.p Z.d) : FwI Z k N S S st s x 0 :=
 ⟨hV, fun _ => ⟨rfl, rfl, rfl⟩, hb, fun _ _ => rfl, fun a _ => Cg.of_eq (by show _ = _ + (0 : Int); rw [Int.add_zero])⟩
theorem dcOf_adds : dcOf N (adds p n s t S) = (dcOf N S).adds p s t n := by
 have h1 : (fun l => (adds p n s t S l).fr) = fun l => (S l).fr := funext fun l => by
  unfold adds; split
  ·rename_i h; rw [h]
  ·rfl
 have h2 : (fun l => (adds p n s t S l).to) = fun l => (S l).to := funext fun l => by
  unfold adds; split
  ·rename_i h; rw [h]
  ·rfl
 have h3 : (fun l => (adds p n s t S l).v) = ((dcOf N S).adds p s t n).vec := funext fun l => funext fun k => funext fun i => by
  show _ = if l = s ∧ (S t).fr ≤ k then ((S l).v k i + n * (S t).v k i) % p else (S l).v k i
  unfold adds
  by_cases h : l = s
  ·subst h
   rw [if_pos rfl]
   show addv p n (S t).fr (S l).v (S t).v k i = _
   unfold addv
   by_cases h2 : (S t).fr ≤ k
   ·rw [if_pos h2, if_pos ⟨rfl, h2⟩]
   ·rw [if_neg h2, if_neg fun h => h2 h.2]
  ·rw [if_neg h, if_neg fun h2 => h h2.1]
 show Dc.mk N _ _ _ = Dc.mk N _ _ _
 rw [h1, h2, h3]
 rfl
theorem adds_same (l : Nat) : (adds p n s t S l).g = (S l).g ∧ (adds p n s t S l).fr = (S l).fr ∧ (adds p n s t S l).to = (S l).to := by
 unfold adds; split
 ·rename_i h; rw [h]; exact ⟨rfl, rfl, rfl⟩
 ·exact ⟨rfl, rfl, rfl⟩
theorem adds_bd {d : Nat → Nat} (hp : 0 < p) (h : (S l).Bd p d) : (adds p n s t S l).Bd p d := by
 intro k h1 h2 i hi
 rw [(adds_same l).2.1] at h1
 rw [(adds_same l).2.2] at h2
 unfold adds
 split
 ·rename_i hls
  subst hls
  show 0 ≤ addv p n (S t).fr (S l).v (S t).v k i ∧ addv p n (S t).fr (S l).v (S t).v k i < p
  unfold addv
  split
  ·exact ⟨Int.emod_nonneg _ (by omega), Int.emod_lt_of_pos _ hp⟩
  ·exact h k h1 h2 i hi
 ·exact h k h1 h2 i hi
theorem FwI.step (hp : 0 < Z.p) {S' : Nat → SM} {j : Nat} (W : FwI Z k N S S' st s x j) (hs : s < N) (ht : st.getD j 0 < N) (hne : st.getD j 0 ≠ s) (hks : (S s).to = k) (hkt : (S (st.getD j 0)).to = k) (hm : (dcOf N S).may Z (st.getD j 0) s) : FwI Z k N S (adds Z.p (Z.p - x j) s (st.getD j 0) S') st s x (j + 1) := by
 have hm' : (dcOf N S').may Z (st.getD j 0) s := by
  unfold Dc.may at hm ⊢
  show (S' (st.getD j 0)).fr = (S' s).fr ∨ ((S' s).fr < (S' (st.getD j 0)).fr ∧ Z.back ((S' (st.getD j 0)).fr - 1) = true) ∨ ((S' (st.getD j 0)).fr < (S' s).fr ∧ Z.back ((S' s).fr - 1) = false)
  rw [(W.same s).2.1, (W.same (st.getD j 0)).2.1]
  exact hm
 refine ⟨?_, fun l => ?_, fun l hl => adds_bd hp (W.bd l hl), fun l hl => ?_, fun a ha => ?_⟩
 ·rw [dcOf_adds]
  exact adds_ok (Z := Z.tr k) (K := k) rfl W.val hs ht (Ne.symm hne) (by show (S' s).to = k; rw [(W.same s).2.2]; exact hks) (by show (S' (st.getD j 0)).to = k; rw [(W.same _).2.2]; exact hkt) hm'
 ·have h1 := adds_same (S := S') (p := Z.p) (n := Z.p - x j) (s := s) (t := st.getD j 0) l
  have h2 := W.same l
  exact ⟨h1.1.trans h2.1, h1.2.1.trans h2.2.1, h1.2.2.trans h2.2.2⟩
 ·unfold adds; rw [if_neg hl]; exact W.other l hl
 ·have e1 : (adds Z.p (Z.p - x j) s (st.getD j 0) S' s).v k a = ((S' s).v k a + (Z.p - x j) * (S' (st.getD j 0)).v k a) % Z.p := by
   unfold adds
   rw [if_pos rfl]
   show addv _ _ _ _ _ k a = _
   unfold addv
   rw [if_pos]
   have := (W.val.ends _ ht).1
   have h5 : (S' (st.getD j 0)).fr ≤ (S' (st.getD j 0)).to := this
   rw [(W.same (st.getD j 0)).2.2, hkt] at h5
   exact h5
  rw [e1]
  refine (Cg.mod _ _).trans ?_
  show Cg Z.p _ ((S s).v k a + (sm j _ + _))
  rw [W.other _ hne, ← Int.add_assoc]
  exact (W.sum a ha).add (Cg.refl _ _)
theorem Fw.ends {S0 S' : Nat → SM} {de : List Nat} (W : Fw Z k N S0 S al st de i w) (hi : i < al.length) (hnd : al.Nodup) (I : FwI Z k N S S' st (al.getD i 0) x st.length)
  (hx : ∀ a, a < Z.d (k + 1) → Cg Z.p (ap (fun i j => w j i) st.length x a) (ap (Z.mat k) (Z.d k) ((S (al.getD i 0)).v k) a)) : Fw Z k N S0 S' al st (de ++ [al.getD i 0]) (i + 1) w := by
 have hni : ∀ l, l ∈ al.take i → l ≠ al.getD i 0 := fun l hl he => by
  have h1 : (al.take (i + 1)).Nodup := hnd.sublist (List.take_sublist _ _)
  rw [take_succ' hi] at h1
  exact (List.nodup_append.1 h1).2.2 l hl _ (by simp) he
 have hst : ∀ t, t < st.length → st.getD t 0 ≠ al.getD i 0 := fun t ht => hni _ (W.sub.subset (by simp [List.getD, ht]))
 have hde : ∀ l ∈ de, l ≠ al.getD i 0 := fun l hl => hni _ (W.perm.mem_iff.1 (List.mem_append_right _ hl))
 refine ⟨I.val, fun l => ?_, I.bd, ?_, ?_, fun t ht a ha => ?_, W.ind, fun l hl a ha => ?_⟩
 ·have h1 := I.same l
  have h2 := W.same l
  exact ⟨h1.1.trans h2.1, h1.2.1.trans h2.2.1, h1.2.2.trans h2.2.2⟩
 ·rw [take_succ' hi]; exact W.sub.trans (List.sublist_append_left _ _)
 ·rw [take_succ' hi, ← List.append_assoc]; exact W.perm.append_right _
 ·rw [I.other _ (hst t ht)]; exact W.im t ht a ha
 ·rcases List.mem_append.1 hl with hl | hl
  ·rw [I.other _ (hde l hl)]; exact W.dead l hl a ha
  ·rw [List.mem_singleton.1 hl]
   have h1 : Cg Z.p (ap (Z.mat k) (Z.d k) ((S' (al.getD i 0)).v k) a) (ap (Z.mat k) (Z.d k) ((S (al.getD i 0)).v k) a + sm st.length fun t => (Z.p - x t) * ap (Z.mat k) (Z.d k) ((S (st.getD t 0)).v k) a) := by
    refine (ap_cg (fun j hj => I.sum j hj) a).trans (Cg.of_eq ?_)
    rw [ap_add (Z.mat k) (Z.d k) ((S (al.getD i 0)).v k) (fun j => sm st.length fun t => (Z.p - x t) * (S (st.getD t 0)).v k j) a]
    congr 1
    have := ap_comb (Z.mat k) (Z.d k) st.length tt (fun t => Z.p - x t) (fun t => (S (st.getD t 0)).v k) a
    rw [show ap (Z.mat k) (Z.d k) (comb st.length tt (fun t => Z.p - x t) fun t => (S (st.getD t 0)).v k) a = ap (Z.mat k) (Z.d k) (fun j => sm st.length fun t => (Z.p - x t) * (S (st.getD t 0)).v k j) a from sm_congr fun j _ => by rw [comb_tt]] at this
    rw [this]
    exact sm_congr fun t _ => if_pos rfl
   have h2 : Cg Z.p (sm st.length fun t => (Z.p - x t) * ap (Z.mat k) (Z.d k) ((S (st.getD t 0)).v k) a) (-(ap (fun i j => w j i) st.length x a)) := by
    have h3 : Cg Z.p (sm st.length fun t => (Z.p - x t) * ap (Z.mat k) (Z.d k) ((S (st.getD t 0)).v k) a) (sm st.length fun t => (-1) * (w t a * x t)) := by
     refine Cg.sm fun t ht => ?_
     have h4 : Cg Z.p (ap (Z.mat k) (Z.d k) ((S (st.getD t 0)).v k) a) (w t a) := by rw [W.im t ht a ha]; exact (Cg.mod _ _).symm
     have h5 : Cg Z.p (Z.p - x t) (0 - x t) := (Cg.self Z.p).sub (Cg.refl _ _)
     refine (h5.mul h4).trans (Cg.of_eq ?_)
     rw [Int.zero_sub, Int.neg_mul, Int.mul_comm (x t), Int.neg_mul, Int.one_mul]
    rw [sm_mul] at h3
    refine h3.trans (Cg.of_eq ?_)
    unfold ap
    rw [Int.neg_mul, Int.one_mul]
   refine (h1.trans ((Cg.refl _ _).add h2)).trans ?_
   have h6 := (Cg.refl Z.p (ap (Z.mat k) (Z.d k) ((S (al.getD i 0)).v k) a)).add (hx a ha).neg
   rwa [Int.add_right_neg] at h6
end Go.Proofs.YtdnelknieikbaaaGreat
namespace Go.Proofs.YtdnelknieikbaaaGreat
open Go.Eng Go.RowKit Go.Lin
variable {st pv : List Nat} {k i N l : Nat} {S : Nat → SM} {w u : Nat → Nat → Int} {gb : Nat → Nat}
theorem sorted_ge (hs : pv.Pairwise (· < ·)) : ∀ k (hk : k < pv.length), k ≤ pv[k] := by
 have hmono := List.pairwise_iff_getElem.1 hs
 intro k
 induction k with
 | zero => intro _; exact Nat.zero_le _
 | succ k ih => intro hk; have h1 := ih (by omega); have h2 := hmono k (k + 1) (by omega) hk (by omega); omega
theorem from_drop (hs : pv.Pairwise (· < ·)) {n : Nat} (hf : ∀ l, l < n → ∃ h : l < pv.length, pv[l] = l) : n ≤ pv.length ∧ from_ n pv = pv.drop n := by
 have hn : n ≤ pv.length := by
  rcases Nat.eq_zero_or_pos n with h | h
  ·omega
  ·obtain ⟨h1, _⟩ := hf (n - 1) (by omega); omega
 refine ⟨hn, ?_⟩
 unfold from_
 conv => lhs; rw [← List.take_append_drop n pv]
 rw [List.filter_append]
 have e1 : (pv.take n).filter (fun j => decide (n ≤ j)) = [] := List.filter_eq_nil_iff.2 fun a ha => by
  obtain ⟨k, hk, rfl⟩ := List.mem_iff_getElem.1 ha
  rw [List.length_take] at hk
  obtain ⟨h1, h2⟩ := hf k (by omega)
  rw [List.getElem_take, h2]; simp; omega
 have e2 : (pv.drop n).filter (fun j => decide (n ≤ j)) = pv.drop n := List.filter_eq_self.2 fun a ha => by
  obtain ⟨k, hk, rfl⟩ := List.mem_iff_getElem.1 ha
  rw [List.length_drop] at hk
  rw [List.getElem_drop]
  have := sorted_ge hs (n + k) (by omega)
  simp; omega
 rw [e1, e2, List.nil_append]
def growN (k : Nat) (w : Nat → Nat → Int) (st : List Nat) (i : Nat) (S : Nat → SM) (l : Nat) : SM := if l ∈ st.take i then { S l with to := k + 1, v := fun j => if j = k + 1 then w (st.idxOf l) else (S l).v j } else S l
theorem growN_zero (k : Nat) (w : Nat → Nat → Int) (st : List Nat) (S : Nat → SM) : growN k w st 0 S = S := funext fun l => if_neg (by simp)
theorem growN_not (h : l ∉ st.take i) : growN k w st i S l = S l := if_neg h
theorem nodup_take_not (hn : st.Nodup) (hi : i < st.length) : st.getD i 0 ∉ st.take i := fun h => by
 have h1 : (st.take (i + 1)).Nodup := hn.sublist (List.take_sublist _ _)
 rw [take_succ' hi] at h1
 exact (List.nodup_append.1 h1).2.2 _ h _ (by simp) rfl
theorem getD_mem (hi : i < st.length) : st.getD i 0 ∈ st := by simp [List.getD, hi]
theorem idxOf_getD (hn : st.Nodup) (hi : i < st.length) : st.idxOf (st.getD i 0) = i := by
 have e : st.getD i 0 = st[i] := by simp [List.getD, hi]
 rw [e]; exact hn.idxOf_getElem i hi
theorem growN_step (hn : st.Nodup) (hi : i < st.length) (hk : (S (st.getD i 0)).to = k) : grows (st.getD i 0) (w i) (growN k w st i S) = growN k w st (i + 1) S := funext fun l => by
 have hni := growN_not (k := k) (w := w) (S := S) (nodup_take_not hn hi)
 unfold grows
 by_cases h : l = st.getD i 0
 ·rw [if_pos h, hni, hk, h]
  unfold growN
  rw [if_pos (by rw [take_succ' hi]; simp), idxOf_getD hn hi]
 ·rw [if_neg h]
  unfold growN
  by_cases h2 : l ∈ st.take i
  ·rw [if_pos h2, if_pos (by rw [take_succ' hi]; simp [h2])]
  ·rw [if_neg h2, if_neg (by rw [take_succ' hi, List.mem_append, List.mem_singleton]; exact fun h3 => h3.elim h2 h)]
def bornN (N k : Nat) (gb : Nat → Nat) (u : Nat → Nat → Int) (S : Nat → SM) (l : Nat) : SM := if l < N then S l else ⟨gb l, k + 1, k + 1, fun _ => u (l - N)⟩
theorem bornN_lt (h : l < N) : bornN N k gb u S l = S l := if_pos h
theorem bornN_ge (h : N ≤ l) : bornN N k gb u S l = ⟨gb l, k + 1, k + 1, fun _ => u (l - N)⟩ := if_neg (by omega)
def newW (N : Nat) (st : List Nat) (w u : Nat → Nat → Int) (l : Nat) : Nat → Int := if l < N then w (st.idxOf l) else u (l - N)
theorem mch_next {Z : Zg} {nb : Nat} {S0 : Nat → SM} {al en de : List Nat} (M : Mch Z k N S0 al en) (hV : Valid (Z.tr k) (dcOf N S)) (hs : ∀ l, (S l).g = (S0 l).g ∧ (S l).fr = (S0 l).fr ∧ (S l).to = (S0 l).to) (hb : ∀ l, l < N → (S l).Bd Z.p Z.d) (hsub : st.Sublist al) (hperm : (st ++ de).Perm al)
  (al' : List Nat) (hal' : al'.Perm (st ++ List.range' N nb)) (hI : Ind Z.p al'.length tt (Z.d (k + 1)) (fun t => newW N st w u (al'.getD t 0))) (hc : al'.length = Z.d (k + 1))
  (hf : Z.back k = false → ∀ l, l < N → (S l).to = k → ∀ i, i < Z.d (k + 1) → Cg Z.p (ap (Z.mat k) (Z.d k) ((S l).v k) i) (if l ∈ st then w (st.idxOf l) i else 0))
  (hbk : Z.back k = true → (∀ l ∈ st, ∀ i, i < Z.d k → Cg Z.p (ap (Z.mat k) (Z.d (k + 1)) (w (st.idxOf l)) i) ((S l).v k i)) ∧ ∀ b, b < nb → ∀ i, i < Z.d k → Cg Z.p (ap (Z.mat k) (Z.d (k + 1)) (u b) i) 0)
  (hwb : ∀ t, t < st.length → ∀ i, i < Z.d (k + 1) → 0 ≤ w t i ∧ w t i < Z.p) (hub : ∀ b, b < nb → ∀ i, i < Z.d (k + 1) → 0 ≤ u b i ∧ u b i < Z.p)
  (hord : al'.Pairwise fun a b => (a < N ∧ b < N ∧ (dcOf N S0).may Z a b) ∨ (N ≤ a ∧ N ≤ b) ∨ (a < N ∧ N ≤ b ∧ Z.back k = false) ∨ (N ≤ a ∧ b < N ∧ Z.back k = true)) :
  Mch Z (k + 1) (N + nb) (bornN N k gb u (growN k w st st.length S)) al' (en ++ de) := by
 have hst : ∀ l ∈ st, l < N ∧ (S l).to = k := fun l hl => by
  have h := hsub.subset hl
  exact ⟨M.lt h, by rw [(hs l).2.2]; exact M.live l h⟩
 have hnd : st.Nodup := M.nodup.sublist hsub
 have hde : ∀ l ∈ de, l < N ∧ (S l).to = k := fun l hl => by
  have h := hperm.mem_iff.1 (List.mem_append_right _ hl)
  exact ⟨M.lt h, by rw [(hs l).2.2]; exact M.live l h⟩
 have htk : st.take st.length = st := List.take_length
 have hgr : ∀ l, l < N → bornN N k gb u (growN k w st st.length S) l = if l ∈ st then { S l with to := k + 1, v := fun j => if j = k + 1 then w (st.idxOf l) else (S l).v j } else S l := fun l hl => by
  rw [bornN_lt hl]; unfold growN; rw [htk]
 have hS'bd : ∀ l, l < N + nb → (bornN N k gb u (growN k w st st.length S) l).Bd Z.p Z.d := fun l hl => by
  rcases Nat.lt_or_ge l N with h | h
  ·rw [hgr l h]
   by_cases hm : l ∈ st
   ·rw [if_pos hm]
    intro j h1 h2 i hi
    show 0 ≤ (if j = k + 1 then w (st.idxOf l) else (S l).v j) i ∧ (if j = k + 1 then w (st.idxOf l) else (S l).v j) i < Z.p
    have h1' : (S l).fr ≤ j := h1
    have h2' : j ≤ k + 1 := h2
    by_cases hj : j = k + 1
    ·rw [if_pos hj]; subst hj; exact hwb _ (List.idxOf_lt_length_iff.2 hm) i hi
    ·rw [if_neg hj]; exact hb l h j h1' (by rw [(hst l hm).2]; omega) i hi
   ·rw [if_neg hm]; exact hb l h
  ·rw [bornN_ge h]
   intro j h1 h2 i hi
   have h1' : k + 1 ≤ j := h1
   have h2' : j ≤ k + 1 := h2
   obtain rfl : j = k + 1 := by omega
   exact hub (l - N) (by omega) i hi
 refine ⟨?_, ?_, fun l hl => ?_, fun l hl => ?_, ?_, hS'bd⟩
 ·have V := Go.Lin.grow_ok (nb := nb) (L := al') (W := newW N st w u) hV hst hnd hal' hI hc (fun hbf l hl ht i hi => by
   have := hf hbf l hl ht i hi
   unfold newW
   rw [if_pos (show l < N from hl)]; exact this) (fun hbt => ⟨fun l hl i hi => by
    have := (hbk hbt).1 l hl i hi
    unfold newW
    rw [if_pos (hst l hl).1]; exact this, fun l h1 h2 i hi => by
    have h3 : N ≤ l := h1
    have := (hbk hbt).2 (l - N) (by have : l < N + nb := h2; omega) i hi
    unfold newW
    rw [if_neg (by omega)]; exact this⟩)
  refine V.congr rfl (fun l hl => ?_) (fun l hl j ho i hi => Cg.of_eq ?_)
  ·have hl' : l < N + nb := hl
   show (bornN N k gb u (growN k w st st.length S) l).fr = (if l < N then (S l).fr else k + 1) ∧ (bornN N k gb u (growN k w st st.length S) l).to = (if l < N then (if l ∈ st then k + 1 else (S l).to) else k + 1)
   rcases Nat.lt_or_ge l N with h | h
   ·rw [hgr l h, if_pos h, if_pos h]
    by_cases hm : l ∈ st
    ·rw [if_pos hm, if_pos hm]; exact ⟨rfl, rfl⟩
    ·rw [if_neg hm, if_neg hm]; exact ⟨rfl, rfl⟩
   ·rw [bornN_ge h, if_neg (by omega), if_neg (by omega)]; exact ⟨rfl, rfl⟩
  ·have ho' := Dc.on_iff.1 ho
   have h1 : (if l < N then (S l).fr else k + 1) ≤ j := ho'.1
   have h2 : j ≤ (if l < N then (if l ∈ st then k + 1 else (S l).to) else k + 1) := ho'.2
   show (bornN N k gb u (growN k w st st.length S) l).v j i = if j = k + 1 then newW N st w u l i else (S l).v j i
   rcases Nat.lt_or_ge l N with h | h
   ·rw [hgr l h]
    rw [if_pos h] at h1 h2
    by_cases hm : l ∈ st
    ·rw [if_pos hm]
     show (if j = k + 1 then w (st.idxOf l) else (S l).v j) i = _
     unfold newW
     rw [if_pos h]
     split <;> rfl
    ·rw [if_neg hm] at h2 ⊢
     have h3 := (hV.ends l h).2
     have h4 : (S l).to < k + 1 := h3
     rw [if_neg (by omega)]
   ·rw [if_neg (by omega)] at h1 h2
    rw [bornN_ge h]
    have : j = k + 1 := by omega
    subst this
    rw [if_pos rfl]
    unfold newW
    rw [if_neg (by omega)]
 ·refine (List.Perm.append_left (en ++ de) hal').trans ?_
  have h1 : (en ++ de ++ (st ++ List.range' N nb)).Perm ((en ++ (st ++ de)) ++ List.range' N nb) := by
   rw [← List.append_assoc, List.append_assoc en de st, List.append_assoc en, List.append_assoc en]
   refine List.Perm.append_left en ?_
   exact List.Perm.append_right _ List.perm_append_comm
  refine h1.trans ((List.Perm.append_right _ ((List.Perm.append_left en hperm).trans M.perm)).trans ?_)
  rw [List.range_eq_range', List.range_eq_range']
  rw [show List.range' 0 N ++ List.range' N nb = List.range' 0 (N + nb) by
   have := List.range'_append (s := 0) (m := N) (n := nb) (step := 1)
   simpa using this]
 ·rcases List.mem_append.1 (hal'.mem_iff.1 hl) with h | h
  ·rw [hgr l (hst l h).1, if_pos h]
  ·have := List.mem_range'_1.1 h
   rw [bornN_ge this.1]
 ·rcases List.mem_append.1 hl with h | h
  ·have hlN : l < N := List.mem_range.1 (M.perm.mem_iff.1 (List.mem_append_left _ h))
   have h1 := M.dead l h
   have hns : l ∉ st := fun hm => by have := (hst l hm).2; rw [(hs l).2.2] at this; omega
   rw [hgr l hlN, if_neg hns, (hs l).2.2]; omega
  ·have h2 := hde l h
   have hns : l ∉ st := fun hm => (List.nodup_append.1 (hperm.nodup_iff.2 M.nodup)).2.2 l hm l h rfl
   rw [hgr l h2.1, if_neg hns, h2.2]; omega
 ·have hfr : ∀ l, l < N → (bornN N k gb u (growN k w st st.length S) l).fr = (S0 l).fr := fun l h => by
   rw [hgr l h, ← (hs l).2.1]
   split <;> rfl
  have hfr2 : ∀ l, N ≤ l → (bornN N k gb u (growN k w st st.length S) l).fr = k + 1 := fun l h => by rw [bornN_ge h]
  have hle : ∀ l, l < N → (S0 l).fr ≤ k := fun l h => by
   have h1 := M.val.ends l h
   have h2 : (S0 l).fr ≤ (S0 l).to := h1.1
   have h3 : (S0 l).to < k + 1 := h1.2
   omega
  refine hord.imp fun {a b} h => ?_
  show (bornN N k gb u (growN k w st st.length S) a).fr = (bornN N k gb u (growN k w st st.length S) b).fr ∨ ((bornN N k gb u (growN k w st st.length S) b).fr < (bornN N k gb u (growN k w st st.length S) a).fr ∧ Z.back ((bornN N k gb u (growN k w st st.length S) a).fr - 1) = true) ∨ ((bornN N k gb u (growN k w st st.length S) a).fr < (bornN N k gb u (growN k w st st.length S) b).fr ∧ Z.back ((bornN N k gb u (growN k w st st.length S) b).fr - 1) = false)
  rcases h with ⟨h1, h2, h3⟩ | ⟨h1, h2⟩ | ⟨h1, h2, h3⟩ | ⟨h1, h2, h3⟩
  ·rw [hfr a h1, hfr b h2]; exact h3
  ·rw [hfr2 a h1, hfr2 b h2]; exact .inl rfl
  ·rw [hfr a h1, hfr2 b h2]
   exact .inr (.inr ⟨by have := hle a h1; omega, by rw [Nat.add_sub_cancel]; exact h3⟩)
  ·rw [hfr2 a h1, hfr b h2]
   exact .inr (.inl ⟨by have := hle b h2; omega, by rw [Nat.add_sub_cancel]; exact h3⟩)
theorem Fw.done {Z : Zg} (Fp : Lin.Fld Z.p) (hp : 2 ≤ Z.p) {S0 : Nat → SM} {al en de : List Nat} {F : Nat → Nat → Int} (M : Mch Z k N S0 al en) (W : Fw Z k N S0 S al st de al.length w) (hbk : Z.back k = false)
  (R : Red Z.p (Z.d (k + 1)) (st.length + Z.d (k + 1)) (jn st.length (fun i j => w j i) eye) F pv (st.length + Z.d (k + 1))) :
  Mch Z (k + 1) (N + (from_ st.length pv).length) (bornN N k gb (fun t i => jn st.length (fun i j => w j i) eye i ((from_ st.length pv).getD t 0)) (growN k w st st.length S)) (st ++ List.range' N (from_ st.length pv).length) (en ++ de) := by
 have hsub : st.Sublist al := by have := W.sub; rwa [List.take_length] at this
 have hperm : (st ++ de).Perm al := by have := W.perm; rwa [List.take_length] at this
 have hnd : st.Nodup := M.nodup.sublist hsub
 have hfront := sorted_front R.sorted (fun l hl => front_piv hp R W.ind hl)
 obtain ⟨hn, hfd⟩ := from_drop R.sorted hfront
 have hlen := eye_full Fp hp R
 have hfl : (from_ st.length pv).length = pv.length - st.length := by rw [hfd, List.length_drop]
 have hLl : (st ++ List.range' N (from_ st.length pv).length).length = pv.length := by
  rw [List.length_append, List.length_range', hfl]; omega
 refine mch_next M W.val W.same W.bd hsub hperm _ (List.Perm.refl _) ?_ (hLl.trans hlen) (fun _ l hl ht i hi => ?_) (fun h => by rw [hbk] at h; cases h) (fun t ht i hi => ?_) (fun b hb i hi => ?_) ?_
 ·rw [hLl]
  refine (piv_indL R).congr (fun _ _ => rfl) fun t ht _ i hi => Cg.of_eq ?_
  rcases Nat.lt_or_ge t st.length with h | h
  ·have e1 : (st ++ List.range' N (from_ st.length pv).length).getD t 0 = st.getD t 0 := by simp [List.getD, List.getElem?_append_left h]
   rw [e1]
   unfold newW
   rw [if_pos (M.lt (hsub.subset (getD_mem h))), idxOf_getD hnd h]
   obtain ⟨h2, h3⟩ := hfront t h
   rw [pv_getD h2, h3]
   exact (jn_lt (fun i j => w j i) eye i h).symm
  ·have e1 : (st ++ List.range' N (from_ st.length pv).length).getD t 0 = N + (t - st.length) := by
    have h4 : t - st.length < (from_ st.length pv).length := by omega
    simp [List.getD, List.getElem?_append_right h, h4]
   rw [e1]
   unfold newW
   rw [if_neg (by omega), show N + (t - st.length) - N = t - st.length by omega, hfd]
   have e2 : (pv.drop st.length).getD (t - st.length) 0 = pv.getD t 0 := by simp [List.getD, List.getElem?_drop, show st.length + (t - st.length) = t by omega]
   show jn st.length (fun i j => w j i) eye i ((pv.drop st.length).getD (t - st.length) 0) = _
   rw [e2]
 ·by_cases hm : l ∈ st
  ·rw [if_pos hm]
   have h1 := W.im (st.idxOf l) (List.idxOf_lt_length_iff.2 hm) i hi
   have h2 : st.getD (st.idxOf l) 0 = l := by
    have := List.getElem_idxOf (List.idxOf_lt_length_iff.2 hm)
    simp [List.getD, List.idxOf_lt_length_iff.2 hm]
   rw [h2] at h1
   rw [h1]
   exact (Cg.mod _ _).symm
  ·rw [if_neg hm]
   have h1 : l ∈ al := M.in_ hl (by rw [← (W.same l).2.2]; exact ht)
   rcases List.mem_append.1 (hperm.mem_iff.2 h1) with h2 | h2
   ·exact absurd h2 hm
   ·exact W.dead l h2 i hi
 ·rw [W.im t ht i hi]
  exact ⟨Int.emod_nonneg _ (by omega), Int.emod_lt_of_pos _ (by omega)⟩
 ·have h1 : (from_ st.length pv).getD b 0 ∈ from_ st.length pv := by simp [List.getD, hb]
  have h2 : st.length ≤ (from_ st.length pv).getD b 0 := by
   have := (List.mem_filter.1 h1).2
   simpa using this
  unfold jn
  rw [if_neg (by omega)]
  unfold eye
  split <;> omega
 ·refine List.pairwise_append.2 ⟨?_, ?_, fun a ha b hb => ?_⟩
  ·refine (M.ord.sublist hsub).imp_of_mem fun {a b} ha hb h => .inl ⟨M.lt (hsub.subset ha), M.lt (hsub.subset hb), h⟩
  ·refine List.Pairwise.imp_of_mem (R := fun _ _ => True) (fun {a b} ha hb _ => .inr (.inl ⟨(List.mem_range'_1.1 ha).1, (List.mem_range'_1.1 hb).1⟩)) ?_
   exact List.pairwise_of_forall fun _ _ => trivial
  ·exact .inr (.inr (.inl ⟨M.lt (hsub.subset ha), (List.mem_range'_1.1 hb).1, hbk⟩))
end Go.Proofs.YtdnelknieikbaaaGreat
