/- Parts of the proof: Ve Eng15 Vz. -/
import Derived.Test.YtdnelknieikbaaaGreatTJ
import Derived.Deep.Slices
import Derived.OpenShut
import Derived.Test.YtdnelknieikbaaaGreatRows
import Derived.Test.YtdnelknieikbaaaGreatChecked
import Derived.WalkKit
import Derived.ProofKit
import Derived.ChangeOld
set_option linter.unusedSimpArgs false
set_option linter.unusedVariables false
set_option maxRecDepth 100000
set_option maxHeartbeats 2000000
namespace Go.Proofs.YtdnelknieikbaaaGreat
open Go.Proofs.Tryz
open Go.Eng Go.RowKit Go.Lin Go.Sort Go.Srt
variable {f t : Nat}
open Classical in
noncomputable def Zz.pct (Z : Zz) (f t : Nat) (a : Int × Int) : Nat := if h : ∃ D, Valid (Z.cut f t).zg D then (Classical.choose h).ct a else 0
theorem pct_of {Z : Zz} (hRt : Z.Rt) (hft : f ≤ t) (ht : t < Z.dims.length) {D : Dc} (V : Valid (Z.cut f t).zg D) (a : Int × Int) : Z.pct f t a = D.ct a := by
 unfold Zz.pct
 rw [dif_pos ⟨D, V⟩]
 have h : ∃ D, Valid (Z.cut f t).zg D := ⟨D, V⟩
 exact ct_unique (Zz.cut_rt hRt hft ht).2.2.2.1.fld (Classical.choose_spec h) V a
theorem pct_eq {Z : Zz} (hRt : Z.Rt) {D : Dc} (V : Valid Z.zg D) (hft : f ≤ t) (ht : t < Z.dims.length) (a : Int × Int) : Z.pct f t a = (D.part f t).ct a := pct_of hRt hft ht (Zz.cut_valid hRt hft ht V) a
theorem pct_bd {Z : Zz} (hft : f ≤ t) (ht : t < Z.dims.length) (a : Int × Int) (h : 0 < Z.pct f t a) : 0 ≤ a.1 ∧ a.1 ≤ a.2 ∧ a.2 < ((t + 1 - f : Nat) : Int) := by
 unfold Zz.pct at h
 split at h
 ·rename_i hex
  have V := Classical.choose_spec hex
  unfold Dc.ct at h
  obtain ⟨l, hl⟩ := List.exists_mem_of_length_pos h
  obtain ⟨h1, h2⟩ := mem_sel.1 hl
  have h3 := V.ends l h1
  have h2 := of_decide_eq_true h2
  subst h2
  have h4 : (Z.cut f t).zg.n = t + 1 - f := Z.cut_len ht
  refine ⟨?_, ?_, ?_⟩ <;> simp only <;> omega
 ·exact absurd h (by simp)
def inP (f t i j : Nat) (a : Int × Int) : Bool := decide (max a.1 (f : Int) = f + i ∧ min a.2 (t : Int) = f + j ∧ a.1 ≤ t ∧ (f : Int) ≤ a.2)
def sumI (p : Int × Int → Bool) (l : List Iv) : Int := (l.map fun y => if p (y.fr, y.to) then y.n else 0).sum
theorem sumI_take (p : Int × Int → Bool) {l : List Iv} {k : Nat} (hk : k < l.length) : sumI p (l.take (k + 1)) = sumI p (l.take k) + if p (l[k].fr, l[k].to) then l[k].n else 0 := by
 unfold sumI
 rw [List.take_succ_eq_append_getElem hk, List.map_append, List.sum_append]
 simp
theorem sumI_ks (p : Int × Int → Bool) (c : Int × Int → Nat) : ∀ ks : List (Int × Int), sumI p (ks.map fun a => ⟨a.1, a.2, (c a : Nat)⟩) = (ksum ks p c : Nat)
 | [] => rfl
 | a :: ks => by
  have ih := sumI_ks p c ks
  unfold sumI ksum at ih ⊢
  rw [List.map_cons, List.map_cons, List.map_cons, List.sum_cons, List.sum_cons, ih]
  push_cast
  congr 1
  show (if p (a.1, a.2) = true then _ else _) = _
  split <;> simp
theorem sum_pct {Z : Zz} (hRt : Z.Rt) {bl : List Iv} (hB : IsBars Z bl) (hft : f ≤ t) (ht : t < Z.dims.length) (i j : Nat) : sumI (inP f t i j) bl = (Z.pct f t ((i : Int), (j : Int)) : Nat) := by
 obtain ⟨D, V, hb⟩ := hB.2 hRt
 rw [pct_eq hRt V hft ht, part_ct hft (fun l hl => (V.ends l hl).1)]
 obtain ⟨ks, rfl, hs, hm⟩ := hb
 have hn : ks.Nodup := hs.imp fun {a b} h e => by
  subst e
  rw [cmp2_lt] at h
  omega
 rw [sumI_ks, ksum_cnt (D := D) (inP f t i j) hn fun l hl => (hm _).2 (by
  unfold Dc.ct
  exact List.length_pos_of_mem (mem_sel.2 ⟨hl, decide_eq_true rfl⟩))]
 rfl
theorem bars_small {l : List StE} {bl : List Iv} (hl : l.length ≤ 20400) (hB : BarsOf (fun a => (l.map StE.key).count a) bl) : bl.length ≤ 20400 ∧ ∀ y ∈ bl, 0 ≤ y.n ∧ y.n ≤ 20400 := by
 obtain ⟨ks, rfl, hs, hm⟩ := hB
 have hn : ks.Nodup := hs.imp fun {a b} h e => by
  subst e
  rw [cmp2_lt] at h
  omega
 constructor
 ·rw [List.length_map]
  have h1 : ks.length ≤ (l.map StE.key).length := hn.length_le_of_subset fun a ha => List.count_pos_iff.1 ((hm a).1 ha)
  rw [List.length_map] at h1; omega
 ·intro y hy
  obtain ⟨a, ha, rfl⟩ := List.mem_map.1 hy
  have h1 : (l.map StE.key).count a ≤ (l.map StE.key).length := List.count_le_length
  rw [List.length_map] at h1
  show (0 : Int) ≤ (((l.map StE.key).count a : Nat) : Int) ∧ (((l.map StE.key).count a : Nat) : Int) ≤ 20400
  omega
theorem sumI_bd (p : Int × Int → Bool) : ∀ l : List Iv, (∀ y ∈ l, 0 ≤ y.n ∧ y.n ≤ 20400) → 0 ≤ sumI p l ∧ sumI p l ≤ 20400 * (l.length : Int)
 | [], _ => by simp [sumI]
 | y :: l, h => by
  have ih := sumI_bd p l fun z hz => h z (by simp [hz])
  have hy := h y (by simp)
  unfold sumI at ih ⊢
  rw [List.map_cons, List.sum_cons, List.length_cons]
  push_cast
  split <;> omega
theorem lparts_ok (x : Pl) (vd vs : Value) (a b : Int) (h : Hp) (hx : x.Ok) (hR : RdP h vd vs x) (ha : 0 ≤ a ∧ a ≤ 255) (hb : 0 ≤ b ∧ b ≤ 255) : FnT Tryz.prog 4 #[.agg #[.int .u8 x.p, vd, .int .u16 x.back, vs, .bool x.thin], .int .u8 a, .int .u8 b] h [] (fun r _ _ => r = .bool true) := by
 have o1 := hR.d.rd.one
 have o2 := hR.s.rd.one
 refine fn_enter func4 ntmps4 rfl rfl (fun w0 hw0 => ?_)
 simp only [argS]
 refine RsQ ?_
 refine wl_box [_, _, _, _, _] rfl rfl (by rfl) rfl rfl rfl (fun g3 => ?_)
 refine Qm rfl (RtQ (Qx (ox_call rfl call14 rfl (sanity_v _ _)) rfl (Qm rfl (RnQ (ws_freezeB fun h1 l1 hS1 => ?_)))))
 have hR := hR.up l1
 refine RsQ (Qx (ox_loadG rfl underlying26 rfl el26 rfl rfl (Seg.any hS1)) rfl (wl_call rfl call15 rfl (zig_ok x vd vs h1 hx hR) rfl rfl rfl (fun rz h2 ms2 l2 hF => ?_)))
 obtain ⟨l2', vdo, vao, md, ma, mB, A, rfl, rfl, hOd, hOa, hAc, hB⟩ := hF
 refine wl_freezeM fun h3 l3 k3 => (wl_freezeM fun h4 l4 k4 => (wl_freezeM fun h5 l5 k5 => ?_))
 have hRZ := zig_rdz (h := h5) hOd (Hp.le_trans k4 l5) hOa (Hp.le_trans k3 (Hp.le_trans l4 l5)) hB k5
 have hRt : (⟨x.P, x.dims, A⟩ : Zz).Rt := x.rt rfl rfl hAc
 generalize hZ : (⟨x.P, x.dims, A⟩ : Zz) = Z at hRZ hRt
 have hZp : x.P = Z.p := by rw [← hZ]
 rw [hZp]
 have o3 := hRZ.d.rd.one
 have o4 := hRZ.a.rd.one
 have n1 := hRt.1
 have n2 := hRt.2.1
 refine AlQ [.int .i64 0, .slice none 0 0, .slice none 0 0] rfl el30 rfl rfl (fun g8 => ?_)
 refine wl_storeAll 0 [_, _, _] rfl el30 rfl rfl rfl (by (simp [o3, o4]; done)) rfl rfl rfl rfl rfl ?_
 refine RnQ (ws_freezeB fun h6 l6 hS8 => ?_)
 have hRZ := hRZ.up l6
 have hA := Seg.all hS8
 have hq1 : a % (Z.dims.length : Int) = ((a % (Z.dims.length : Int)).toNat : Int) ∧ (a % (Z.dims.length : Int)).toNat < Z.dims.length := by
  have h1 := Int.emod_nonneg a (show (Z.dims.length : Int) ≠ 0 by omega)
  have h2 := Int.emod_lt_of_pos a (show 0 < (Z.dims.length : Int) by omega)
  omega
 have hq2 : b % (Z.dims.length : Int) = ((b % (Z.dims.length : Int)).toNat : Int) ∧ (b % (Z.dims.length : Int)).toNat < Z.dims.length := by
  have h1 := Int.emod_nonneg b (show (Z.dims.length : Int) ≠ 0 by omega)
  have h2 := Int.emod_lt_of_pos b (show 0 < (Z.dims.length : Int) by omega)
  omega
 refine ws_cut (fun sl hh ms' => ∃ f0 t0 : Nat, sl = [(7, .bool true), (8, .pointer (some ⟨g8, 0, none⟩)), (9, .int .i64 f0), (10, .int .i64 t0)] ∧ h6 = hh ∧ ms' = [] ∧ f0 < Z.dims.length ∧ t0 < Z.dims.length) ?_ (fun s h ms hI => ?_)
 ·refine ws_draw 13 fol (by kernel_rfl) rfl (wr_x (ox_move rfl rfl) rfl rfl (wr_x (ox_conv rfl underlying5 underlying3 rfl (wrap_i64 (by omega))) rfl rfl (wr_x (ox_fieldF fd30_1 rfl rfl) rfl rfl (wr_x (ox_load rfl underlying24 rfl rfl (hA _ _ rfl _)) rfl rfl (wr_x (ox_lenR hRZ.d.rd.any rfl underlying24 rfl) rfl rfl (wr_x (ox_remP rfl rfl rfl (by omega) (by omega)) rfl rfl (wr_x (ox_move rfl rfl) rfl rfl (wr_x (ox_conv rfl underlying5 underlying3 rfl (wrap_i64 (by omega))) rfl rfl (wr_x (ox_fieldF fd30_1 rfl rfl) rfl rfl (wr_x (ox_load rfl underlying24 rfl rfl (hA _ _ rfl _)) rfl rfl (wr_x (ox_lenR hRZ.d.rd.any rfl underlying24 rfl) rfl rfl (wr_x (ox_remP rfl rfl rfl (by omega) (by omega)) rfl rfl (wr_x (ox_assign rfl rfl) rfl rfl (wr_nil (Qm rfl (wl_nil ?_))))))))))))))))
  exact nx_meet _ ⟨(a % (Z.dims.length : Int)).toNat, (b % (Z.dims.length : Int)).toNat, rfl, rfl, rfl, hq1.2, hq2.2⟩ (by rw [← hq1.1, ← hq2.1]; exact Qs)
 ·obtain ⟨f0, t0, rfl, rfl, rfl, hf0, ht0⟩ := hI
  refine ws_cut (fun sl hh ms' => ∃ f t : Nat, sl = [(7, .bool true), (8, .pointer (some ⟨g8, 0, none⟩)), (9, .int .i64 f), (10, .int .i64 t)] ∧ h6 = hh ∧ ms' = [] ∧ f ≤ t ∧ t < Z.dims.length) ?_ (fun s h ms hI => ?_)
  ·refine ws_seq (ws_region (Qm rfl (Qm rfl (Qx (ox_gtr rfl rfl rfl) rfl (RnQ ?_)))))
   refine ws_if rfl (fun hgt => ?_) (fun hgt => ?_)
   ·refine ws_region (Qm rfl (Qm rfl (Qm rfl (Qm rfl (wl_nil ?_)))))
    exact nx_meet _ ⟨t0, f0, rfl, rfl, rfl, by omega, hf0⟩ Qs
   ·refine ws_skip ?_
    exact nx_meet _ ⟨f0, t0, rfl, rfl, rfl, by omega, ht0⟩ Qs
  ·obtain ⟨f, t, rfl, rfl, rfl, hft, htl⟩ := hI
   have hw : t + 1 - f ≤ 100 := by omega
   refine RsQ (Qm rfl (RnQ (ws_seq (RsQ (Qm rfl (RnQ (ws_block (ws_emp ?_))))))))
   refine ws_loop (fun q sl hh ms' => ∃ (i : Nat) (vo : Value) (mo : Hp), q = t + 1 - f - i ∧ sl = [(7, .bool true), (8, .pointer (some ⟨g8, 0, none⟩)), (9, .int .i64 f), (10, .int .i64 t), (11, vo), (12, .int .i64 i)] ∧ h6.le hh ∧ ms' = [mo] ∧ i ≤ t + 1 - f ∧ OwnL cIv 3 37 mo vo (ivs (Z.pct f t) (allK (Z.pct f t) (t + 1 - f) i)))
    (t + 1 - f - 0) _ ⟨0, _, _, rfl, rfl, Hp.le_refl _, rfl, by omega, OwnL.nil cIv_len⟩ Qs ?_
   rintro q sl hh ms' ⟨i, vo, mo, rfl, rfl, lh, rfl, hi, hO⟩
   refine ws_seq (RsQ (Qm rfl (Qm rfl (Qm rfl (Qx (ox_sub rfl rfl rfl (by omega)) rfl (Qx (ox_leq rfl rfl rfl) rfl (RnQ ?_)))))))
   refine ws_if rfl (fun hlt => ?_) (fun hlt => ?_)
   ·have hil : i < t + 1 - f := by omega
    have hal := allK_len (Z.pct f t) (t + 1 - f) i
    have hal2 : (t + 1 - f) * i ≤ 100 * 100 := Nat.mul_le_mul hw (by omega)
    refine ws_skip (nx_then ?_)
    refine ws_cut (fun sl h7 ms' => ∃ (vo : Value) (mo : Hp), sl = [(7, .bool true), (8, .pointer (some ⟨g8, 0, none⟩)), (9, .int .i64 f), (10, .int .i64 t), (11, vo), (12, .int .i64 i)] ∧ hh.le h7 ∧ ms' = [mo] ∧ OwnL cIv 3 37 mo vo (ivs (Z.pct f t) (allK (Z.pct f t) (t + 1 - f) (i + 1)))) ?_ (fun s h ms hI => ?_)
    ·refine ws_block (RsQ (Qm rfl (Qm rfl (RnQ (ws_block ?_)))))
     refine ws_loop (fun q sl h7 ms' => ∃ (u : Nat) (vo : Value) (mo : Hp), q = t + 1 - f - i - u ∧ sl = [(7, .bool true), (8, .pointer (some ⟨g8, 0, none⟩)), (9, .int .i64 f), (10, .int .i64 t), (11, vo), (12, .int .i64 i), (13, .int .i64 ((i + u : Nat) : Int))] ∧ hh.le h7 ∧ ms' = [mo] ∧ u ≤ t + 1 - f - i ∧ OwnL cIv 3 37 mo vo (ivs (Z.pct f t) (allK (Z.pct f t) (t + 1 - f) i ++ rowK (Z.pct f t) i u)))
      (t + 1 - f - i - 0) _ ⟨0, _, _, rfl, rfl, Hp.le_refl _, rfl, by omega, by rw [show rowK (Z.pct f t) i 0 = [] by simp [rowK], List.append_nil]; exact hO⟩ Qs ?_
     rintro q sl h7 ms' ⟨u, vo, mo, rfl, rfl, lh7, rfl, hu, hO⟩
     have hrl := rowK_len (Z.pct f t) i u
     have hivl : (ivs (Z.pct f t) (allK (Z.pct f t) (t + 1 - f) i ++ rowK (Z.pct f t) i u)).length ≤ 20000 := by unfold ivs; rw [List.length_map, List.length_append]; omega
     refine ws_seq (RsQ (Qm rfl (Qm rfl (Qm rfl (Qx (ox_sub rfl rfl rfl (by omega)) rfl (Qx (ox_leq rfl rfl rfl) rfl (RnQ ?_)))))))
     refine ws_if rfl (fun hlt2 => ?_) (fun hlt2 => ?_)
     ·have hul : i + u < t + 1 - f := by omega
      have hRZ7 := hRZ.up (Hp.le_trans lh lh7)
      have hS7 := hS8.le (Hp.le_trans lh lh7)
      refine ws_skip (nx_then ?_)
      refine ws_cut (fun sl h8 ms' => ∃ (vo : Value) (mo : Hp), sl = [(7, .bool true), (8, .pointer (some ⟨g8, 0, none⟩)), (9, .int .i64 f), (10, .int .i64 t), (11, vo), (12, .int .i64 i), (13, .int .i64 ((i + u : Nat) : Int))] ∧ h7.le h8 ∧ ms' = [mo] ∧ OwnL cIv 3 37 mo vo (ivs (Z.pct f t) (allK (Z.pct f t) (t + 1 - f) i ++ rowK (Z.pct f t) i (u + 1)))) ?_ (fun s h ms hI => ?_)
      ·refine ws_block (RsQ (Qm rfl (RnQ (ws_seq (RsQ (Qx (ox_loadG rfl underlying30 rfl el30 rfl rfl (Seg.any hS7)) rfl (wl_call rfl call17 rfl (bars_ok Z vdo vao h7 hRt.ok hRZ7) rfl rfl rfl (fun rb h8 ms8 l8 hF => ?_))))))))
       obtain ⟨l8', bl, mb, lst, rfl, hOb, hlb, hSp, hBs⟩ := hF
       obtain ⟨hb1, hb2⟩ := bars_small hlb hBs
       have hIB := bars_is hSp hBs
       refine wl_freezeL hOb fun h9 l9 hRb => ?_
       have l79 := Hp.le_trans l8 l9
       refine Qx (ox_lenR hRb.rd.any rfl underlying33 rfl) rfl (Qm rfl (RnQ (ws_block ?_)))
       refine ws_loop (fun q sl h10 ms' => ∃ (k : Nat) (v : Int), q = bl.length - k ∧ sl = [(7, .bool true), (8, .pointer (some ⟨g8, 0, none⟩)), (9, .int .i64 f), (10, .int .i64 t), (11, vo), (12, .int .i64 i), (13, .int .i64 ((i + u : Nat) : Int)), (14, .int .i64 v), (53, rb), (54, .int .i64 bl.length), (55, .int .i64 k)] ∧ h9 = h10 ∧ ms' = [mo] ∧ k ≤ bl.length ∧ v = sumI (inP f t i (i + u)) (bl.take k))
        (bl.length - 0) _ ⟨0, 0, rfl, rfl, rfl, rfl, by omega, rfl⟩ Qs ?_
       rintro q sl h10 ms' ⟨k, v, rfl, rfl, rfl, rfl, hk, hv⟩
       refine RsQ (Qx (ox_lss rfl rfl rfl) rfl (RnQ (ws_seq ?_)))
       refine ws_if rfl (fun hlt3 => ?_) (fun hlt3 => ?_)
       ·have hkl : k < bl.length := nat_lt_of hlt3
        have hstep := sumI_take (inP f t i (i + u)) hkl
        rw [← hv] at hstep
        have hyb := hb2 _ (List.getElem_mem hkl)
        have hsb := sumI_bd (inP f t i (i + u)) (bl.take k) fun y hy => hb2 y (List.mem_of_mem_take hy)
        rw [← hv, List.length_take] at hsb
        have hseg : ∀ ms, Seg h9 ms ((vbase rb).add (k * 3)) (cIv bl[k]) := fun ms => (hRb.any (ms := ms)).seg hkl
        refine ws_skip (nx_then ?_)
        refine ws_cut (fun sl h10 ms' => ∃ v' : Int, sl = [(7, .bool true), (8, .pointer (some ⟨g8, 0, none⟩)), (9, .int .i64 f), (10, .int .i64 t), (11, vo), (12, .int .i64 i), (13, .int .i64 ((i + u : Nat) : Int)), (14, .int .i64 v'), (53, rb), (54, .int .i64 bl.length), (55, .int .i64 k)] ∧ h9 = h10 ∧ ms' = [mo] ∧ v' = sumI (inP f t i (i + u)) (bl.take (k + 1))) ?_ (fun s h ms hI => ?_)
        ·refine ws_block (RsQ (Qx (ox_indexR (k) hRb.rd.any rfl underlying33 el37 rfl rfl (by omega) (by omega)) rfl (Qx (ox_loadG rfl underlying37 rfl el37 rfl rfl (hseg _)) rfl (AlQ [.int .i64 0, .int .i64 0, .int .i64 0] rfl el37 rfl rfl (fun g16 => ?_)))))
         refine wl_storeAll 0 [_, _, _] rfl el37 rfl rfl rfl (by (simp [Value.oneCell']; done)) rfl rfl rfl rfl rfl ?_
         refine RtQ (Qx (ox_fieldF fd37_0 rfl rfl) rfl (Qx (ox_load rfl underlying3 rfl rfl (Cell.blk 0 rfl rfl)) rfl (Qm rfl (Qx (ox_max rfl rfl rfl) rfl (Qm rfl (Qm rfl (Qx (ox_add rfl rfl rfl (by omega)) rfl (Qx (ox_eqi rfl rfl rfl) rfl (Qm rfl ?_)))))))))
         refine wl_split (t := 67) rfl (fun p1 => ?_) (fun p1 => ?_)
         ·refine Qg (ox_fieldF fd37_1 rfl rfl) rfl (Qg (ox_load rfl underlying3 rfl rfl (Cell.blk 0 rfl rfl)) rfl (Qg (ox_move rfl rfl) rfl (Qg (ox_min rfl rfl rfl) rfl (Qg (ox_move rfl rfl) rfl (Qg (ox_move rfl rfl) rfl (Qg (ox_add rfl rfl rfl (by omega)) rfl (Qg (ox_eqi rfl rfl rfl) rfl (Qx (ox_pick_t rfl rfl rfl) rfl (Qm rfl ?_)))))))))
          refine wl_split (t := 77) rfl (fun p2 => ?_) (fun p2 => ?_)
          ·refine Qg (ox_fieldF fd37_0 rfl rfl) rfl (Qg (ox_load rfl underlying3 rfl rfl (Cell.blk 0 rfl rfl)) rfl (Qg (ox_move rfl rfl) rfl (Qg (ox_leq rfl rfl rfl) rfl (Qx (ox_pick_t rfl rfl rfl) rfl (Qm rfl ?_)))))
           refine wl_split (t := 83) rfl (fun p3 => ?_) (fun p3 => ?_)
           ·refine Qg (ox_fieldF fd37_1 rfl rfl) rfl (Qg (ox_load rfl underlying3 rfl rfl (Cell.blk 0 rfl rfl)) rfl (Qg (ox_move rfl rfl) rfl (Qg (ox_geq rfl rfl rfl) rfl (Qx (ox_pick_t rfl rfl rfl) rfl (RnQ ?_)))))
            refine ws_if rfl (fun p4 => ?_) (fun p4 => ?_)
            ·have hin : inP f t i (i + u) (bl[k].fr, bl[k].to) = true := decide_eq_true ⟨p1, p2, p3, p4⟩
             rw [if_pos hin] at hstep
             refine ws_region (Qm rfl (Qx (ox_fieldF fd37_2 rfl rfl) rfl (Qx (ox_load rfl underlying3 rfl rfl (Cell.blk 0 rfl rfl)) rfl (Qx (ox_add rfl rfl rfl (by omega)) rfl (Qm rfl (wl_nil (nx_block (nx_drop ?_))))))))
             exact nx_meet _ ⟨v + bl[k].n, rfl, rfl, rfl, hstep.symm⟩ Qs
            ·rw [if_neg (fun e => p4 (of_decide_eq_true e).2.2.2)] at hstep
             refine ws_skip (nx_block (nx_drop ?_))
             exact nx_meet _ ⟨v, rfl, rfl, rfl, by omega⟩ Qs
           ·rw [if_neg (fun e => p3 (of_decide_eq_true e).2.2.1)] at hstep
            refine Qk rfl (Qk rfl (Qk rfl (Qk rfl (Qx (ox_pick_f rfl rfl rfl) rfl (RnQ (ws_cond_f rfl (ws_skip (nx_block (nx_drop ?_)))))))))
            exact nx_meet _ ⟨v, rfl, rfl, rfl, by omega⟩ Qs
          ·rw [if_neg (fun e => p2 (of_decide_eq_true e).2.1)] at hstep
           refine Qk rfl (Qk rfl (Qk rfl (Qk rfl (Qx (ox_pick_f rfl rfl rfl) rfl (Qm rfl (Qk rfl (Qk rfl (Qk rfl (Qk rfl (Qx (ox_pick_f rfl rfl rfl) rfl (RnQ (ws_cond_f rfl (ws_skip (nx_block (nx_drop ?_)))))))))))))))
           exact nx_meet _ ⟨v, rfl, rfl, rfl, by omega⟩ Qs
         ·rw [if_neg (fun e => p1 (of_decide_eq_true e).1)] at hstep
          refine Qk rfl (Qk rfl (Qk rfl (Qk rfl (Qk rfl (Qk rfl (Qk rfl (Qk rfl (Qx (ox_pick_f rfl rfl rfl) rfl (Qm rfl (Qk rfl (Qk rfl (Qk rfl (Qk rfl (Qx (ox_pick_f rfl rfl rfl) rfl (Qm rfl (Qk rfl (Qk rfl (Qk rfl (Qk rfl (Qx (ox_pick_f rfl rfl rfl) rfl (RnQ (ws_cond_f rfl (ws_skip (nx_block (nx_drop ?_)))))))))))))))))))))))))
          exact nx_meet _ ⟨v, rfl, rfl, rfl, by omega⟩ Qs
        ·obtain ⟨v', rfl, rfl, rfl, hv'⟩ := hI
         refine ws_region (Qx (ox_add rfl rfl rfl (by omega)) rfl (Qm rfl (wl_nil ?_)))
         exact nx_round (bl.length - (k + 1)) _ (by omega) ⟨k + 1, v', rfl, rfl, rfl, rfl, by omega, hv'⟩ Qs
       ·obtain rfl : k = bl.length := by omega
        rw [List.take_length, sum_pct hRt hIB hft htl] at hv
        refine ws_exit (nx_then_exit (nx_then_exit (nx_block_exit (nx_then (RsQ (Qm rfl (Qx (ox_gtr rfl rfl rfl) rfl (RnQ ?_))))))))
        refine ws_if rfl (fun hpos => ?_) (fun hpos => ?_)
        ·have hp : 0 < Z.pct f t ((i : Int), ((i + u : Nat) : Int)) := by omega
         subst hv
         refine ws_region (Qm rfl (Qm rfl (Qm rfl (Qm rfl ?_))))
         refine Qx (ox_buildS st37 [.int .i64 0, .int .i64 0, .int .i64 0] [(0, _), (1, _), (2, _)] [_, _, _] rfl el37 rfl rfl (by repeat (first | exact trivial | refine ⟨⟨rfl, rfl, rfl⟩, ?_⟩)) rfl) rfl ?_
         refine wl_buildSlice1 [_, _, _] rfl underlying33 el37 rfl (by rfl) rfl rfl (by omega) rfl rfl rfl (fun g101 => ?_)
         refine wl_appendL 1 hO (RdL.one cIv_len (x := ⟨i, ((i + u : Nat) : Int), (Z.pct f t ((i : Int), ((i + u : Nat) : Int)) : Nat)⟩) (List.Mem.head _) rfl) rfl underlying33 el37 rfl (by omega) rfl rfl rfl cIv_one (by simp only [List.length_singleton]; omega) (by simp only [List.length_singleton]; omega) rfl rfl rfl (fun vo2 mo2 hO2 => ?_)
         refine Qm rfl (wl_nil (nx_block (nx_drop ?_)))
         exact nx_meet _ ⟨vo2, mo2, rfl, l79, rfl, by rw [rowK_succ, ← List.append_assoc, ivs_app, show cellK (Z.pct f t) i (i + u) = [((i : Int), ((i + u : Nat) : Int))] from if_pos hp]; exact hO2⟩ Qs
        ·have hp : ¬ 0 < Z.pct f t ((i : Int), ((i + u : Nat) : Int)) := by omega
         refine ws_skip (nx_block ?_)
         exact nx_meet _ ⟨vo, mo, rfl, l79, rfl, by rw [rowK_succ, show cellK (Z.pct f t) i (i + u) = [] from if_neg hp, List.append_nil]; exact hO⟩ Qs
      ·obtain ⟨vo2, mo2, rfl, l8, rfl, hO2⟩ := hI
       refine ws_region (Qm rfl (Qx (ox_add rfl rfl rfl (by omega)) rfl (Qm rfl (wl_nil ?_))))
       exact nx_round (t + 1 - f - i - (u + 1)) _ (by omega) ⟨u + 1, vo2, mo2, rfl, rfl, Hp.le_trans lh7 l8, rfl, by omega, hO2⟩ Qs
     ·obtain rfl : u = t + 1 - f - i := by omega
      refine ws_exit (nx_then_exit (nx_then_exit (nx_block_exit (nx_block ?_))))
      exact nx_meet _ ⟨vo, mo, rfl, lh7, rfl, by rw [allK_succ]; exact hO⟩ Qs
    ·obtain ⟨vo2, mo2, rfl, l8, rfl, hO2⟩ := hI
     refine ws_region (Qm rfl (Qx (ox_add rfl rfl rfl (by omega)) rfl (Qm rfl (wl_nil ?_))))
     exact nx_round (t + 1 - f - (i + 1)) _ (by omega) ⟨i + 1, vo2, mo2, rfl, rfl, Hp.le_trans lh l8, rfl, by omega, hO2⟩ Qs
   ·obtain rfl : i = t + 1 - f := by omega
    refine ws_freezeL hO fun h7 l7 hRw => ?_
    have l67 := Hp.le_trans lh l7
    have hRZ7 := hRZ.up l67
    have hWb := allK_bars (Z.pct f t) (t + 1 - f) (pct_bd hft htl)
    refine ws_exit (nx_then_exit (nx_then_exit (nx_block_exit (nx_then (RsQ (Qm rfl (Qm rfl (Qg (ox_loadG rfl underlying30 rfl el30 rfl rfl (Seg.any (hS8.le l67))) rfl (Qg (ox_move rfl rfl) rfl (Qg (ox_move rfl rfl) rfl (wl_yes rfl rfl rfl rfl (wl_call rfl call19 rfl (part_ok' Z vdo vao f t h7 hRt hRZ7 hft htl) rfl rfl rfl (fun rp h8 ms8 l8 hF => ?_)))))))))))))
    obtain ⟨l8', rfl, vd', va', rfl, hRP⟩ := hF
    refine wl_yes rfl rfl rfl rfl (wl_call rfl call17 rfl (bars_ok (Z.cut f t) vd' va' h8 (Zz.cut_rt hRt hft htl).ok hRP) rfl rfl rfl (fun rb h9 ms9 l9 hF => ?_))
    obtain ⟨l9', bl, mb, lst, rfl, hOb, hlb, hSp, hBs⟩ := hF
    refine wl_freezeL hOb fun h10 l10 hRb => ?_
    have hIB := bars_is hSp hBs
    have hRtc := Zz.cut_rt hRt hft htl
    have heq : bl = ivs (Z.pct f t) (allK (Z.pct f t) (t + 1 - f) (t + 1 - f)) := by
     obtain ⟨D, V, hb'⟩ := hIB.2 hRtc
     exact bars_uniq hb' hWb fun a => (pct_of hRt hft htl V a).symm
    refine Qg (ox_move rfl rfl) rfl (Qg (ox_call rfl call16 rfl (same_t hRb (hRw.up (Hp.le_trans l8 (Hp.le_trans l9 l10))) heq _)) rfl (Qx (ox_pick_t rfl rfl rfl) rfl (Qm rfl (RnQ (ws_ret ?_)))))
    exact nx_ret1 rfl rfl (rfl)
end Go.Proofs.YtdnelknieikbaaaGreat
namespace Go.Eng
open Go.RowKit Go.ChangeShapes Go.WideShapes Go.Deep
def whole (w : World) : Hp := fun g => w.heap[g]?
theorem St.whole (w : World) : St w (whole w) [] := ⟨fun _ _ h => h, by simp, by simp, List.Pairwise.nil⟩
theorem Cell.ofW {w : World} {ms : List Hp} {a : Addr} {v : Value} (h : w.cell? a = some v) : Cell (whole w) ms a v := by
  unfold World.cell? at h
  split at h
  · rename_i c el fr hb
    split at h
    · cases h
    · rename_i hs
      exact ⟨by simpa using hs, c, el, fr, .inl hb, h⟩
  · cases h
theorem exists_list {α : Type} {Q : Nat → α → Prop} : ∀ n, (∀ i, i < n → ∃ a, Q i a) → ∃ l : List α, l.length = n ∧ ∀ i (hi : i < l.length), Q i l[i]
  | 0, _ => ⟨[], rfl, fun i hi => by simp at hi⟩
  | n + 1, h => by
    obtain ⟨l, hl, hq⟩ := exists_list n fun i hi => h i (by omega)
    obtain ⟨a, ha⟩ := h n (by omega)
    refine ⟨l ++ [a], by simp [hl], fun i hi => ?_⟩
    rw [List.getElem_append]
    split
    · exact hq i (by assumption)
    · have : i = n := by simp at hi; omega
      subst this; simpa using ha
section
variable {H : Type} {enc : TypeId × Value → H} {P : Program} {w : World} {base : Nat} {spare : Nat → Bool} {held : Bool}
theorem open_rdl {α : Type} {F : α → List Value} {Ok : α → Prop} {sz : Nat} {t e : TypeId} {fuel : Nat} {v : Value} {x : DataW H × List MemPlace} (ht : P.underlying t = some (.slice e)) (hC : P.cellsOf e = sz) (hF : ∀ x, (F x).length = sz) (hsz : 0 < sz)
    (hel : ∀ n cs y, DataW.trod enc P w base spare held n e cs = some y → ∃ a, cs = F a ∧ Ok a) (h : DataW.trod enc P w base spare held fuel t [v] = some x) : ∃ l, RdL F sz (whole w) [] v l ∧ ∀ a ∈ l, Ok a := by
  rcases open_slice ht h with ⟨h0, _⟩ | ⟨a, len, cap, m, n, D, Pl, hcs, hb, hl, hm, hmm, hx, hi⟩
  · simp only [List.cons.injEq, and_true] at h0
    subst h0
    exact ⟨[], ⟨⟨none, 0, rfl, by simp, by omega, by simp, fun h => by simp at h⟩, hF⟩, by simp⟩
  · simp only [List.cons.injEq, and_true] at hcs
    subst hcs
    rw [hC] at hi
    have hlm : len ≤ m := by rw [hmm]; split <;> omega
    obtain ⟨l, hll, hq⟩ := exists_list (α := α) (Q := fun i b => w.cells? base (a.add (i * sz)) sz = some (F b) ∧ Ok b) len fun i hi' => by
      obtain ⟨cs, h1, h2⟩ := hi i (by omega)
      obtain ⟨b, rfl, h3⟩ := hel n cs _ h2
      exact ⟨b, h1, h3⟩
    refine ⟨l, ⟨⟨some a, cap, by rw [hll], by omega, by unfold maxLen at hm; omega, flatMap_len hF l, fun _ => ⟨a, rfl, fun j u hj => ?_⟩⟩, hF⟩, fun b hb => ?_⟩
    · have hjl := (List.getElem?_eq_some_iff.1 hj).1
      rw [flatMap_len hF l] at hjl
      have h1 : j / sz < l.length := Nat.div_lt_of_lt_mul (by rw [Nat.mul_comm]; exact hjl)
      have h2 : j % sz < sz := Nat.mod_lt _ hsz
      have h3 : j / sz * sz + j % sz = j := by rw [Nat.mul_comm]; exact Nat.div_add_mod j sz
      have h4 := flatMap_get hF l (j / sz) h1 (j % sz) ((F l[j / sz])[j % sz]'(by rw [hF]; exact h2)) (List.getElem?_eq_getElem _)
      rw [h3, hj] at h4
      have h5 := Option.some.inj h4
      obtain ⟨_, _, hat⟩ := World.cells?_some (hq (j / sz) h1).1
      have h6 := hat (j % sz) h2
      rw [addr_add_add, h3] at h6
      refine Cell.ofW (h6.trans ?_)
      rw [List.getElem?_eq_getElem (by rw [hF]; exact h2), ← h5]
    · obtain ⟨i, hi', rfl⟩ := List.getElem_of_mem hb
      exact (hq i hi').2
end
end Go.Eng
namespace Go.Proofs.YtdnelknieikbaaaGreat
open Go.Eng Go.ChangeShapes Go.WideShapes Go.ChangeAt Go.RowKit Go.Deep
theorem own : ownKnob Tryz.prog.godebug = none := by kernel_rfl
theorem bel_of {w w' : World} (E : Ext w w') : Below w.heap.size w w' := ⟨E.os, E.tape.tape, E.output, E.size, E.block⟩
theorem laidOut : laidOutB Tryz.prog = true := by kernel_rfl
section
variable {H : Type} {enc : TypeId × Value → H} {w : World} {base : Nat} {spare : Nat → Bool} {held : Bool}
theorem trod_struct5 {P : Program} {t : TypeId} {f0 f1 f2 f3 f4 : Field} {fuel : Nat} {cs : List Value} {x : DataW H × List MemPlace} (ht : P.underlying t = some (.struct #[f0, f1, f2, f3, f4])) (h : DataW.trod enc P w base spare held fuel t cs = some x) :
  ∃ y0 y1 y2 y3 y4 n, cs.length = P.cellsOf t ∧ DataW.trod enc P w base spare held n f0.type ((cs.drop f0.offset).take (P.cellsOf f0.type)) = some y0 ∧
   DataW.trod enc P w base spare held n f1.type ((cs.drop f1.offset).take (P.cellsOf f1.type)) = some y1 ∧ DataW.trod enc P w base spare held n f2.type ((cs.drop f2.offset).take (P.cellsOf f2.type)) = some y2 ∧
   DataW.trod enc P w base spare held n f3.type ((cs.drop f3.offset).take (P.cellsOf f3.type)) = some y3 ∧ DataW.trod enc P w base spare held n f4.type ((cs.drop f4.offset).take (P.cellsOf f4.type)) = some y4 := by
 obtain ⟨xs, n, _, rfl, hl, hlen, hf⟩ := DataW.trod_struct ht h
 match xs, hlen with
 | [y0, y1, y2, y3, y4], _ => exact ⟨y0, y1, y2, y3, y4, n, hl, by simpa using hf 0 f0 rfl, by simpa using hf 1 f1 rfl, by simpa using hf 2 f2 rfl, by simpa using hf 3 f3 rfl, by simpa using hf 4 f4 rfl⟩
theorem open_int1 (n : Nat) (cs : List Value) (y : DataW H × List MemPlace) (h : DataW.trod enc Tryz.prog w base spare held n 3 cs = some y) : ∃ a, cs = cI a ∧ I64 a := by
 obtain ⟨b, h1, _, h2⟩ := DataW.trod_int Tryz.underlying3 h
 exact ⟨b, h1, bounds_i64 h2⟩
theorem open_byte1 (n : Nat) (cs : List Value) (y : DataW H × List MemPlace) (h : DataW.trod enc Tryz.prog w base spare held n 5 cs = some y) : ∃ a, cs = cB a ∧ a < 256 := by
 obtain ⟨b, h1, _, h2⟩ := DataW.trod_int Tryz.underlying5 h
 have := bounds_u8 h2
 refine ⟨b.toNat, ?_, by omega⟩
 unfold cB
 rw [h1, Int.toNat_of_nonneg this.1]
theorem open_is {v : Value} {fuel : Nat} {x : DataW H × List MemPlace} (h : DataW.trod enc Tryz.prog w base spare held fuel 24 [v] = some x) : ∃ l, RdL cI 1 (whole w) [] v l ∧ ∀ a ∈ l, I64 a :=
 open_rdl Tryz.underlying24 (by kernel_rfl) cI_len (by decide) open_int1 h
theorem open_bs {v : Value} {fuel : Nat} {x : DataW H × List MemPlace} (h : DataW.trod enc Tryz.prog w base spare held fuel 22 [v] = some x) : ∃ l, RdL cB 1 (whole w) [] v l ∧ ∀ a ∈ l, a < 256 :=
 open_rdl Tryz.underlying22 (by kernel_rfl) cB_len (by decide) open_byte1 h
theorem open_plan {v : Value} {r : Reach} {b0 : Nat} {d : DataW H} {ps : List MemPlace} (hval : Value.okWide Tryz.prog w r b0 26 v) (h : DataW.Trod enc Tryz.prog w base spare held 26 v d ps) : ∃ (x : Pl) (vd vs : Value), v = .agg #[.int .u8 x.p, vd, .int .u16 x.back, vs, .bool x.thin] ∧ RdP (whole w) vd vs x ∧ x.Ok := by
 obtain ⟨cs, rfl, hc⟩ := okWide_struct Tryz.underlying26 hval
 obtain ⟨fuel, hf⟩ := h
 obtain ⟨y0, y1, y2, y3, y4, n, h0, h1, h2, h3, h4, h5⟩ := trod_struct5 Tryz.underlying26 hf
 have hc5 : cs.size = 5 := hc.trans (by kernel_rfl)
 obtain ⟨l⟩ := cs
 match l, hc5 with
 | [c0, c1, c2, c3, c4], _ =>
  have h1 : DataW.trod enc Tryz.prog w base spare held n 5 [c0] = some y0 := h1
  have h2 : DataW.trod enc Tryz.prog w base spare held n 22 [c1] = some y1 := h2
  have h3 : DataW.trod enc Tryz.prog w base spare held n 23 [c2] = some y2 := h3
  have h4 : DataW.trod enc Tryz.prog w base spare held n 24 [c3] = some y3 := h4
  have h5 : DataW.trod enc Tryz.prog w base spare held n 4 [c4] = some y4 := h5
  obtain ⟨p, e0, w0⟩ := open_byte1 n _ _ h1
  obtain ⟨ds, Rd, wd⟩ := open_bs h2
  obtain ⟨b, e2, _, w2⟩ := DataW.trod_int Tryz.underlying23 h3
  obtain ⟨sd, Rs, ws⟩ := open_is h4
  obtain ⟨th, e4, _⟩ := DataW.trod_bool Tryz.underlying4 h5
  have hb := bounds_u16 w2
  simp only [cB, List.cons.injEq, and_true] at e0 e2 e4
  subst e0 e2 e4
  refine ⟨⟨p, ds, b.toNat, sd, th⟩, c1, c3, ?_, ⟨Rd, Rs⟩, w0, wd, ?_, ws, Rs.len_le⟩
  ·show Value.agg #[.int .u8 p, c1, .int .u16 b, c3, .bool th] = Value.agg #[.int .u8 p, c1, .int .u16 ((b.toNat : Nat) : Int), c3, .bool th]
   rw [Int.toNat_of_nonneg hb.1]
  ·show b.toNat < 65536
   omega
end
end Go.Proofs.YtdnelknieikbaaaGreat
