/- Parts of the proof: Zo Lh Zp Zq Zr Yf Zs Zt Zu Zv Zw Zx Zy Zz Ya Yb Yc. -/
import Derived.Test.YtdnelknieikbaaaGreatTD
set_option linter.unusedSimpArgs false
set_option linter.unusedVariables false
set_option maxRecDepth 100000
namespace Go.Proofs.YtdnelknieikbaaaGreat
open Tryz
open Go.Eng Go.RowKit Go.Lin
theorem pv_cell {h : Hp} {ms : List Hp} {m2 : Hp} {vp : Value} {pv : List Nat} (O : OwnL cI 1 3 m2 vp (pvI pv)) (hm : m2 ∈ ms) {k : Nat} (hk : k < pv.length) : Cell h ms ((vbase vp).add (k * 1)) (.int .i64 ((pv.getD k 0 : Nat) : Int)) := by
 have hl : k < (pvI pv).length := by rw [pvI_len]; exact hk
 have := (O.rd (h := h) hm).cell0 hl (u := .int .i64 (pvI pv)[k]) rfl
 have e : (pvI pv)[k] = ((pv.getD k 0 : Nat) : Int) := by simp [pvI, List.getD_eq_getElem?_getD, hk]
 rw [e] at this
 exact this
theorem pv_getD {pv : List Nat} {k : Nat} (hk : k < pv.length) : pv.getD k 0 = pv[k] := by simp [List.getD_eq_getElem?_getD, hk]
def imgf (pv : List Nat) (f : Nat → Nat → Int) (a b : Nat) : Int := f a (pv.getD b 0)
def imgp (pv : List Nat) (f : Nat → Nat → Int) (i k a b : Nat) : Int := if a < i ∨ (a = i ∧ b < k) then imgf pv f a b else 0
theorem imgp_step (pv : List Nat) (f : Nat → Nat → Int) (i k a b : Nat) : upd2 (imgp pv f i k) i k (f i (pv.getD k 0)) a b = imgp pv f i (k + 1) a b := by
 unfold upd2 imgp
 by_cases h : a = i ∧ b = k
 ·obtain ⟨rfl, rfl⟩ := h
  rw [if_pos ⟨rfl, rfl⟩, if_pos (by omega)]; rfl
 ·rw [if_neg h]
  by_cases h2 : a < i ∨ (a = i ∧ b < k)
  ·rw [if_pos h2, if_pos (by omega)]
  ·rw [if_neg h2, if_neg (by omega)]
theorem imgp_row (pv : List Nat) (f : Nat → Nat → Int) (i n a b : Nat) (hb : b < n) : imgp pv f i n a b = imgp pv f (i + 1) 0 a b := by
 unfold imgp
 by_cases h2 : a < i ∨ (a = i ∧ b < n)
 ·rw [if_pos h2, if_pos (by omega)]
 ·rw [if_neg h2, if_neg (by omega)]
theorem imgp_zero (pv : List Nat) (f : Nat → Nat → Int) (a b : Nat) : imgp pv f 0 0 a b = 0 := if_neg (by omega)
theorem imgp_all (pv : List Nat) (f : Nat → Nat → Int) (r a b : Nat) (ha : a < r) : imgp pv f r 0 a b = imgf pv f a b := if_pos (.inl ha)
theorem image_ok (p : Int) (r c : Nat) (f : Nat → Nat → Int) (ev : Value) (h : Hp) (R : RtM p r c f) (hR : RdL cI 1 h [] ev (mat r c f)) :
  FnT Tryz.prog 133 #[.agg #[.int .i64 p, .int .i64 r, .int .i64 c, ev]] h [] (fun x h' ms' => h.le h' ∧ ∃ (F : Nat → Nat → Int) (pv : List Nat), Ech p r c f F pv ∧ MadeM x ms' (mkM p r pv.length (imgf pv f))) := by
 have hb := R.bd
 have rl := R.rl
 have cl := R.cl
 have o1 := hR.rd.one
 refine fn_enter func133 ntmps133 rfl rfl (fun w0 hw0 => ?_)
 simp only [argS]
 refine RsQ ?_
 refine wl_box [_, _, _, _] rfl rfl (by rfl) rfl rfl rfl (fun g1 => ?_)
 refine wl_freezeB fun h1 l1 hS => ?_
 have hR := hR.up l1
 have hA := Seg.all hS
 have hA0 := hA 0 _ rfl
 refine AlQ [.int .i64 0, .int .i64 0, .int .i64 0, .slice none 0 0] rfl el42 rfl rfl (fun g2 => RtQ (Qx (ox_loadG rfl underlying42 rfl el42 rfl rfl (Seg.any hS)) rfl (wl_call rfl call120 rfl (echelon_ok p r c f ev h1 R hR) rfl rfl rfl (fun x h2 ms1 l2 hF => ?_))))
 obtain ⟨l2, F, pv, eu, vp, m, m2, rfl, rfl, hO, hO2, hE⟩ := hF
 have hR := hR.up l2
 have hA : ∀ i v, ([Value.int .i64 p, .int .i64 r, .int .i64 c, ev] : List Value)[i]? = some v → ∀ ms, Cell h2 ms ((⟨g1, 0, none⟩ : Addr).add i) v := fun i v hv => Seg.all (hS.le l2) i v hv
 have hA0 := hA 0 _ rfl
 have oe : eu.oneCell' = true := (hO.rd (h := h) (ms := [m]) (List.Mem.head _)).rd.one
 have ovp : vp.oneCell' = true := (hO2.rd (h := h) (ms := [m2]) (List.Mem.head _)).rd.one
 have hlen := hE.red.len
 refine Qm rfl (Qx (ox_extract rfl rfl rfl) rfl (Qx (ox_extract rfl rfl rfl) rfl (AlQ [.int .i64 0, .int .i64 0, .int .i64 0, .slice none 0 0] rfl el42 rfl rfl (fun g3 => ?_))))
 refine wl_storeAll 0 [_, _, _, _] rfl el42 rfl rfl rfl (by (simp [oe]; done)) rfl rfl rfl rfl rfl ?_
 refine Qm rfl (RnQ (ws_seq (RsQ (Qx (ox_fieldF fd42_0 rfl rfl) rfl (Qx (ox_load rfl underlying3 rfl rfl (Cell.blk 0 rfl rfl)) rfl (Qx (ox_eqi rfl rfl rfl) rfl (RnQ (ws_if rfl (fun hc => absurd hc (by omega)) (fun hc => ws_skip (nx_then (RsQ (Qx (ox_fieldF fd42_0 rfl rfl) rfl (Qx (ox_load rfl underlying3 rfl rfl (hA0 _)) rfl (Qx (ox_fieldF fd42_1 rfl rfl) rfl (Qx (ox_load rfl underlying3 rfl rfl (hA _ _ rfl _)) rfl (Qm rfl (Qx (ox_lenS (pvI_rd (h := h) (ms := [m2]) hO2 (List.Mem.head _)) rfl underlying24 rfl) rfl (wl_call rfl call106 rfl (zero_ok p r pv.length h2 R.i64) rfl rfl rfl (fun v h3 ms3 l3 hF => ?_)))))))))))))))))))
 obtain ⟨rfl, ew, mz, rfl, rfl, hOz⟩ := hF
 rw [mkZ_nat R.pr rl (by omega)] at hOz ⊢
 have ow : ew.oneCell' = true := (hOz.rd (h := h) (ms := [mz]) (List.Mem.head _)).rd.one
 refine AlQ [.int .i64 0, .int .i64 0, .int .i64 0, .slice none 0 0] rfl el42 rfl rfl (fun g5 => ?_)
 refine wl_storeAll 0 [_, _, _, _] rfl el42 rfl rfl rfl (by (simp [ow]; done)) rfl rfl rfl rfl rfl ?_
 refine RnQ (ws_seq (RsQ (Qx (ox_fieldF fd42_1 rfl rfl) rfl (Qx (ox_load rfl underlying3 rfl rfl (hA _ _ rfl _)) rfl (Qm rfl (RnQ (ws_block ?_)))))))
 refine ws_loop (fun q s hh ms' => ∃ (i : Nat) (mz : Hp), q = r - i ∧ s = [(1, .pointer (some ⟨g1, 0, none⟩)), (2, .pointer (some ⟨g2, 0, none⟩)), (4, vp), (5, .pointer (some ⟨g5, 0, none⟩)), (26, .int .i64 r), (27, .int .i64 i)] ∧ h2 = hh ∧ ms' = [Blk g5 42 [.int .i64 p, .int .i64 r, .int .i64 pv.length, ew], mz, Blk g3 42 [.int .i64 p, .int .i64 r, .int .i64 c, eu], m, m2, Blk g2 42 [.int .i64 0, .int .i64 0, .int .i64 0, .slice none 0 0]] ∧ i ≤ r ∧ OwnL cI 1 3 mz ew (mat r pv.length (imgp pv f i 0)))
  (r - 0) _ ⟨0, mz, rfl, rfl, rfl, rfl, by omega, by rw [mat_congr (fun a _ b _ => imgp_zero pv f a b)]; exact hOz⟩ Qs ?_
 rintro q s hh ms' ⟨i, mz, rfl, rfl, rfl, rfl, hi, hOz⟩
 refine RsQ (Qx (ox_lss rfl rfl rfl) rfl (RnQ (ws_seq ?_)))
 refine ws_if rfl (fun hlt => ?_) (fun hlt => ?_)
 ·have hir : i < r := by omega
  refine ws_skip (nx_then (ws_seq (ws_block (RsQ (Qm rfl (Qm rfl (RtQ (Qm rfl (Qx (ox_lenS (pvI_rd (h := h) (ms := [m2]) hO2 (List.Mem.head _)) rfl underlying24 rfl) rfl (Qm rfl (RnQ (ws_block ?_))))))))))))
  refine ws_loop (fun q s hh ms' => ∃ (k : Nat) (mz : Hp), q = pv.length - k ∧ s = [(1, .pointer (some ⟨g1, 0, none⟩)), (2, .pointer (some ⟨g2, 0, none⟩)), (4, vp), (5, .pointer (some ⟨g5, 0, none⟩)), (6, .int .i64 i), (26, .int .i64 r), (27, .int .i64 i), (30, vp), (31, .int .i64 pv.length), (32, .int .i64 k)] ∧ h2 = hh ∧ ms' = [Blk g5 42 [.int .i64 p, .int .i64 r, .int .i64 pv.length, ew], mz, Blk g3 42 [.int .i64 p, .int .i64 r, .int .i64 c, eu], m, m2, Blk g2 42 [.int .i64 0, .int .i64 0, .int .i64 0, .slice none 0 0]] ∧ k ≤ pv.length ∧ OwnL cI 1 3 mz ew (mat r pv.length (imgp pv f i k)))
   (pv.length - 0) _ ⟨0, mz, rfl, rfl, rfl, rfl, by omega, hOz⟩ Qs ?_
  rintro q s hh ms' ⟨k, mz, rfl, rfl, rfl, rfl, hk, hOz⟩
  refine RsQ (Qx (ox_lss rfl rfl rfl) rfl (RnQ (ws_seq ?_)))
  refine ws_if rfl (fun hlt2 => ?_) (fun hlt2 => ?_)
  ·have hkl : k < pv.length := by omega
   have hpc : pv.getD k 0 < c := by rw [pv_getD hkl]; exact hE.red.lt k hkl
   have hix := ix_lt hir hkl
   have hix2 := ix_lt hir hpc
   have hrc : r * c ≤ 400 * 400 := Nat.mul_le_mul rl cl
   have hrn : r * pv.length ≤ 400 * 400 := Nat.mul_le_mul rl (by omega)
   have el : (mat r c f).length = r * c := mat_len _ _ _
   have el2 : (mat r pv.length (imgp pv f i k)).length = r * pv.length := mat_len _ _ _
   refine ws_skip (nx_then (ws_seq (ws_block (RsQ (Qm rfl (Qx (ox_indexS _ (pvI_rd (h := h) (ms := [m2]) hO2 (List.Mem.head _)) rfl underlying24 el3 rfl rfl rfl (by omega)) rfl ?_))))))
   refine Qx (ox_load rfl underlying3 rfl rfl (pv_cell hO2 (by simp) hkl)) rfl ?_
   refine Qm rfl (Qm rfl (RnQ (ws_draw 18 fol (by kernel_rfl) rfl (wr_x (ox_fieldF fd42_3 rfl rfl) rfl rfl (wr_x (ox_load rfl underlying24 rfl rfl (Cell.blk 0 rfl rfl)) rfl rfl (wr_x (ox_move rfl rfl) rfl rfl (wr_x (ox_move rfl rfl) rfl rfl (wr_x (ox_lenS (pvI_rd (h := h) (ms := [m2]) hO2 (List.Mem.head _)) rfl underlying24 rfl) rfl rfl (wr_x (ox_mul rfl rfl rfl (by omega)) rfl rfl (wr_x (ox_move rfl rfl) rfl rfl (wr_x (ox_add rfl rfl rfl (by omega)) rfl rfl (wr_x (ox_fieldF fd42_3 rfl rfl) rfl rfl (wr_x (ox_load rfl underlying24 rfl rfl (hA _ _ rfl _)) rfl rfl (wr_x (ox_move rfl rfl) rfl rfl (wr_x (ox_fieldF fd42_2 rfl rfl) rfl rfl (wr_x (ox_load rfl underlying3 rfl rfl (hA _ _ rfl _)) rfl rfl (wr_x (ox_mul rfl rfl rfl (by omega)) rfl rfl (wr_x (ox_move rfl rfl) rfl rfl (wr_x (ox_add rfl rfl rfl (by omega)) rfl rfl (wr_x (ox_indexR (i * c + pv.getD k 0) hR.rd.any rfl underlying24 el3 rfl rfl (by omega) (by omega)) rfl rfl (wr_x (ox_load rfl underlying3 rfl rfl (hR.any.ent hir hpc)) rfl rfl (wr_nil (Qx (ox_indexR (i * pv.length + k) (hOz.rd (List.Mem.tail _ (List.Mem.head _))).rd rfl underlying24 el3 rfl rfl (by omega) (by omega)) rfl (wl_storeN 1 (i * pv.length + k) hOz rfl el3 rfl rfl rfl (by omega) rfl rfl (fun m' hO' => wl_nil (nx_block (nx_then (ws_region (Qx (ox_add rfl rfl rfl (by omega)) rfl (Qm rfl (wl_nil ?_)))))))))))))))))))))))))))))))
   refine nx_round (pv.length - (k + 1)) _ (by omega) ⟨k + 1, m', rfl, rfl, rfl, rfl, by omega, ?_⟩ Qs
   rw [mat_set _ hkl, mat_congr (fun a _ b _ => imgp_step pv f i k a b)] at hO'
   exact hO'
  ·refine ws_exit (nx_then_exit (nx_then_exit (nx_block_exit (nx_block (nx_then (ws_region (Qx (ox_add rfl rfl rfl (by omega)) rfl (Qm rfl (wl_nil ?_)))))))))
   refine nx_round (r - (i + 1)) _ (by omega) ⟨i + 1, mz, rfl, rfl, rfl, rfl, by omega, ?_⟩ Qs
   rw [show k = pv.length by omega, mat_congr (fun a _ b hb => imgp_row pv f i pv.length a b hb)] at hOz
   exact hOz
 ·refine ws_exit (nx_then_exit (nx_then_exit (nx_block_exit (nx_then (RsQ (Qx (ox_loadG rfl underlying42 rfl el42 rfl rfl (Seg.blk 0 rfl)) rfl ?_))))))
  refine wl_storeAll 5 [_, _, _, _] rfl el42 rfl rfl rfl (by (simp [ow]; done)) rfl rfl rfl rfl rfl ?_
  refine RnQ (ws_ret (nx_dropAt 4 rfl (nx_dropAt 3 rfl (nx_dropAt 2 rfl (nx_dropAt 0 rfl ?_)))))
  exact nx_retD (vs := [_, _, _, _]) 1 rfl rfl underlying42 rfl el42 rfl rfl (⟨Hp.le_trans l1 l2, F, pv, hE, ew, mz, rfl, rfl, by rw [show i = r by omega, mat_congr (fun a ha b _ => imgp_all pv f r a b ha)] at hOz; exact hOz⟩)
end Go.Proofs.YtdnelknieikbaaaGreat
namespace Go.Lin
variable {pv : List Nat} {j c : Nat}
def frl (pv : List Nat) (j : Nat) : List Nat := (List.range j).filter fun a => !pv.contains a
theorem frl_succ (pv : List Nat) (j : Nat) : frl pv (j + 1) = frl pv j ++ if pv.contains j then [] else [j] := by
  unfold frl
  rw [List.range_succ, List.filter_append]
  congr 1
  cases h : pv.contains j <;> rw [List.filter_cons, h] <;> rfl
theorem frl_no (h : pv.contains j = true) : frl pv (j + 1) = frl pv j := by rw [frl_succ, if_pos h, List.append_nil]
theorem frl_yes (h : pv.contains j = false) : frl pv (j + 1) = frl pv j ++ [j] := by rw [frl_succ, h]; rfl
theorem frl_len (pv : List Nat) : ∀ j, (frl pv (j + 1)).length = (frl pv j).length + if pv.contains j then 0 else 1 := fun j => by
  rw [frl_succ, List.length_append]; split <;> simp
theorem frl_pre (pv : List Nat) (j : Nat) : ∀ c, j ≤ c → ∃ l, frl pv c = frl pv j ++ l
  | 0, h => ⟨[], by rw [show j = 0 by omega, List.append_nil]⟩
  | c + 1, h => by
    by_cases hj : j = c + 1
    · exact ⟨[], by rw [hj, List.append_nil]⟩
    · obtain ⟨l, hl⟩ := frl_pre pv j c (by omega)
      rw [frl_succ, hl, List.append_assoc]
      exact ⟨_, rfl⟩
theorem frl_at (hj : j < c) (h : pv.contains j = false) : (frl pv c).getD (frl pv j).length 0 = j ∧ (frl pv j).length < (frl pv c).length := by
  obtain ⟨l, hl⟩ := frl_pre pv (j + 1) c (by omega)
  rw [frl_yes h, List.append_assoc] at hl
  rw [hl]
  simp
theorem frl_mem {a : Nat} : a ∈ frl pv c ↔ a < c ∧ a ∉ pv := by simp [frl]
theorem frl_nodup (pv : List Nat) (c : Nat) : (frl pv c).Nodup := List.Pairwise.filter _ List.nodup_range
theorem low_count (hs : pv.Pairwise (· < ·)) : ∀ j, (frl pv j).length + (pv.filter fun a => decide (a < j)).length = j
  | 0 => by simp [frl]
  | j + 1 => by
    have ih := low_count hs j
    have hc : (pv.filter fun a => decide (a < j + 1)).length = (pv.filter fun a => decide (a < j)).length + if pv.contains j then 1 else 0 := by
      clear ih
      induction pv with
      | nil => simp
      | cons b l ihl =>
        have hl := List.pairwise_cons.1 hs
        have ihl := ihl hl.2
        have hcon : (b :: l).contains j = (j == b || l.contains j) := List.contains_cons
        rw [List.filter_cons, List.filter_cons]
        by_cases h1 : b < j
        · have h2 : b < j + 1 := by omega
          have h3 : (j == b) = false := by simp; omega
          simp only [h1, h2, decide_true, if_true, List.length_cons, hcon, h3, Bool.false_or]
          rw [ihl]; omega
        · by_cases h2 : b = j
          · subst h2
            have h4 : l.contains b = false := by
              rw [Bool.eq_false_iff]
              intro h5
              have := hl.1 b (by simpa using h5)
              omega
            rw [h4] at ihl
            simp only [Nat.lt_irrefl, decide_false, Bool.false_eq_true, if_false, hcon, beq_self_eq_true, Bool.true_or, if_true, show b < b + 1 by omega, decide_true, List.length_cons]
            rw [ihl]; simp
          · have h3 : ¬ b < j + 1 := by omega
            have h5 : (j == b) = false := by simp; omega
            simp only [h1, h3, decide_false, Bool.false_eq_true, if_false, hcon, h5, Bool.false_or]
            exact ihl
    rw [frl_len, hc]
    cases pv.contains j <;> simp <;> omega
theorem frl_all (hs : pv.Pairwise (· < ·)) (hc : ∀ a ∈ pv, a < c) : (frl pv c).length + pv.length = c := by
  have := low_count hs c
  rwa [List.filter_eq_self.2 (fun a ha => by simpa using hc a ha)] at this
end Go.Lin
namespace Go.Proofs.YtdnelknieikbaaaGreat
open Tryz
open Go.Eng Go.RowKit Go.Lin
theorem index_ok (l : List Int) (x : Int) (vl : Value) (h : Hp) (hR : RdL cI 1 h [] vl l) :
  FnT Tryz.prog 145 #[vl, .int .i64 x] h [] (fun r _ _ => r = .int .i64 (idx l fun y => decide (x = y))) := by
 have hl := hR.len_le
 refine fn_enter func145 ntmps145 rfl rfl (fun w0 hw0 => ?_)
 simp only [argS]
 refine RsQ (Qm rfl (RnQ (ws_seq (RsQ (Qm rfl (Qx (ox_lenR hR.rd.any rfl underlying24 rfl) rfl (Qm rfl (RnQ (ws_block ?_)))))))))
 refine ws_loop (fun n s h' ms' => ∃ (k : Nat), n = l.length - k ∧ s = [(0, vl), (1, .int .i64 x), (7, .int .i64 l.length), (8, .int .i64 k)] ∧ h = h' ∧ ms' = [] ∧ k ≤ l.length ∧ ∀ j (hj : j < l.length), j < k → decide (x = l[j]) = false)
  (l.length - 0) _ ⟨0, rfl, rfl, rfl, rfl, by omega, fun j hj h => by omega⟩ Qs ?_
 rintro n s h' ms' ⟨k, rfl, rfl, rfl, rfl, hk, hno⟩
 refine RsQ (Qx (ox_lss rfl rfl rfl) rfl (RnQ (ws_seq ?_)))
 refine ws_if rfl (fun hlt => ?_) (fun hlt => ?_)
 ·have hlt' : k < l.length := by omega
  refine ws_skip (nx_then (ws_seq (ws_block (RsQ (Qm rfl (Qm rfl (RtQ (Qm rfl (Qm rfl (Qm rfl (Qx (ox_indexR _ hR.rd.any rfl underlying24 el3 rfl rfl rfl (by omega)) rfl (Qx (ox_load rfl underlying3 rfl rfl (hR.any.cell0 hlt' rfl)) rfl (Qx (ox_eqi rfl rfl rfl) rfl (RnQ ?_))))))))))))))
  refine ws_if rfl (fun hpk => ?_) (fun hpk => ?_)
  ·refine ws_seq (ws_region (Qm rfl (Qm rfl (RnQ (ws_ret (nx_block_ret (nx_then_ret (nx_then_ret (nx_block_ret (nx_then_ret ?_))))))))))
   exact nx_ret1 rfl rfl (by rw [idx_some hlt' (decide_eq_true hpk) fun j hj => hno j _ hj])
  ·refine ws_skip (nx_block (nx_then (ws_region (Qx (ox_add rfl rfl rfl (by omega)) rfl (Qm rfl (wl_nil ?_))))))
   refine nx_round (l.length - (k + 1)) _ (by omega) ⟨k + 1, rfl, rfl, rfl, rfl, by omega, fun j hj h1 => ?_⟩ Qs
   rcases (by omega : j < k ∨ j = k) with h2 | rfl
   ·exact hno j hj h2
   ·exact decide_eq_false hpk
 ·refine ws_exit (nx_then_exit (nx_then_exit (nx_block_exit (nx_then (RsQ (Qm rfl (RnQ (ws_ret ?_))))))))
  exact nx_ret1 rfl rfl (by rw [idx_none fun j hj => hno j hj (by omega)])
theorem contains_any (pv : List Nat) (j : Nat) : ((pvI pv).any fun y => decide ((j : Int) = y)) = pv.contains j := by
 rw [Bool.eq_iff_iff, List.any_eq_true, List.contains_iff_mem]
 constructor
 ·rintro ⟨x, hx, he⟩
  obtain ⟨k, hk, rfl⟩ := List.mem_map.1 hx
  have : j = k := by have := of_decide_eq_true he; omega
  rw [this]; exact hk
 ·exact fun h => ⟨j, List.mem_map.2 ⟨j, h, rfl⟩, decide_eq_true rfl⟩
theorem contains_ok (pv : List Nat) (j : Nat) (vl : Value) (h : Hp) (hR : RdL cI 1 h [] vl (pvI pv)) :
  FnT Tryz.prog 135 #[vl, .int .i64 j] h [] (fun r _ _ => r = .bool (pv.contains j)) := by
 refine fn_enter func135 ntmps135 rfl rfl (fun w0 hw0 => ?_)
 simp only [argS]
 refine RsQ (Qm rfl (RtQ (Qm rfl (Qm rfl (Qx (ox_call rfl call145 rfl (fnv (index_ok (pvI pv) j vl h hR) _)) rfl (Qx (ox_geq rfl rfl rfl) rfl (Qm rfl (RnQ (ws_ret ?_)))))))))
 exact nx_ret1 rfl rfl (by rw [idx_any, contains_any])
def kcol (pv : List Nat) (p : Int) (F : Nat → Nat → Int) (j i a : Nat) : Int := if a = j then 1 else if pv.idxOf a < i then (p - F (pv.idxOf a) j) % p else 0
def kerf (pv : List Nat) (p : Int) (F : Nat → Nat → Int) (c a s : Nat) : Int := kcol pv p F ((frl pv c).getD s 0) pv.length a
def kerp (pv : List Nat) (p : Int) (F : Nat → Nat → Int) (c n a s : Nat) : Int := if s < n then kerf pv p F c a s else 0
def keri (pv : List Nat) (p : Int) (F : Nat → Nat → Int) (c n j i a s : Nat) : Int := if s < n then kerf pv p F c a s else if s = n then kcol pv p F j i a else 0
theorem keri_zero (pv : List Nat) (p : Int) (F : Nat → Nat → Int) (c n j a s : Nat) : upd2 (kerp pv p F c n) j n 1 a s = keri pv p F c n j 0 a s := by
 unfold upd2 kerp keri kcol
 by_cases h1 : s < n
 ·rw [if_neg (by omega), if_pos h1, if_pos h1]
 ·rw [if_neg h1, if_neg h1]
  by_cases h2 : s = n
  ·rw [if_pos h2]
   by_cases h3 : a = j
   ·rw [if_pos ⟨h3, h2⟩, if_pos h3]
   ·rw [if_neg (fun h => h3 h.1), if_neg h3, if_neg (by omega)]
  ·rw [if_neg (fun h => h2 h.2), if_neg h2]
theorem keri_step {pv : List Nat} (hs : pv.Pairwise (· < ·)) (p : Int) (F : Nat → Nat → Int) (c n j i a s : Nat) (hi : i < pv.length) (hj : j ∉ pv) : upd2 (keri pv p F c n j i) (pv.getD i 0) n ((p - F i j) % p) a s = keri pv p F c n j (i + 1) a s := by
 have hg := pv_getD hi
 have hnd : pv.Nodup := List.Pairwise.imp (fun h => Nat.ne_of_lt h) hs
 have hio : pv.idxOf pv[i] = i := hnd.idxOf_getElem i hi
 have hne : pv.getD i 0 ≠ j := fun h => hj (by rw [← h, hg]; exact List.getElem_mem hi)
 unfold upd2 keri kcol
 by_cases h1 : s < n
 ·rw [if_neg (by omega), if_pos h1, if_pos h1]
 ·rw [if_neg h1, if_neg h1]
  by_cases h2 : s = n
  ·rw [if_pos h2, if_pos h2]
   by_cases h3 : a = pv.getD i 0
   ·rw [if_pos ⟨h3, h2⟩, if_neg (by rw [h3]; exact hne), h3, hg, hio, if_pos (by omega)]
   ·rw [if_neg (fun h => h3 h.1)]
    by_cases h4 : a = j
    ·rw [if_pos h4, if_pos h4]
    ·rw [if_neg h4, if_neg h4]
     have h5 : pv.idxOf a ≠ i := fun h => h3 (by
      have hlt : pv.idxOf a < pv.length := by omega
      rw [hg]
      have := List.getElem_idxOf hlt
      subst h
      exact this.symm)
     by_cases h6 : pv.idxOf a < i
     ·rw [if_pos h6, if_pos (by omega)]
     ·rw [if_neg h6, if_neg (by omega)]
  ·rw [if_neg (fun h => h2 h.2), if_neg h2, if_neg h2]
theorem keri_all (pv : List Nat) (p : Int) (F : Nat → Nat → Int) (c n j a s : Nat) (hn : (frl pv c).getD n 0 = j) : keri pv p F c n j pv.length a s = kerp pv p F c (n + 1) a s := by
 unfold keri kerp
 by_cases h1 : s < n
 ·rw [if_pos h1, if_pos (by omega)]
 ·rw [if_neg h1]
  by_cases h2 : s = n
  ·rw [if_pos h2, if_pos (by omega), h2]; unfold kerf; rw [hn]
  ·rw [if_neg h2, if_neg (by omega)]
theorem kerp_zero (pv : List Nat) (p : Int) (F : Nat → Nat → Int) (c a s : Nat) : kerp pv p F c 0 a s = 0 := if_neg (by omega)
theorem kerp_all (pv : List Nat) (p : Int) (F : Nat → Nat → Int) (c n a s : Nat) (hs : s < n) : kerp pv p F c n a s = kerf pv p F c a s := if_pos hs
theorem kernel_ok (p : Int) (r c : Nat) (f : Nat → Nat → Int) (ev : Value) (h : Hp) (R : RtM p r c f) (hR : RdL cI 1 h [] ev (mat r c f)) :
  FnT Tryz.prog 114 #[.agg #[.int .i64 p, .int .i64 r, .int .i64 c, ev]] h [] (fun x h' ms' => h.le h' ∧ ∃ (F : Nat → Nat → Int) (pv : List Nat) (n : Nat), Ech p r c f F pv ∧ n + pv.length = c ∧ MadeM x ms' (mkM p c n (kerf pv p F c))) := by
 have hb := R.bd
 have rl := R.rl
 have cl := R.cl
 have o1 := hR.rd.one
 refine fn_enter func114 ntmps114 rfl rfl (fun w0 hw0 => ?_)
 simp only [argS]
 refine RsQ ?_
 refine wl_box [_, _, _, _] rfl rfl (by rfl) rfl rfl rfl (fun g1 => ?_)
 refine wl_freezeB fun h1 l1 hS => ?_
 have hR := hR.up l1
 have hA := Seg.all hS
 have hA0 := hA 0 _ rfl
 refine AlQ [.int .i64 0, .int .i64 0, .int .i64 0, .slice none 0 0] rfl el42 rfl rfl (fun g2 => RtQ (Qx (ox_loadG rfl underlying42 rfl el42 rfl rfl (Seg.any hS)) rfl (wl_call rfl call120 rfl (echelon_ok p r c f ev h1 R hR) rfl rfl rfl (fun x h2 ms1 l2 hF => ?_))))
 obtain ⟨l2, F, pv, eu, vp, m, m2, rfl, rfl, hO, hO2, hE⟩ := hF
 have hA : ∀ i v, ([Value.int .i64 p, .int .i64 r, .int .i64 c, ev] : List Value)[i]? = some v → ∀ ms, Cell h2 ms ((⟨g1, 0, none⟩ : Addr).add i) v := fun i v hv => Seg.all (hS.le l2) i v hv
 have hA0 := hA 0 _ rfl
 have oe : eu.oneCell' = true := (hO.rd (h := h) (ms := [m]) (List.Mem.head _)).rd.one
 have ovp : vp.oneCell' = true := (hO2.rd (h := h) (ms := [m2]) (List.Mem.head _)).rd.one
 have hlen := hE.red.len
 have hsort := hE.red.sorted
 have hlt := fun k hk => hE.red.lt k hk
 have hfa : (frl pv c).length + pv.length = c := frl_all hsort fun a ha => by
  obtain ⟨k, hk, rfl⟩ := List.mem_iff_getElem.1 ha
  exact hlt k hk
 generalize hn : (frl pv c).length = n at hfa
 refine Qm rfl (Qx (ox_extract rfl rfl rfl) rfl (Qx (ox_extract rfl rfl rfl) rfl (AlQ [.int .i64 0, .int .i64 0, .int .i64 0, .slice none 0 0] rfl el42 rfl rfl (fun g3 => ?_))))
 refine wl_storeAll 0 [_, _, _, _] rfl el42 rfl rfl rfl (by (simp [oe]; done)) rfl rfl rfl rfl rfl ?_
 refine Qm rfl (RnQ (ws_seq (RsQ (Qx (ox_fieldF fd42_0 rfl rfl) rfl (Qx (ox_load rfl underlying3 rfl rfl (Cell.blk 0 rfl rfl)) rfl (Qx (ox_eqi rfl rfl rfl) rfl (RnQ (ws_if rfl (fun hc => absurd hc (by omega)) (fun hc => ws_skip (nx_then (RsQ (Qx (ox_fieldF fd42_0 rfl rfl) rfl (Qx (ox_load rfl underlying3 rfl rfl (hA0 _)) rfl (Qx (ox_fieldF fd42_2 rfl rfl) rfl (Qx (ox_load rfl underlying3 rfl rfl (hA _ _ rfl _)) rfl (Qx (ox_fieldF fd42_2 rfl rfl) rfl (Qx (ox_load rfl underlying3 rfl rfl (hA _ _ rfl _)) rfl (Qm rfl (Qx (ox_lenS (pvI_rd (h := h) (ms := [m2]) hO2 (List.Mem.head _)) rfl underlying24 rfl) rfl (Qx (ox_sub rfl rfl rfl (by omega)) rfl (wl_call rfl call106 rfl (zero_ok p c _ h2 R.i64) rfl rfl rfl (fun v h3 ms3 l3 hF => ?_))))))))))))))))))))))
 rw [show (c : Int) - pv.length = (n : Int) by omega] at hF
 obtain ⟨rfl, ew, mz, rfl, rfl, hOz⟩ := hF
 rw [mkZ_nat R.pr cl (by omega)] at hOz ⊢
 have ow : ew.oneCell' = true := (hOz.rd (h := h) (ms := [mz]) (List.Mem.head _)).rd.one
 refine AlQ [.int .i64 0, .int .i64 0, .int .i64 0, .slice none 0 0] rfl el42 rfl rfl (fun g5 => ?_)
 refine wl_storeAll 0 [_, _, _, _] rfl el42 rfl rfl rfl (by (simp [ow]; done)) rfl rfl rfl rfl rfl ?_
 refine RtQ (Qm rfl (RnQ (ws_seq (RsQ (Qx (ox_fieldF fd42_2 rfl rfl) rfl (Qx (ox_load rfl underlying3 rfl rfl (hA _ _ rfl _)) rfl (Qm rfl (RnQ (ws_block ?_)))))))))
 refine ws_loop (fun q s hh ms' => ∃ (j : Nat) (mz : Hp) (k : Nat), q = c - j ∧ s = [(1, .pointer (some ⟨g1, 0, none⟩)), (2, .pointer (some ⟨g2, 0, none⟩)), (3, .pointer (some ⟨g3, 0, none⟩)), (4, vp), (5, .pointer (some ⟨g5, 0, none⟩)), (6, .int .i64 k), (30, .int .i64 c), (31, .int .i64 j)] ∧ h2 = hh ∧ ms' = [Blk g5 42 [.int .i64 p, .int .i64 c, .int .i64 n, ew], mz, Blk g3 42 [.int .i64 p, .int .i64 r, .int .i64 c, eu], m, m2, Blk g2 42 [.int .i64 0, .int .i64 0, .int .i64 0, .slice none 0 0]] ∧ j ≤ c ∧ k = (frl pv j).length ∧ OwnL cI 1 3 mz ew (mat c n (kerp pv p F c k)))
  (c - 0) _ ⟨0, mz, 0, rfl, rfl, rfl, rfl, by omega, rfl, by rw [mat_congr (fun a _ b _ => kerp_zero pv p F c a b)]; exact hOz⟩ Qs ?_
 rintro q s hh ms' ⟨j, mz, k, rfl, rfl, rfl, rfl, hj, hk, hOz⟩
 refine RsQ (Qx (ox_lss rfl rfl rfl) rfl (RnQ (ws_seq ?_)))
 refine ws_if rfl (fun hlt1 => ?_) (fun hlt1 => ?_)
 ·have hjc : j < c := by omega
  refine ws_skip (nx_then (ws_seq (ws_block (RsQ (Qm rfl (Qm rfl (RnQ (ws_seq (RsQ (Qm rfl (Qm rfl (Qx (ox_call rfl call135 rfl (fnv_whole fun h' hl hm => FnT.toV (contains_ok pv j vp h' (hO2.rdh (hm _ (List.Mem.tail _ (List.Mem.tail _ (List.Mem.tail _ (List.Mem.tail _ (List.Mem.head _)))))))))) rfl (RnQ ?_)))))))))))))
  refine ws_cond rfl (fun hcon => ?_) (fun hcon => ?_)
  ·refine ws_exit (nx_then_exit (nx_block_exit (nx_then (ws_region (Qx (ox_add rfl rfl rfl (by omega)) rfl (Qm rfl (wl_nil ?_)))))))
   refine nx_round (c - (j + 1)) _ (by omega) ⟨j + 1, mz, k, rfl, rfl, rfl, rfl, by omega, by rw [frl_no hcon]; exact hk, hOz⟩ Qs
  ·obtain ⟨hat, hkl⟩ := frl_at hjc hcon
   have hjp : j ∉ pv := by
    intro hm
    rw [List.contains_iff_mem.2 hm] at hcon
    cases hcon
   rw [← hk] at hat
   have hkn : k < n := by omega
   have hix := ix_lt hjc hkn
   have hcn : c * n ≤ 400 * 400 := Nat.mul_le_mul cl (by omega)
   have el2 : (mat c n (kerp pv p F c k)).length = c * n := mat_len _ _ _
   refine ws_skip (nx_then (RsQ (Qx (ox_fieldF fd42_3 rfl rfl) rfl (Qx (ox_load rfl underlying24 rfl rfl (Cell.blk 0 rfl rfl)) rfl (Qm rfl (Qx (ox_fieldF fd42_2 rfl rfl) rfl (Qx (ox_load rfl underlying3 rfl rfl (Cell.blk 0 rfl rfl)) rfl (Qx (ox_mul rfl rfl rfl (by omega)) rfl (Qm rfl (Qx (ox_add rfl rfl rfl (by omega)) rfl (Qx (ox_indexR (j * n + k) (hOz.rd (List.Mem.tail _ (List.Mem.head _))).rd rfl underlying24 el3 rfl rfl (by omega) (by omega)) rfl (wl_storeN 1 (j * n + k) hOz rfl el3 rfl rfl rfl (by omega) rfl rfl (fun mz1 hOz1 => ?_)))))))))))))
   rw [mat_set _ hkn, mat_congr (fun a _ b _ => keri_zero pv p F c k j a b)] at hOz1
   refine RnQ (ws_seq (RsQ (Qm rfl (Qx (ox_lenS (pvI_rd (h := h) (ms := [m2]) hO2 (List.Mem.head _)) rfl underlying24 rfl) rfl (Qm rfl (RnQ (ws_block ?_)))))))
   refine ws_loop (fun q s hh ms' => ∃ (i : Nat) (mz : Hp), q = pv.length - i ∧ s = [(1, .pointer (some ⟨g1, 0, none⟩)), (2, .pointer (some ⟨g2, 0, none⟩)), (3, .pointer (some ⟨g3, 0, none⟩)), (4, vp), (5, .pointer (some ⟨g5, 0, none⟩)), (6, .int .i64 k), (7, .int .i64 j), (30, .int .i64 c), (31, .int .i64 j), (46, vp), (47, .int .i64 pv.length), (48, .int .i64 i)] ∧ h2 = hh ∧ ms' = [Blk g5 42 [.int .i64 p, .int .i64 c, .int .i64 n, ew], mz, Blk g3 42 [.int .i64 p, .int .i64 r, .int .i64 c, eu], m, m2, Blk g2 42 [.int .i64 0, .int .i64 0, .int .i64 0, .slice none 0 0]] ∧ i ≤ pv.length ∧ OwnL cI 1 3 mz ew (mat c n (keri pv p F c k j i)))
    (pv.length - 0) _ ⟨0, mz1, rfl, rfl, rfl, rfl, by omega, hOz1⟩ Qs ?_
   rintro q s hh ms' ⟨i, mz, rfl, rfl, rfl, rfl, hi, hOz⟩
   refine RsQ (Qx (ox_lss rfl rfl rfl) rfl (RnQ (ws_seq ?_)))
   refine ws_if rfl (fun hlt2 => ?_) (fun hlt2 => ?_)
   ·have hil : i < pv.length := by omega
    have hir : i < r := by omega
    have hpc : pv.getD i 0 < c := by rw [pv_getD hil]; exact hlt i hil
    have hix := ix_lt hpc hkn
    have hix2 := ix_lt hir hjc
    have hrc : r * c ≤ 400 * 400 := Nat.mul_le_mul rl cl
    have hFb := hE.red.bd i hir j hjc
    have el : (mat r c F).length = r * c := mat_len _ _ _
    have el2 : (mat c n (keri pv p F c k j i)).length = c * n := mat_len _ _ _
    refine ws_skip (nx_then (ws_seq (ws_block (RsQ (Qm rfl (Qx (ox_indexS _ (pvI_rd (h := h) (ms := [m2]) hO2 (List.Mem.head _)) rfl underlying24 el3 rfl rfl rfl (by omega)) rfl ?_))))))
    refine Qx (ox_load rfl underlying3 rfl rfl (pv_cell hO2 (by simp) hil)) rfl ?_
    refine Qm rfl (Qm rfl (RnQ (ws_draw 24 fol (by kernel_rfl) rfl (wr_x (ox_fieldF fd42_3 rfl rfl) rfl rfl (wr_x (ox_load rfl underlying24 rfl rfl (Cell.blk 0 rfl rfl)) rfl rfl (wr_x (ox_move rfl rfl) rfl rfl (wr_x (ox_fieldF fd42_2 rfl rfl) rfl rfl (wr_x (ox_load rfl underlying3 rfl rfl (Cell.blk 0 rfl rfl)) rfl rfl (wr_x (ox_mul rfl rfl rfl (by omega)) rfl rfl (wr_x (ox_move rfl rfl) rfl rfl (wr_x (ox_add rfl rfl rfl (by omega)) rfl rfl (wr_x (ox_fieldF fd42_0 rfl rfl) rfl rfl (wr_x (ox_load rfl underlying3 rfl rfl (hA0 _)) rfl rfl (wr_x (ox_fieldF fd42_3 rfl rfl) rfl rfl (wr_x (ox_load rfl underlying24 rfl rfl (Cell.blk 2 rfl rfl)) rfl rfl (wr_x (ox_move rfl rfl) rfl rfl (wr_x (ox_fieldF fd42_2 rfl rfl) rfl rfl (wr_x (ox_load rfl underlying3 rfl rfl (hA _ _ rfl _)) rfl rfl (wr_x (ox_mul rfl rfl rfl (by omega)) rfl rfl (wr_x (ox_move rfl rfl) rfl rfl (wr_x (ox_add rfl rfl rfl (by omega)) rfl rfl (wr_x (ox_indexR (i * c + j) (hO.rd (List.Mem.tail _ (List.Mem.tail _ (List.Mem.tail _ (List.Mem.head _))))).rd rfl underlying24 el3 rfl rfl (by omega) (by omega)) rfl rfl ?_))))))))))))))))))))))
    refine wr_x (ox_load rfl underlying3 rfl rfl ((hO.rd (by simp)).ent hir hjc)) rfl rfl ?_
    refine wr_x (ox_sub rfl rfl rfl (by omega)) rfl rfl (wr_x (ox_fieldF fd42_0 rfl rfl) rfl rfl (wr_x (ox_load rfl underlying3 rfl rfl (hA0 _)) rfl rfl (wr_x (ox_remP rfl rfl rfl (by omega) (by omega)) rfl rfl (wr_nil (Qx (ox_indexR (pv.getD i 0 * n + k) (hOz.rd (List.Mem.tail _ (List.Mem.head _))).rd rfl underlying24 el3 rfl rfl (by omega) (by omega)) rfl (wl_storeN 1 (pv.getD i 0 * n + k) hOz rfl el3 rfl rfl rfl (by omega) rfl rfl (fun m' hO' => wl_nil (nx_block (nx_then (ws_region (Qx (ox_add rfl rfl rfl (by omega)) rfl (Qm rfl (wl_nil ?_)))))))))))))
    refine nx_round (pv.length - (i + 1)) _ (by omega) ⟨i + 1, m', rfl, rfl, rfl, rfl, by omega, ?_⟩ Qs
    rw [mat_set _ hkn, mat_congr (fun a _ b _ => keri_step hsort p F c k j i a b hil hjp)] at hO'
    exact hO'
   ·refine ws_exit (nx_then_exit (nx_then_exit (nx_block_exit (nx_then (ws_region (Qm rfl (Qx (ox_add rfl rfl rfl (by omega)) rfl (Qm rfl (wl_nil (nx_block (nx_then (ws_region (Qx (ox_add rfl rfl rfl (by omega)) rfl (Qm rfl (wl_nil ?_)))))))))))))))
    refine nx_round (c - (j + 1)) _ (by omega) ⟨j + 1, mz, k + 1, rfl, rfl, rfl, rfl, by omega, by rw [frl_yes hcon, List.length_append, hk]; rfl, ?_⟩ Qs
    rw [show i = pv.length by omega, mat_congr (fun a _ b _ => keri_all pv p F c k j a b hat)] at hOz
    exact hOz
 ·refine ws_exit (nx_then_exit (nx_then_exit (nx_block_exit (nx_then (RsQ (Qx (ox_loadG rfl underlying42 rfl el42 rfl rfl (Seg.blk 0 rfl)) rfl ?_))))))
  refine wl_storeAll 5 [_, _, _, _] rfl el42 rfl rfl rfl (by (simp [ow]; done)) rfl rfl rfl rfl rfl ?_
  refine RnQ (ws_ret ?_)
  obtain rfl : j = c := by omega
  refine nx_dropAt 4 rfl (nx_dropAt 3 rfl (nx_dropAt 2 rfl (nx_dropAt 0 rfl ?_)))
  exact nx_retD (vs := [_, _, _, _]) 1 rfl rfl underlying42 rfl el42 rfl rfl (⟨Hp.le_trans l1 l2, F, pv, n, hE, hfa, ew, mz, rfl, rfl, by rw [show k = n by omega, mat_congr (fun a _ b hb => kerp_all pv p F j n a b hb)] at hOz; exact hOz⟩)
end Go.Proofs.YtdnelknieikbaaaGreat
namespace Go.Proofs.YtdnelknieikbaaaGreat
open Tryz
open Go.Eng Go.RowKit Go.Lin
def solp (pv : List Nat) (F : Nat → Nat → Int) (c i a s : Nat) : Int := if pv.idxOf a < i then F (pv.idxOf a) (c + s) else 0
def solf (pv : List Nat) (F : Nat → Nat → Int) (c a s : Nat) : Int := solp pv F c pv.length a s
theorem solp_zero (pv : List Nat) (F : Nat → Nat → Int) (c a s : Nat) : solp pv F c 0 a s = 0 := if_neg (by omega)
theorem solp_step {pv : List Nat} (hs : pv.Pairwise (· < ·)) (F : Nat → Nat → Int) (c c' i a s : Nat) (hi : i < pv.length) (hsc : s < c') : (if a = pv.getD i 0 then (vec c' fun s => F i (c + s)).getD s 0 else solp pv F c i a s) = solp pv F c (i + 1) a s := by
 have hg := pv_getD hi
 have hnd : pv.Nodup := List.Pairwise.imp (fun h => Nat.ne_of_lt h) hs
 have hio : pv.idxOf pv[i] = i := hnd.idxOf_getElem i hi
 unfold solp
 by_cases h3 : a = pv.getD i 0
 ·rw [if_pos h3, h3, hg, hio, if_pos (by omega), List.getD_eq_getElem?_getD, vec_get? hsc]; rfl
 ·rw [if_neg h3]
  have h5 : pv.idxOf a ≠ i := fun h => h3 (by
   have hlt : pv.idxOf a < pv.length := by omega
   rw [hg]
   have := List.getElem_idxOf hlt
   subst h
   exact this.symm)
  by_cases h6 : pv.idxOf a < i
  ·rw [if_pos h6, if_pos (by omega)]
  ·rw [if_neg h6, if_neg (by omega)]
theorem mat_rest {r c c' : Nat} {F : Nat → Nat → Int} {i : Nat} (hi : i < r) : ∃ l, ((mat r (c + c') F).drop (i * (c + c') + c)) = vec c' (fun s => F i (c + s)) ++ l := by
 have h1 : (i + 1) * (c + c') ≤ r * (c + c') := Nat.mul_le_mul_right _ hi
 rw [Nat.add_mul, Nat.one_mul] at h1
 refine ⟨((mat r (c + c') F).drop (i * (c + c') + c)).drop c', ?_⟩
 conv => lhs; rw [← List.take_append_drop c' ((mat r (c + c') F).drop (i * (c + c') + c))]
 congr 1
 refine List.ext_getElem? fun k => ?_
 by_cases hk : k < c'
 ·rw [List.getElem?_take_of_lt hk, List.getElem?_drop, vec_get? hk, mat_at? (by omega), Nat.add_assoc, ix_div (by omega), ix_mod (by omega)]
 ·rw [List.getElem?_eq_none (by rw [List.length_take]; omega), List.getElem?_eq_none (by rw [vec_len]; omega)]
theorem solve_ok (p : Int) (r c c' : Nat) (f g : Nat → Nat → Int) (ev eu : Value) (h : Hp) (R : RtM p r c f) (S : RtM p r c' g) (hcr : r = 0 ∨ 0 < c') (hR : RdL cI 1 h [] ev (mat r c f)) (hS : RdL cI 1 h [] eu (mat r c' g)) :
  FnT Tryz.prog 115 #[.agg #[.int .i64 p, .int .i64 r, .int .i64 c, ev], .agg #[.int .i64 p, .int .i64 r, .int .i64 c', eu]] h [] (fun x h' ms' => h.le h' ∧ ∃ (F : Nat → Nat → Int) (pv : List Nat) (v : Value), Ech p r (c + c') (jn c f g) F pv ∧ ((∀ k (hk : k < pv.length), pv[k] < c) → x = .tuple #[v, .bool true] ∧ MadeM v ms' (mkM p c c' (solf pv F c))) ∧ (¬ (∀ k (hk : k < pv.length), pv[k] < c) → x = .tuple #[v, .bool false] ∧ MadeM v ms' FM.nil)) := by
 have hb := R.bd
 have rl := R.rl
 have kl := R.cl
 have cl := S.cl
 have hjn : InP p r (c + c') (jn c f g) := fun i hi j hj => by
  unfold jn
  by_cases h : j < c
  ·rw [if_pos h]; exact R.en i hi j h
  ·rw [if_neg h]; exact S.en i hi _ (by omega)
 refine fn_enter func115 ntmps115 rfl rfl (fun w0 hw0 => ?_)
 simp only [argS]
 refine RsQ ?_
 refine wl_box [_, _, _, _] rfl rfl (by rfl) rfl rfl rfl (fun g2 => ?_)
 refine wl_box [_, _, _, _] rfl rfl (by rfl) rfl rfl rfl (fun g3 => ?_)
 refine AlQ [.int .i64 0, .int .i64 0, .int .i64 0, .slice none 0 0] rfl el42 rfl rfl (fun g4 => Qm rfl (RnQ (ws_freezeBi 2 rfl fun h1 l1 hA => (ws_freezeBi 1 rfl fun h2 l2 hB => ?_))))
 have hR := hR.up (Hp.le_trans l1 l2)
 have hS := hS.up (Hp.le_trans l1 l2)
 have hAs := hA.le l2
 have hBs := hB
 have hA := Seg.all hAs
 have hB := Seg.all hBs
 have hA0 := hA 0 _ rfl
 have hB0 := hB 0 _ rfl
 refine ws_seq (RsQ (Qx (ox_loadG rfl underlying42 rfl el42 rfl rfl (Seg.any hAs)) rfl (Qx (ox_loadG rfl underlying42 rfl el42 rfl rfl (Seg.any hBs)) rfl (Qx (ox_call rfl call121 rfl (one2_t R S hR hS _)) rfl (Qx (ox_not rfl rfl) rfl (Qm rfl (Qg (ox_fieldF fd42_1 rfl rfl) rfl (Qg (ox_load rfl underlying3 rfl rfl (hA _ _ rfl _)) rfl (Qg (ox_fieldF fd42_1 rfl rfl) rfl (Qg (ox_load rfl underlying3 rfl rfl (hB _ _ rfl _)) rfl (Qg (ox_nei rfl rfl rfl) rfl (Qx (ox_pick_f rfl rfl rfl) rfl (RnQ (ws_if rfl (fun hc => absurd hc (by omega)) (fun hc => ws_skip (nx_then (RsQ (Qx (ox_loadG rfl underlying42 rfl el42 rfl rfl (Seg.any hAs)) rfl (Qx (ox_loadG rfl underlying42 rfl el42 rfl rfl (Seg.any hBs)) rfl (wl_call rfl call137 rfl (join_ok p r c c' f g ev eu h2 R S hR hS) rfl rfl rfl (fun v h3 ms1 l3 hF => ?_)))))))))))))))))))))
 obtain ⟨l3, ej, mj, rfl, rfl, hOj⟩ := hF
 refine wl_freezeL hOj fun h4 l4 hRj => (wl_call rfl call136 rfl (reduce_ok p r (c + c') (jn c f g) ej h4 R.pr rl (by omega) hjn hRj) rfl rfl rfl (fun v h5 ms1 l5 hF => ?_))
 obtain ⟨l5, F, pv, ef, vp, m, m2, rfl, rfl, hO, hO2, hE⟩ := hF
 have l25 := Hp.le_trans l3 (Hp.le_trans l4 l5)
 have hAs := hAs.le l25
 have hBs := hBs.le l25
 have hA := Seg.all hAs
 have hB := Seg.all hBs
 have hA0 := hA 0 _ rfl
 have hB0 := hB 0 _ rfl
 have l05 := Hp.le_trans l1 (Hp.le_trans l2 l25)
 have oe : ef.oneCell' = true := (hO.rd (h := h) (ms := [m]) (List.Mem.head _)).rd.one
 have ovp : vp.oneCell' = true := (hO2.rd (h := h) (ms := [m2]) (List.Mem.head _)).rd.one
 have hlen := hE.red.len
 have hsort := hE.red.sorted
 obtain ⟨n, hn⟩ : ∃ n, n = c + c' := ⟨_, rfl⟩
 have hO' := hO
 rw [← hn] at hO' hE ⊢
 refine Qm rfl (Qx (ox_extract rfl rfl rfl) rfl (Qx (ox_extract rfl rfl rfl) rfl (AlQ [.int .i64 0, .int .i64 0, .int .i64 0, .slice none 0 0] rfl el42 rfl rfl (fun g6 => ?_))))
 refine wl_storeAll 0 [_, _, _, _] rfl el42 rfl rfl rfl (by (simp [oe]; done)) rfl rfl rfl rfl rfl ?_
 refine Qm rfl (RtQ (Qx (ox_fieldF fd42_0 rfl rfl) rfl (Qx (ox_load rfl underlying3 rfl rfl (hA0 _)) rfl (Qx (ox_fieldF fd42_2 rfl rfl) rfl (Qx (ox_load rfl underlying3 rfl rfl (hA _ _ rfl _)) rfl (Qx (ox_fieldF fd42_2 rfl rfl) rfl (Qx (ox_load rfl underlying3 rfl rfl (hB _ _ rfl _)) rfl (wl_call rfl call106 rfl (zero_ok p c c' h5 R.i64) rfl rfl rfl (fun v h6 ms3 l6 hF => ?_)))))))))
 obtain ⟨rfl, ew, mz, rfl, rfl, hOz⟩ := hF
 rw [mkZ_nat R.pr kl cl] at hOz ⊢
 have ow : ew.oneCell' = true := (hOz.rd (h := h) (ms := [mz]) (List.Mem.head _)).rd.one
 refine AlQ [.int .i64 0, .int .i64 0, .int .i64 0, .slice none 0 0] rfl el42 rfl rfl (fun g8 => ?_)
 refine wl_storeAll 0 [_, _, _, _] rfl el42 rfl rfl rfl (by (simp [ow]; done)) rfl rfl rfl rfl rfl ?_
 refine RnQ (ws_seq (RsQ (Qm rfl (Qx (ox_lenS (pvI_rd (h := h) (ms := [m2]) hO2 (List.Mem.head _)) rfl underlying24 rfl) rfl (Qm rfl (RnQ (ws_block ?_)))))))
 refine ws_loop (fun q s hh ms' => ∃ (i : Nat) (mz : Hp), q = pv.length - i ∧ s = [(2, .pointer (some ⟨g2, 0, none⟩)), (3, .pointer (some ⟨g3, 0, none⟩)), (4, .pointer (some ⟨g4, 0, none⟩)), (6, .pointer (some ⟨g6, 0, none⟩)), (8, .pointer (some ⟨g8, 0, none⟩)), (37, vp), (38, .int .i64 pv.length), (39, .int .i64 i)] ∧ h5 = hh ∧ ms' = [Blk g8 42 [.int .i64 p, .int .i64 c, .int .i64 c', ew], mz, Blk g6 42 [.int .i64 p, .int .i64 r, .int .i64 n, ef], m, m2, Blk g4 42 [.int .i64 0, .int .i64 0, .int .i64 0, .slice none 0 0]] ∧ i ≤ pv.length ∧ (∀ k (hk : k < pv.length), k < i → pv[k] < c) ∧ OwnL cI 1 3 mz ew (mat c c' (solp pv F c i)))
  (pv.length - 0) _ ⟨0, mz, rfl, rfl, rfl, rfl, by omega, fun k hk h => by omega, by rw [mat_congr (fun a _ b _ => solp_zero pv F c a b)]; exact hOz⟩ Qs ?_
 rintro q s hh ms' ⟨i, mz, rfl, rfl, rfl, rfl, hi, hall, hOz⟩
 refine RsQ (Qx (ox_lss rfl rfl rfl) rfl (RnQ (ws_seq ?_)))
 refine ws_if rfl (fun hlt => ?_) (fun hlt => ?_)
 ·have hil : i < pv.length := by omega
  have hir : i < r := by omega
  have hg := pv_getD hil
  refine ws_skip (nx_then (ws_seq (ws_block (RsQ (Qm rfl (Qx (ox_indexS _ (pvI_rd (h := h) (ms := [m2]) hO2 (List.Mem.head _)) rfl underlying24 el3 rfl rfl rfl (by omega)) rfl ?_))))))
  refine Qx (ox_load rfl underlying3 rfl rfl (pv_cell hO2 (by simp) hil)) rfl ?_
  refine Qm rfl (Qm rfl (RnQ (ws_seq (RsQ (Qm rfl (Qx (ox_fieldF fd42_2 rfl rfl) rfl (Qx (ox_load rfl underlying3 rfl rfl (hA _ _ rfl _)) rfl (Qx (ox_geq rfl rfl rfl) rfl (RnQ ?_)))))))))
  refine ws_if rfl (fun hge => ?_) (fun hge => ?_)
  ·refine ws_seq (ws_region ?_)
   refine Qx (ox_buildS st42 [.int .i64 0, .int .i64 0, .int .i64 0, .slice none 0 0] [] [_, _, _, _] rfl el42 rfl rfl (by repeat (first | exact trivial | refine ⟨⟨rfl, rfl, rfl⟩, ?_⟩ | refine ⟨⟨((pvI_rd (h := h) (ms := [m2]) hO2 (List.Mem.head _))).cells, rfl, rfl⟩, ?_⟩)) rfl) rfl ?_
   refine wl_storeAll 5 [_, _, _, _] rfl el42 rfl rfl rfl (by (simp [Value.oneCell']; done)) rfl rfl rfl rfl rfl ?_
   refine Qm rfl (RnQ (ws_ret (nx_then_ret (nx_block_ret (nx_then_ret (nx_then_ret (nx_block_ret (nx_then_ret (nx_dropAt 4 rfl (nx_dropAt 3 rfl (nx_dropAt 2 rfl (nx_dropAt 1 rfl (nx_dropAt 0 rfl (nx_emp ?_))))))))))))))
   exact nx_retD2 (vs := [_, _, _, _]) 1 rfl rfl rfl underlying42 rfl el42 rfl rfl (⟨l05, F, pv, _, hE, fun hx => absurd (hx i hil) (by omega), fun _ => ⟨rfl, _, _, rfl, rfl, OwnL.nil cI_len⟩⟩)
  ·have hpc : pv.getD i 0 < c := by omega
   have hc0 : 0 < c' := by omega
   generalize hP : pv.getD i 0 = P at *
   have d1 : (P + 1) * c' = P * c' + c' := by rw [Nat.add_mul, Nat.one_mul]
   have d2 : (P + 1) * c' ≤ c * c' := Nat.mul_le_mul_right c' hpc
   have d3 : c * c' ≤ 400 * 400 := Nat.mul_le_mul kl cl
   have d4 : ((P : Int) + 1) * c' = P * c' + c' := by rw [Int.add_mul, Int.one_mul]
   have d5 : (i + 1) * n = i * n + n := by rw [Nat.add_mul, Nat.one_mul]
   have d6 : (i + 1) * n ≤ r * n := Nat.mul_le_mul_right n hir
   have d7 : r * n ≤ 400 * 800 := Nat.mul_le_mul rl (by omega)
   have el1 : (mat c c' (solp pv F c i)).length = c * c' := mat_len _ _ _
   have el2 : (mat r n F).length = r * n := mat_len _ _ _
   refine ws_skip (nx_then (ws_draw 22 fol (by kernel_rfl) rfl (wr_x (ox_fieldF fd42_3 rfl rfl) rfl rfl (wr_x (ox_load rfl underlying24 rfl rfl (Cell.blk 0 rfl rfl)) rfl rfl (wr_x (ox_move rfl rfl) rfl rfl (wr_x (ox_fieldF fd42_2 rfl rfl) rfl rfl (wr_x (ox_load rfl underlying3 rfl rfl (hB _ _ rfl _)) rfl rfl (wr_x (ox_mul rfl rfl rfl (by omega)) rfl rfl (wr_x (ox_move rfl rfl) rfl rfl (wr_x (ox_add rfl rfl rfl (by omega)) rfl rfl (wr_x (ox_fieldF fd42_2 rfl rfl) rfl rfl (wr_x (ox_load rfl underlying3 rfl rfl (hB _ _ rfl _)) rfl rfl (wr_x (ox_mul rfl rfl rfl (by omega)) rfl rfl (wr_x (ox_sliceS_lh (P * c') ((P + 1) * c') (hOz.rd (h := h5) (ms := [mz]) (List.Mem.head _)).rd rfl underlying24 el3 rfl rfl rfl (by omega) (by omega) (by omega) (by omega)) rfl rfl (wr_x (ox_fieldF fd42_3 rfl rfl) rfl rfl (wr_x (ox_load rfl underlying24 rfl rfl (Cell.blk 2 rfl rfl)) rfl rfl (wr_x (ox_move rfl rfl) rfl rfl (wr_x (ox_fieldF fd42_2 rfl rfl) rfl rfl (wr_x (ox_load rfl underlying3 rfl rfl (Cell.blk 2 rfl rfl)) rfl rfl (wr_x (ox_mul rfl rfl rfl (by omega)) rfl rfl (wr_x (ox_fieldF fd42_2 rfl rfl) rfl rfl (wr_x (ox_load rfl underlying3 rfl rfl (hA _ _ rfl _)) rfl rfl (wr_x (ox_add rfl rfl rfl (by omega)) rfl rfl (wr_x (ox_sliceS_l (i * n + c) (hO'.rd (h := h5) (ms := [m]) (List.Mem.head _)).rd rfl underlying24 el3 rfl rfl (by omega) (by omega)) rfl rfl (wr_nil ?_)))))))))))))))))))))))))
   have hml := hO'.rd (h := h5) (ms := [Blk g8 42 [.int .i64 p, .int .i64 c, .int .i64 c', ew], mz, Blk g6 42 [.int .i64 p, .int .i64 r, .int .i64 n, ef], m, m2, Blk g4 42 [.int .i64 0, .int .i64 0, .int .i64 0, .slice none 0 0]]) (List.Mem.tail _ (List.Mem.tail _ (List.Mem.tail _ (List.Mem.head _))))
   have hsub := hml.sub_ (i := i * n + c) (j := (mat r n F).length) (by omega) (Nat.le_refl _)
   obtain ⟨lr, hlr⟩ := mat_rest (c := c) (c' := c') (F := F) hir
   rw [← hn] at hlr
   rw [List.take_of_length_le (by rw [List.length_drop]; omega), hlr] at hsub
   refine wl_copyR 1 P hOz hpc hc0 hsub (by rw [List.length_append, vec_len]; omega) rfl underlying24 el3 rfl rfl rfl rfl rfl rfl (fun mz' hOz' => ?_)
   refine wl_nil (nx_block (nx_then (ws_region (Qx (ox_add rfl rfl rfl (by omega)) rfl (Qm rfl (wl_nil ?_))))))
   refine nx_round (pv.length - (i + 1)) _ (by omega) ⟨i + 1, mz', rfl, rfl, rfl, rfl, by omega, fun k hk h1 => ?_, ?_⟩ Qs
   ·rcases (by omega : k < i ∨ k = i) with h2 | rfl
    ·exact hall k hk h2
    ·rw [← hg]; exact hpc
   ·have hst : ∀ a, a < c → ∀ b, b < c' → (if a = P then (vec c' (fun s => F i (c + s)) ++ lr).getD b 0 else solp pv F c i a b) = solp pv F c (i + 1) a b := fun a _ b hb => by
     rw [← solp_step hsort F c c' i a b hil hb, hP]
     rw [List.getD_eq_getElem?_getD, List.getElem?_append_left (by rw [vec_len]; exact hb), ← List.getD_eq_getElem?_getD]
    rw [mat_congr hst] at hOz'
    exact hOz'
 ·refine ws_exit (nx_then_exit (nx_then_exit (nx_block_exit (nx_then (RsQ (Qx (ox_loadG rfl underlying42 rfl el42 rfl rfl (Seg.blk 0 rfl)) rfl ?_))))))
  refine wl_storeAll 5 [_, _, _, _] rfl el42 rfl rfl rfl (by (simp [ow]; done)) rfl rfl rfl rfl rfl ?_
  refine Qm rfl (RnQ (ws_ret ?_))
  obtain rfl : i = pv.length := by omega
  have hal : ∀ k (hk : k < pv.length), pv[k] < c := fun k hk => hall k hk hk
  refine nx_dropAt 4 rfl (nx_dropAt 3 rfl (nx_dropAt 2 rfl (nx_dropAt 0 rfl ?_)))
  exact nx_retD2 (vs := [_, _, _, _]) 1 rfl rfl rfl underlying42 rfl el42 rfl rfl (⟨l05, F, pv, _, hE, fun _ => ⟨rfl, ew, mz, rfl, rfl, hOz⟩, fun hx => absurd hal hx⟩)
end Go.Proofs.YtdnelknieikbaaaGreat
namespace Go.Proofs.YtdnelknieikbaaaGreat
open Tryz
open Go.Eng Go.RowKit Go.Lin
theorem eye_rt {p : Int} {n : Nat} (hp : IsP p) (hn : n ≤ 400) : RtM p n n eye := ⟨hp, hn, hn, fun i _ j _ => by
 have := hp.1
 unfold eye
 split <;> omega⟩
theorem frank_v (p : Int) (n : Nat) (f : Nat → Nat → Int) (ev : Value) (h : Hp) (R : RtM p n n f) (hR : RdL cI 1 h [] ev (mat n n f)) (hf : ∀ F pv, Ech p n n f F pv → pv.length = n) (ms : List Hp) :
  FnV Tryz.prog 96 #[.agg #[.int .i64 p, .int .i64 n, .int .i64 n, ev]] h ms (.int .i64 n) :=
 fnv ((frank_ok p n n f ev h R hR).mono fun r h' ms' ⟨_, _, F, pv, e, hE⟩ => by rw [e, hf F pv hE]) ms
theorem inverse_ok (p : Int) (n : Nat) (f : Nat → Nat → Int) (ev : Value) (h : Hp) (R : RtM p n n f) (hR : RdL cI 1 h [] ev (mat n n f)) (hf : ∀ F pv, Ech p n n f F pv → pv.length = n) (hp : ∀ F pv, Ech p n (n + n) (jn n f eye) F pv → ∀ k (hk : k < pv.length), pv[k] < n) :
  FnT Tryz.prog 132 #[.agg #[.int .i64 p, .int .i64 n, .int .i64 n, ev]] h [] (fun x h' ms' => h.le h' ∧ ∃ (F : Nat → Nat → Int) (pv : List Nat) (v : Value), Ech p n (n + n) (jn n f eye) F pv ∧ x = .tuple #[v, .bool true] ∧ MadeM v ms' (mkM p n n (solf pv F n))) := by
 have nl := R.rl
 refine fn_enter func132 ntmps132 rfl rfl (fun w0 hw0 => ?_)
 simp only [argS]
 refine RsQ ?_
 refine wl_box [_, _, _, _] rfl rfl (by rfl) rfl rfl rfl (fun g1 => ?_)
 refine AlQ [.int .i64 0, .int .i64 0, .int .i64 0, .slice none 0 0] rfl el42 rfl rfl (fun g2 => Qm rfl (RnQ (ws_freezeBi 1 rfl fun h1 l1 hS => ?_)))
 have hR := hR.up l1
 have hA := Seg.all hS
 have hA0 := hA 0 _ rfl
 refine ws_seq (ws_seq (ws_draw 15 fol (by kernel_rfl) rfl (wr_x (ox_loadG rfl underlying42 rfl el42 rfl rfl (Seg.any hS)) rfl rfl (wr_x (ox_call rfl call73 rfl (right_t R hR _)) rfl rfl (wr_x (ox_not rfl rfl) rfl rfl (wr_x (ox_move rfl rfl) rfl rfl (wr_gx (ox_fieldF fd42_1 rfl rfl) rfl rfl rfl rfl (wr_gx (ox_load rfl underlying3 rfl rfl (hA _ _ rfl _)) rfl rfl rfl rfl (wr_gx (ox_fieldF fd42_2 rfl rfl) rfl rfl rfl rfl (wr_gx (ox_load rfl underlying3 rfl rfl (hA _ _ rfl _)) rfl rfl rfl rfl (wr_gx (ox_nei rfl rfl rfl) rfl rfl rfl rfl (wr_x (ox_pick_f rfl rfl rfl) rfl rfl (wr_x (ox_move rfl rfl) rfl rfl ?_)))))))))))))
 refine wr_split (t := 14) rfl (fun hs => ?_) (fun hs => ?_)
 ·exact absurd hs (by simp)
 ·refine wr_gx (ox_loadG rfl underlying42 rfl el42 rfl rfl (Seg.any hS)) rfl rfl rfl rfl (wr_gx (ox_call rfl call96 rfl (frank_v p n f ev _ R hR hf _)) rfl rfl rfl rfl (wr_gx (ox_fieldF fd42_1 rfl rfl) rfl rfl rfl rfl (wr_gx (ox_load rfl underlying3 rfl rfl (hA _ _ rfl _)) rfl rfl rfl rfl (wr_nil (Qg (ox_lss rfl rfl rfl) rfl (Qx (ox_pick_f rfl rfl rfl) rfl (RnQ (ws_if rfl (fun hc => absurd hc (by omega)) (fun hc => ws_skip (nx_then ?_))))))))))
  refine ws_cut (fun s hh ms' => ∃ (F : Nat → Nat → Int) (pv : List Nat) (ew : Value) (m : Hp), s = [(2, .pointer (some ⟨g2, 0, none⟩)), (3, .bool true)] ∧ h.le hh ∧ ms' = [m, Blk g2 42 [.int .i64 p, .int .i64 n, .int .i64 n, ew]] ∧ Ech p n (n + n) (jn n f eye) F pv ∧ OwnL cI 1 3 m ew (mat n n (solf pv F n))) ?_ (fun s h ms hI => ?_)
  ·refine ws_stab (n := 11) (bs := [true, true, true, true, true, false, false, false, false, false, false]) [true, true, true, true, true] fol (by kernel_rfl) (by kernel_rfl) rfl rfl (Qp rfl (ox_loadG rfl underlying42 rfl el42 rfl rfl (Seg.any hS)) (Qp rfl (ox_fieldF fd42_0 rfl rfl) (Qp rfl (ox_load rfl underlying3 rfl rfl (hA0 _)) (Qp rfl (ox_fieldF fd42_1 rfl rfl) (Qp rfl (ox_load rfl underlying3 rfl rfl (hA _ _ rfl _)) ?_)))))
   unfold PZs
   simp only [List.cons_append, List.nil_append]
   refine Qo 5 rfl (wl_call rfl call87 rfl (one_ok p n h1 R.pr nl) rfl rfl rfl (fun v h3 ms3 l3 hF => ?_))
   obtain ⟨rfl, eo, mo, rfl, rfl, hOo⟩ := hF
   refine Qw (Qo 6 rfl (wl_freezeL hOo fun h4 l4 hRo => (wl_call rfl call115 rfl (solve_ok p n n n f eye ev eo h4 R (eye_rt R.pr nl) (by omega) (hR.up l4) hRo) rfl rfl rfl (fun v h5 ms5 l5 hF => ?_))))
   have l15 := Hp.le_trans l4 l5
   obtain ⟨l5, F, pv, v', hE, hyes, _⟩ := hF
   obtain ⟨rfl, ew, m, rfl, rfl, hO⟩ := hyes (hp F pv hE)
   have oe : ew.oneCell' = true := (hO.rd (h := h) (ms := [m]) (List.Mem.head _)).rd.one
   refine Qa (wb_step [7, 8] (by kernel_rfl) rfl ?_)
   refine wbl_cons rfl ?_ ?_
   ·refine Qx (ox_extract rfl rfl rfl) rfl (Qa (Qo 8 rfl (Qx (ox_extract rfl rfl rfl) rfl (Qa (Qo 9 rfl ?_)))))
    refine wl_storeAll 1 [_, _, _, _] rfl el42 rfl rfl rfl (by (simp [oe]; done)) rfl rfl rfl rfl rfl ?_
    refine Qa (Qo 10 rfl (Qm rfl (Qa (Qe ?_))))
    refine nx_meet _ ⟨F, pv, ew, m, rfl, Hp.le_trans l1 (Hp.le_trans l4 l5), rfl, hE, hO⟩ Qs
   refine wbl_cons rfl ?_ ?_
   ·refine Qx (ox_extract rfl rfl rfl) rfl (Qa (Qo 7 rfl (Qx (ox_extract rfl rfl rfl) rfl (Qa (Qo 9 rfl ?_)))))
    refine wl_storeAll 1 [_, _, _, _] rfl el42 rfl rfl rfl (by (simp [oe]; done)) rfl rfl rfl rfl rfl ?_
    refine Qa (Qo 10 rfl (Qm rfl (Qa (Qe ?_))))
    refine nx_meet _ ⟨F, pv, ew, m, rfl, Hp.le_trans l1 (Hp.le_trans l4 l5), rfl, hE, hO⟩ Qs
   exact wbl_nil
  obtain ⟨F, pv, ew, m, rfl, hl, rfl, hE, hO⟩ := hI
  ·refine ws_ret ?_
   exact nx_retD2 (vs := [_, _, _, _]) 1 rfl rfl rfl underlying42 rfl el42 rfl rfl (⟨hl, F, pv, _, hE, rfl, ew, m, rfl, rfl, hO⟩)
end Go.Proofs.YtdnelknieikbaaaGreat
namespace Go.Proofs.YtdnelknieikbaaaGreat
open Go.Eng Go.RowKit Go.Lin
variable {a b i : Nat}
abbrev tt : Nat → Bool := fun _ => true
theorem cnt_tt (n : Nat) : cnt n tt = n := by
 unfold cnt sel
 rw [List.filter_eq_self.2 (by simp)]
 exact List.length_range
theorem comb_tt (n : Nat) (c : Nat → Int) (v : Nat → Nat → Int) (i : Nat) : comb n tt c v i = sm n fun l => c l * v l i := sm_congr fun l _ => if_pos rfl
def piv (pv : List Nat) (y : Nat → Int) (a : Nat) : Int := if pv.idxOf a < pv.length then y (pv.idxOf a) else 0
section
variable {p : Int} {r c : Nat} {f F : Nat → Nat → Int} {pv : List Nat}
theorem _root_.Go.Lin.Red.nodup (R : Red p r c f F pv c) : pv.Nodup := List.Pairwise.imp (fun h => Nat.ne_of_lt h) R.sorted
theorem piv_at (hn : pv.Nodup) (y : Nat → Int) {k : Nat} (hk : k < pv.length) : piv pv y pv[k] = y k := by
 unfold piv
 rw [hn.idxOf_getElem k hk, if_pos hk]
theorem piv_no (y : Nat → Int) (h : a ∉ pv) : piv pv y a = 0 := by
 unfold piv
 rw [if_neg]
 intro h2
 exact h (List.idxOf_lt_length_iff.1 h2)
theorem piv_yes (hn : pv.Nodup) (y : Nat → Int) (h : a ∈ pv) : ∃ k, ∃ hk : k < pv.length, pv[k] = a ∧ piv pv y a = y k := by
 obtain ⟨k, hk, rfl⟩ := List.mem_iff_getElem.1 h
 exact ⟨k, hk, rfl, piv_at hn y hk⟩
theorem ap_sub (A : Nat → Nat → Int) (n : Nat) (x y : Nat → Int) (i : Nat) : ap A n (fun a => x a - y a) i = ap A n x i - ap A n y i := by
 unfold ap
 rw [← sm_sub]
 exact sm_congr fun j _ => Int.mul_sub _ _ _
theorem ap_add (A : Nat → Nat → Int) (n : Nat) (x y : Nat → Int) (i : Nat) : ap A n (fun a => x a + y a) i = ap A n x i + ap A n y i := by
 unfold ap
 rw [← sm_add]
 exact sm_congr fun j _ => Int.mul_add _ _ _
theorem ap_one (A : Nat → Nat → Int) (n : Nat) (hb : b < n) (i : Nat) : ap A n (fun a => if a = b then 1 else 0) i = A i b := by
 unfold ap
 rw [sm_one n b _ hb fun k _ hne => by simp [hne]]
 simp
theorem pivot_sum (R : Red p r c f F pv c) (y : Nat → Int) (hi : i < r) : ap F c (piv pv y) i = if i < pv.length then y i else 0 := by
 unfold ap
 by_cases h : i < pv.length
 ·rw [if_pos h, sm_one c pv[i] _ (R.lt i h) fun b hb hne => ?_]
  ·rw [R.col i hi i h, if_pos rfl, piv_at R.nodup y h, Int.one_mul]
  ·by_cases hm : b ∈ pv
   ·obtain ⟨k, hk, rfl⟩ := List.mem_iff_getElem.1 hm
    rw [R.col i hi k hk, if_neg (fun e => hne (by subst e; rfl)), Int.zero_mul]
   ·rw [piv_no y hm, Int.mul_zero]
 ·rw [if_neg h]
  exact sm_zero' fun b hb => by rw [R.low i hi (by omega) b hb, Int.zero_mul]
theorem ker_col (R : Red p r c f F pv c) (hb : b < c) (hi : i < r) : Cg p (f i b) (ap f c (piv pv fun k => F k b) i) := by
 have h := (R.ker fun a => (if a = b then 1 else 0) - piv pv (fun k => F k b) a).1 (fun i hi => Cg.of_eq (by
  rw [ap_sub, ap_one F c hb, pivot_sum R _ hi]
  split
  ·exact Int.sub_self _
  ·rename_i hl
   rw [R.low i hi (by omega) b hb]; rfl)) i hi
 rw [ap_sub, ap_one f c hb] at h
 have := Cg.add h (Cg.refl p (ap f c (piv pv fun k => F k b) i))
 rw [Int.zero_add, Int.sub_add_cancel] at this
 exact this
theorem piv_ind (R : Red p r c f F pv c) : Ind p c (fun b => pv.contains b) r (fun l i => f i l) := by
 intro x hx l hl hb
 obtain ⟨k, hk, rfl⟩ := List.mem_iff_getElem.1 (List.contains_iff_mem.1 hb)
 have e : ∀ a, a < c → piv pv (fun k => x (pv.getD k 0)) a = if pv.contains a then x a else 0 := fun a _ => by
  by_cases hm : a ∈ pv
  ·rw [if_pos (List.contains_iff_mem.2 hm)]
   obtain ⟨k, hk, rfl, e2⟩ := piv_yes R.nodup (fun k => x (pv.getD k 0)) hm
   rw [e2, pv_getD hk]
  ·rw [piv_no _ hm, if_neg (fun h => hm (List.contains_iff_mem.1 h))]
 have h := (R.ker (piv pv fun k => x (pv.getD k 0))).2 (fun i hi => Cg.trans (Cg.of_eq ?_) (hx i hi)) k (by have := R.len; omega)
 ·rw [pivot_sum R _ (by have := R.len; omega), if_pos hk, pv_getD hk] at h
  unfold Cg at h; rwa [Int.sub_zero] at h
 ·unfold ap comb
  exact sm_congr fun a ha => by
   rw [e a ha]
   split
   ·exact Int.mul_comm _ _
   ·exact Int.mul_zero _
theorem piv_spn (R : Red p r c f F pv c) (hb : b < c) : Spn p c (fun b => pv.contains b) r (fun l i => f i l) (fun i => f i b) := by
 refine ⟨piv pv fun k => F k b, fun i hi => (ker_col R hb hi).trans (Cg.of_eq ?_)⟩
 unfold ap comb
 exact sm_congr fun a _ => by
  by_cases hm : a ∈ pv
  ·rw [if_pos (List.contains_iff_mem.2 hm)]; exact Int.mul_comm _ _
  ·rw [if_neg (fun h => hm (List.contains_iff_mem.1 h)), piv_no _ hm, Int.mul_zero]
theorem sel_sorted {pv : List Nat} {c : Nat} (hs : pv.Pairwise (· < ·)) (hc : ∀ a ∈ pv, a < c) : sel c (fun b => pv.contains b) = pv := by
 refine List.Perm.eq_of_pairwise (le := (· < ·)) (fun a b _ _ h1 h2 => by omega) (List.Pairwise.filter _ List.pairwise_lt_range) hs ?_
 refine List.Perm.symm ?_
 have hn : pv.Nodup := List.Pairwise.imp (fun h => Nat.ne_of_lt h) hs
 exact (List.perm_ext_iff_of_nodup hn (sel_nodup c _)).2 fun a => by
  rw [mem_sel]
  exact ⟨fun h => ⟨hc a h, List.contains_iff_mem.2 h⟩, fun h => List.contains_iff_mem.1 h.2⟩
theorem _root_.Go.Lin.Red.mem_lt (R : Red p r c f F pv c) : ∀ a ∈ pv, a < c := fun a ha => by
 obtain ⟨k, hk, rfl⟩ := List.mem_iff_getElem.1 ha
 exact R.lt k hk
theorem piv_cnt (R : Red p r c f F pv c) : cnt c (fun b => pv.contains b) = pv.length := by
 unfold cnt; rw [sel_sorted R.sorted R.mem_lt]
theorem _root_.Go.Lin.Red.lenc (R : Red p r c f F pv c) : pv.length ≤ c := by
 rw [← piv_cnt R]
 unfold cnt sel
 exact Nat.le_trans (List.length_filter_le _ _) (by simp)
theorem piv_indL (R : Red p r c f F pv c) : Ind p pv.length tt r (fun l i => f i (pv.getD l 0)) := by
 intro x hx l hl _
 have h := piv_ind R (fun a => x (pv.idxOf a)) (fun i hi => Cg.trans (Cg.of_eq ?_) (hx i hi)) pv[l] (R.lt l hl) (List.contains_iff_mem.2 (List.getElem_mem hl))
 ·rwa [R.nodup.idxOf_getElem l hl] at h
 ·rw [comb_tt]
  unfold comb
  rw [sm_sel c (fun b => pv.contains b) fun a => x (pv.idxOf a) * f i a, piv_cnt R, sel_sorted R.sorted R.mem_lt]
  exact sm_congr fun t ht => by rw [pv_getD ht, R.nodup.idxOf_getElem t ht]
theorem full_ind (Fp : Fld p) (R : Red p r c f F pv c) : pv.length = c ↔ Ind p c tt r (fun l i => f i l) := by
 constructor
 ·intro h
  have hall : ∀ l, l < c → pv.contains l = true := by
   have h1 := piv_cnt R
   rw [h] at h1
   intro l hl
   have h2 : sel c (fun b => pv.contains b) = List.range c := List.filter_sublist.eq_of_length (by rw [List.length_range]; exact h1)
   exact (mem_sel.1 (h2 ▸ List.mem_range.2 hl)).2
  intro x hx l hl _
  exact piv_ind R x (fun i hi => Cg.trans (Cg.of_eq (sm_congr fun a ha => by
   show (if pv.contains a = true then _ else _) = if true = true then _ else _
   rw [hall a ha])) (hx i hi)) l hl (hall l hl)
 ·intro h
  have h1 := exchange Fp h (n' := c) (b' := fun b => pv.contains b) (v' := fun l i => f i l) fun l hl _ => piv_spn R hl
  rw [cnt_tt, piv_cnt R] at h1
  have := R.lenc
  omega
theorem ind_turn {n : Nat} {f : Nat → Nat → Int} (Fp : Fld p) (hI : Ind p n tt n (fun l i => f i l)) : Ind p n tt n (fun l i => f l i) := by
 intro u hu k hk _
 obtain ⟨x, hx⟩ := spans Fp hI (cnt_tt n) (fun i => if i = k then 1 else 0)
 have h1 : Cg p (u k) (sm n fun i => u i * comb n tt x (fun l i => f i l) i) := by
  refine Cg.trans (Cg.of_eq ?_) (Cg.sm fun i hi => Cg.mul (Cg.refl p (u i)) (hx i hi))
  rw [sm_one n k _ hk fun i _ hne => by simp [hne]]
  simp
 have h2 : (sm n fun i => u i * comb n tt x (fun l i => f i l) i) = sm n fun l => x l * comb n tt u (fun l i => f l i) l := by
  have e1 : ∀ i, i < n → u i * comb n tt x (fun l i => f i l) i = sm n fun l => x l * (u i * f i l) := fun i _ => by
   rw [comb_tt, ← sm_mul]
   exact sm_congr fun l _ => by rw [← Int.mul_assoc, ← Int.mul_assoc, Int.mul_comm (u i)]
  rw [sm_congr e1, sm_comm]
  refine sm_congr fun l _ => ?_
  rw [comb_tt, ← sm_mul]
 have h3 : Cg p (sm n fun l => x l * comb n tt u (fun l i => f l i) l) 0 := by
  refine Cg.trans (Cg.sm fun l hl => Cg.mul (Cg.refl p (x l)) (hu l hl)) (Cg.of_eq (sm_zero' fun l _ => Int.mul_zero _))
 rw [h2] at h1
 have := h1.trans h3
 unfold Cg at this; rwa [Int.sub_zero] at this
end
section
variable {p : Int} {r c c' : Nat} {f g F : Nat → Nat → Int} {pv : List Nat}
theorem jn_lt (f g : Nat → Nat → Int) (i : Nat) (h : a < c) : jn c f g i a = f i a := if_pos h
theorem jn_ge (f g : Nat → Nat → Int) (i s : Nat) : jn c f g i (c + s) = g i s := by
 unfold jn; rw [if_neg (by omega), Nat.add_sub_cancel_left]
theorem ap_jn (x : Nat → Int) (i : Nat) : ap (jn c f g) (c + c') x i = ap f c x i + ap g c' (fun s => x (c + s)) i := by
 unfold ap
 rw [sm_split]
 congr 1
 ·exact sm_congr fun a ha => by rw [jn_lt f g i ha]
 ·exact sm_congr fun s _ => by rw [jn_ge]
theorem solve_sol (R : Red p r (c + c') (jn c f g) F pv (c + c')) (hlt : ∀ k (hk : k < pv.length), pv[k] < c) {s : Nat} (hs : s < c') (hi : i < r) : Cg p (ap f c (fun a => solf pv F c a s) i) (g i s) := by
 have h := ker_col R (b := c + s) (by omega) hi
 rw [jn_ge, ap_jn] at h
 have hz : ap g c' (fun t => piv pv (fun k => F k (c + s)) (c + t)) i = 0 := sm_zero' fun t _ => by
  show g i t * piv pv (fun k => F k (c + s)) (c + t) = 0
  rw [piv_no _ (fun hm => ?_), Int.mul_zero]
  obtain ⟨k, hk, e⟩ := List.mem_iff_getElem.1 hm
  have := hlt k hk
  omega
 rw [hz, Int.add_zero] at h
 exact h.symm
theorem solve_no (hp : 2 ≤ p) (R : Red p r (c + 1) (jn c f g) F pv (c + 1)) (hno : ¬ ∀ k (hk : k < pv.length), pv[k] < c) (x : Nat → Int) : ¬ ∀ i, i < r → Cg p (ap f c x i) (g i 0) := by
 intro h
 have ⟨k, hk, hge⟩ : ∃ k, ∃ hk : k < pv.length, c ≤ pv[k] := by
  refine Classical.byContradiction fun hcon => hno fun k hk => ?_
  refine Nat.lt_of_not_le fun hle => hcon ⟨k, hk, hle⟩
 have hkc : pv[k] = c := by have := R.lt k hk; omega
 have hkr : k < r := by have := R.len; omega
 have h2 := (R.ker fun a => if a < c then x a else -1).2 (fun i hi => ?_) k hkr
 ·have e : ap F (c + 1) (fun a => if a < c then x a else -1) k = -1 := by
   unfold ap
   rw [sm_one (c + 1) c _ (by omega) fun b hb hne => by rw [R.left k hk b (by omega), Int.zero_mul]]
   have := R.col k hkr k hk
   rw [hkc, if_pos rfl] at this
   rw [this]
   show 1 * (if c < c then x c else -1) = -1
   rw [if_neg (by omega)]; rfl
  rw [e] at h2
  obtain ⟨q, hq⟩ := h2
  have : p ∣ 1 := ⟨-q, by rw [Int.mul_neg, ← hq]; rfl⟩
  have := Int.le_of_dvd (by decide) this
  omega
 ·rw [ap_jn]
  have e1 : ap f c (fun a => if a < c then x a else -1) i = ap f c x i := sm_congr fun a ha => by
   show f i a * (if a < c then x a else -1) = _
   rw [if_pos ha]
  have e2 : ap g 1 (fun s => if c + s < c then x (c + s) else -1) i = - g i 0 := by
   unfold ap
   rw [sm_one 1 0 _ (by omega) fun b hb hne => absurd (by omega) hne]
   show g i 0 * (if c + 0 < c then x (c + 0) else -1) = _
   rw [if_neg (by omega)]
   omega
  rw [e1, e2]
  have := Cg.sub (h i hi) (Cg.refl p (g i 0))
  rw [Int.sub_self] at this
  exact Cg.trans (Cg.of_eq (by omega)) this
theorem front_piv (hp : 2 ≤ p) (R : Red p r (c + c') (jn c f g) F pv (c + c')) (hI : Ind p c tt r (fun l i => f i l)) {l : Nat} (hl : l < c) : l ∈ pv := by
 refine Classical.byContradiction fun hm => ?_
 have h1 : ∀ i, i < r → Cg p (comb c tt (fun a => (if a = l then 1 else 0) - piv pv (fun k => F k l) a) (fun l i => f i l) i) 0 := fun i hi => by
  have h := ker_col R (b := l) (by omega) hi
  rw [jn_lt f g i hl, ap_jn] at h
  have hz : ap g c' (fun t => piv pv (fun k => F k l) (c + t)) i = 0 := sm_zero' fun t _ => by
   show g i t * piv pv (fun k => F k l) (c + t) = 0
   by_cases hmt : c + t ∈ pv
   ·obtain ⟨k, hk, e, e2⟩ := piv_yes R.nodup (fun k => F k l) hmt
    rw [e2, R.left k hk l (by omega), Int.mul_zero]
   ·rw [piv_no _ hmt, Int.mul_zero]
  rw [hz, Int.add_zero] at h
  have e : comb c tt (fun a => (if a = l then 1 else 0) - piv pv (fun k => F k l) a) (fun l i => f i l) i = f i l - ap f c (piv pv fun k => F k l) i := by
   rw [← ap_one f c hl, ← ap_sub, comb_tt]
   exact sm_congr fun a _ => Int.mul_comm _ _
  rw [e]
  have := Cg.sub h (Cg.refl p (ap f c (piv pv fun k => F k l) i))
  rwa [Int.sub_self] at this
 have := hI _ h1 l hl rfl
 rw [if_pos rfl, piv_no _ hm] at this
 have := Int.le_of_dvd (by decide) this
 omega
theorem eye_ind (hp : 2 ≤ p) (n : Nat) : Ind p n tt n (fun l i => eye i l) := by
 intro x hx l hl _
 have := hx l hl
 rw [comb_tt, sm_one n l _ hl fun k _ hne => by unfold eye; rw [if_neg (Ne.symm hne), Int.mul_zero]] at this
 unfold eye at this
 rw [if_pos rfl, Int.mul_one] at this
 unfold Cg at this; rwa [Int.sub_zero] at this
theorem eye_full (Fp : Fld p) (hp : 2 ≤ p) (R : Red p r (c + r) (jn c f eye) F pv (c + r)) : pv.length = r := by
 have h1 := exchange Fp (eye_ind hp r) (n' := c + r) (b' := fun b => pv.contains b) (v' := fun l i => jn c f eye i l) fun l hl _ => by
  have := piv_spn R (b := c + l) (by omega)
  have e : (fun i => jn c f eye i (c + l)) = fun i => eye i l := funext fun i => jn_ge f eye i l
  rwa [e] at this
 rw [cnt_tt, piv_cnt R] at h1
 have := R.len
 omega
theorem sorted_front {pv : List Nat} (hs : pv.Pairwise (· < ·)) {c : Nat} (hf : ∀ l, l < c → l ∈ pv) : ∀ l, l < c → ∃ h : l < pv.length, pv[l] = l := by
 have hmono := List.pairwise_iff_getElem.1 hs
 have key : ∀ k (hk : k < pv.length), k ≤ pv[k] := by
  intro k
  induction k with
  | zero => intro _; exact Nat.zero_le _
  | succ k ih => intro hk; have h1 := ih (by omega); have h2 := hmono k (k + 1) (by omega) hk (by omega); omega
 intro l
 induction l using Nat.strongRecOn with
 | _ l ih =>
  intro hl
  obtain ⟨k, hk, e⟩ := List.mem_iff_getElem.1 (hf l hl)
  have h1 := key k hk
  rcases (by omega : k = l ∨ k < l) with rfl | h2
  ·exact ⟨hk, e⟩
  ·obtain ⟨h3, e3⟩ := ih k h2 (by omega)
   omega
theorem inv_ok (Fp : Fld p) (hp : 2 ≤ p) {n : Nat} {f F : Nat → Nat → Int} {pv : List Nat} (hI : Ind p n tt n (fun l i => f i l)) (R : Red p n (n + n) (jn n f eye) F pv (n + n)) : ∀ k (hk : k < pv.length), pv[k] < n := by
 have hlen := eye_full Fp hp R
 have hfr := sorted_front R.sorted (fun l hl => front_piv hp R hI hl)
 intro k hk
 obtain ⟨_, e⟩ := hfr k (by omega)
 omega
end
end Go.Proofs.YtdnelknieikbaaaGreat
namespace Go.Proofs.YtdnelknieikbaaaGreat
open Tryz
open Go.Eng Go.RowKit Go.Lin
def cV (v : Value) : List Value := [v]
theorem cV_len : ∀ v, (cV v).length = 1 := fun _ => rfl
def RdV (h : Hp) (v : Value) (n d : Nat) (w : Nat → Nat → Int) : Prop := ∃ vs : List Value, vs.length = n ∧ RdL cV 1 h [] v vs ∧ ∀ j (hj : j < vs.length), RdL cI 1 h [] vs[j] (vec d (w j))
theorem RdV.up {h h' : Hp} {v : Value} {n d : Nat} {w : Nat → Nat → Int} (R : RdV h v n d w) (hl : h.le h') : RdV h' v n d w := by
 obtain ⟨vs, h1, h2, h3⟩ := R
 exact ⟨vs, h1, h2.up hl, fun j hj => (h3 j hj).up hl⟩
def colp (w : Nat → Nat → Int) (j i a b : Nat) : Int := if b < j ∨ (b = j ∧ a < i) then w b a else 0
theorem colp_zero (w : Nat → Nat → Int) (a b : Nat) : colp w 0 0 a b = 0 := if_neg (by omega)
theorem colp_step (w : Nat → Nat → Int) (j i a b : Nat) : upd2 (colp w j i) i j (w j i) a b = colp w j (i + 1) a b := by
 unfold upd2 colp
 by_cases h : a = i ∧ b = j
 ·rw [if_pos h, if_pos (by omega), h.1, h.2]
 ·rw [if_neg h]
  by_cases h2 : b < j ∨ (b = j ∧ a < i)
  ·rw [if_pos h2, if_pos (by omega)]
  ·rw [if_neg h2, if_neg (by omega)]
theorem colp_next (w : Nat → Nat → Int) (j d a b : Nat) (ha : a < d) : colp w j d a b = colp w (j + 1) 0 a b := by
 unfold colp
 by_cases h2 : b < j ∨ (b = j ∧ a < d)
 ·rw [if_pos h2, if_pos (by omega)]
 ·rw [if_neg h2, if_neg (by omega)]
theorem colp_all (w : Nat → Nat → Int) (n a b : Nat) (hb : b < n) : colp w n 0 a b = w b a := if_pos (.inl hb)
theorem columns_ok (p : Int) (d n : Nat) (w : Nat → Nat → Int) (vl : Value) (h : Hp) (hp : I64 p) (hd : d ≤ 400) (hn : n ≤ 400) (hR : RdV h vl n d w) :
  FnT Tryz.prog 97 #[.int .i64 p, .int .i64 d, vl] h [] (fun x h' ms' => h = h' ∧ MadeM x ms' (mkM p d n fun i j => w j i)) := by
 obtain ⟨vs, hvs, hRv, hRe⟩ := hR
 have hdn : d * n ≤ 400 * 400 := Nat.mul_le_mul hd hn
 have hdv : d * vs.length = d * n := by rw [hvs]
 subst hvs
 refine fn_enter func97 ntmps97 rfl rfl (fun w0 hw0 => ?_)
 simp only [argS]
 refine RsQ (AlQ [.int .i64 0, .int .i64 0, .int .i64 0, .slice none 0 0] rfl el42 rfl rfl (fun g6 => RtQ (Qm rfl (Qm rfl (Qm rfl (Qx (ox_lenR hRv.rd.any rfl underlying62 rfl) rfl (Qm rfl (Qm rfl (Qx (ox_lenR hRv.rd.any rfl underlying62 rfl) rfl (Qx (ox_mul rfl rfl rfl (by omega)) rfl ?_))))))))))
 refine wl_make (n := d * vs.length) rfl underlying24 el3 rfl rfl rfl (by rfl) (by rfl) (by omega) (by omega) rfl rfl rfl (fun g20 => ?_)
 refine Qx (ox_buildS st42 [.int .i64 0, .int .i64 0, .int .i64 0, .slice none 0 0] [(0, _), (1, _), (2, _), (3, _)] [_, _, _, _] rfl el42 rfl rfl (by repeat (first | exact trivial | refine ⟨⟨rfl, rfl, rfl⟩, ?_⟩)) rfl) rfl ?_
 refine AlQ [.int .i64 0, .int .i64 0, .int .i64 0, .slice none 0 0] rfl el42 rfl rfl (fun g7 => ?_)
 refine wl_storeAll 0 [_, _, _, _] rfl el42 rfl rfl rfl (by (simp [Value.oneCell']; done)) rfl rfl rfl rfl rfl ?_
 refine RnQ (ws_seq (RsQ (Qm rfl (Qx (ox_lenR hRv.rd.any rfl underlying62 rfl) rfl (Qm rfl (RnQ (ws_block ?_)))))))
 have hO0 := OwnL.rep (g := g20) (el := 3) (d * vs.length) 0 (by omega)
 rw [mat_rep] at hO0
 refine ws_loop (fun q s hh ms' => ∃ (j : Nat) (m : Hp), q = vs.length - j ∧ s = [(2, vl), (6, .pointer (some ⟨g6, 0, none⟩)), (7, .pointer (some ⟨g7, 0, none⟩)), (22, vl), (23, .int .i64 vs.length), (24, .int .i64 j)] ∧ h = hh ∧ ms' = [Blk g7 42 [.int .i64 p, .int .i64 d, .int .i64 vs.length, .slice (some ⟨g20, 0, none⟩) (d * vs.length) (d * vs.length)], m, Blk g6 42 [.int .i64 0, .int .i64 0, .int .i64 0, .slice none 0 0]] ∧ j ≤ vs.length ∧ OwnL cI 1 3 m (.slice (some ⟨g20, 0, none⟩) (d * vs.length) (d * vs.length)) (mat d vs.length (colp w j 0)))
  (vs.length - 0) _ ⟨0, _, rfl, rfl, rfl, rfl, by omega, by rw [mat_congr (fun a _ b _ => colp_zero w a b)]; exact hO0⟩ Qs ?_
 rintro q s hh ms' ⟨j, m, rfl, rfl, rfl, rfl, hj, hO⟩
 refine RsQ (Qx (ox_lss rfl rfl rfl) rfl (RnQ (ws_seq ?_)))
 refine ws_if rfl (fun hlt => ?_) (fun hlt => ?_)
 ·have hjn : j < vs.length := by omega
  have hRj := hRe j hjn
  refine ws_skip (nx_then (ws_seq (ws_block (RsQ (Qm rfl (Qx (ox_indexR _ hRv.rd.any rfl underlying62 el24 rfl rfl rfl (by omega)) rfl (Qx (ox_load rfl underlying24 rfl rfl (hRv.any.cell0 hjn rfl)) rfl (Qm rfl (Qm rfl (RtQ (Qm rfl (Qx (ox_lenR hRj.rd.any rfl underlying24 rfl) rfl (Qm rfl (RnQ (ws_block ?_)))))))))))))))
  refine ws_loop (fun q s hh ms' => ∃ (i : Nat) (m : Hp), q = d - i ∧ s = [(2, vl), (6, .pointer (some ⟨g6, 0, none⟩)), (7, .pointer (some ⟨g7, 0, none⟩)), (8, .int .i64 j), (22, vl), (23, .int .i64 vs.length), (24, .int .i64 j), (29, vs[j]), (30, .int .i64 ((vec d (w j)).length : Nat)), (31, .int .i64 i)] ∧ h = hh ∧ ms' = [Blk g7 42 [.int .i64 p, .int .i64 d, .int .i64 vs.length, .slice (some ⟨g20, 0, none⟩) (d * vs.length) (d * vs.length)], m, Blk g6 42 [.int .i64 0, .int .i64 0, .int .i64 0, .slice none 0 0]] ∧ i ≤ d ∧ OwnL cI 1 3 m (.slice (some ⟨g20, 0, none⟩) (d * vs.length) (d * vs.length)) (mat d vs.length (colp w j i)))
   (d - 0) _ ⟨0, m, rfl, rfl, rfl, rfl, by omega, hO⟩ Qs ?_
  rintro q s hh ms' ⟨i, m, rfl, rfl, rfl, rfl, hi, hO⟩
  have ev := vec_len d (w j)
  refine RsQ (Qx (ox_lss rfl rfl rfl) rfl (RnQ (ws_seq ?_)))
  refine ws_if rfl (fun hlt2 => ?_) (fun hlt2 => ?_)
  ·have hid : i < d := by omega
   have hix := ix_lt hid hjn
   have el : (mat d vs.length (colp w j i)).length = d * vs.length := mat_len _ _ _
   refine ws_skip (nx_then (ws_seq (ws_block (RsQ (Qm rfl (Qx (ox_indexR (i) hRj.rd.any rfl underlying24 el3 rfl rfl (by omega) (by omega)) rfl (Qx (ox_load rfl underlying3 rfl rfl (hRj.any.ev hid)) rfl (Qm rfl (Qm rfl (RrQ (Qx (ox_fieldF fd42_3 rfl rfl) rfl (Qx (ox_load rfl underlying24 rfl rfl (Cell.blk 0 rfl rfl)) rfl (Qm rfl (Qm rfl (Qx (ox_lenR hRv.rd.any rfl underlying62 rfl) rfl (Qx (ox_mul rfl rfl rfl (by omega)) rfl (Qm rfl (Qx (ox_add rfl rfl rfl (by omega)) rfl (Qm rfl (Qx (ox_index (i * vs.length + j) rfl underlying24 el3 rfl rfl (by omega) (by omega)) rfl (wl_storeN 1 (i * vs.length + j) hO rfl el3 rfl rfl rfl (by omega) rfl rfl (fun m' hO' => wl_nil (nx_block (nx_then (ws_region (Qx (ox_add rfl rfl rfl (by omega)) rfl (Qm rfl (wl_nil ?_))))))))))))))))))))))))))))
   refine nx_round (d - (i + 1)) _ (by omega) ⟨i + 1, m', rfl, rfl, rfl, rfl, by omega, ?_⟩ Qs
   rw [mat_set _ hjn, mat_congr (fun a _ b _ => colp_step w j i a b)] at hO'
   exact hO'
  ·refine ws_exit (nx_then_exit (nx_then_exit (nx_block_exit (nx_block (nx_then (ws_region (Qx (ox_add rfl rfl rfl (by omega)) rfl (Qm rfl (wl_nil ?_)))))))))
   refine nx_round (vs.length - (j + 1)) _ (by omega) ⟨j + 1, m, rfl, rfl, rfl, rfl, by omega, ?_⟩ Qs
   rw [show i = d by omega, mat_congr (fun a ha b _ => colp_next w j d a b ha)] at hO
   exact hO
 ·refine ws_exit (nx_then_exit (nx_then_exit (nx_block_exit (nx_then (RsQ (Qx (ox_loadG rfl underlying42 rfl el42 rfl rfl (Seg.blk 0 rfl)) rfl ?_))))))
  refine wl_storeAll 2 [_, _, _, _] rfl el42 rfl rfl rfl (by (simp [Value.oneCell']; done)) rfl rfl rfl rfl rfl ?_
  refine RnQ (ws_ret (nx_dropAt 0 rfl ?_))
  exact nx_retD (vs := [_, _, _, _]) 1 rfl rfl underlying42 rfl el42 rfl rfl (⟨rfl, _, m, rfl, rfl, by rw [show j = vs.length by omega, mat_congr (fun a _ b hb => colp_all w vs.length a b hb)] at hO; exact hO⟩)
end Go.Proofs.YtdnelknieikbaaaGreat
namespace Go.Proofs.YtdnelknieikbaaaGreat
open Tryz
open Go.Eng Go.RowKit Go.Lin
theorem RdL.one1 {h : Hp} {g : Nat} {v : Value} (hS : Seg h [] ⟨g, 0, none⟩ [v]) : RdL cV 1 h [] (.slice (some ⟨g, 0, none⟩) 1 1) [v] :=
 ⟨⟨_, 1, rfl, Nat.le_refl _, by omega, rfl, fun _ => ⟨_, rfl, hS⟩⟩, cV_len⟩
def clp (f : Nat → Nat → Int) (j i a : Nat) : Int := if a < i then f a j else 0
theorem clp_step (f : Nat → Nat → Int) (j i a : Nat) : (if a = i then f i j else clp f j i a) = clp f j (i + 1) a := by
 unfold clp
 by_cases h : a = i
 ·rw [if_pos h, if_pos (by omega), h]
 ·rw [if_neg h]
  by_cases h2 : a < i
  ·rw [if_pos h2, if_pos (by omega)]
  ·rw [if_neg h2, if_neg (by omega)]
theorem column_ok (p : Int) (r c : Nat) (f : Nat → Nat → Int) (ev : Value) (j : Nat) (h : Hp) (hr : r ≤ 400) (hc : c ≤ 400) (hj : j < c) (hR : RdL cI 1 h [] ev (mat r c f)) :
  FnT Tryz.prog 89 #[.agg #[.int .i64 p, .int .i64 r, .int .i64 c, ev], .int .i64 j] h [] (fun x h' ms' => h = h' ∧ ∃ m, ms' = [m] ∧ OwnL cI 1 3 m x (vec r fun i => f i j)) := by
 have o1 := hR.rd.one
 have hrc : r * c ≤ 400 * 400 := Nat.mul_le_mul hr hc
 refine fn_enter func89 ntmps89 rfl rfl (fun w0 hw0 => ?_)
 simp only [argS]
 refine RsQ ?_
 refine wl_box [_, _, _, _] rfl rfl (by rfl) rfl rfl rfl (fun g2 => ?_)
 refine Qm rfl (RtQ (Qx (ox_fieldF fd42_1 rfl rfl) rfl (Qx (ox_load rfl underlying3 rfl rfl (Cell.blk 0 rfl rfl)) rfl ?_)))
 refine wl_make (n := r) rfl underlying24 el3 rfl rfl rfl (by rfl) (by rfl) (by omega) (by omega) rfl rfl rfl (fun g9 => ?_)
 refine Qm rfl (RnQ (ws_seq (RsQ (Qm rfl (Qx (ox_len (ty := 24) rfl underlying24 rfl) rfl (Qm rfl (RnQ (ws_block ?_))))))))
 have hO0 := OwnL.rep (g := g9) (el := 3) r 0 (by omega)
 rw [vec_rep] at hO0
 refine ws_loop (fun q s hh ms' => ∃ (i : Nat) (m : Hp), q = r - i ∧ s = [(1, .int .i64 j), (2, .pointer (some ⟨g2, 0, none⟩)), (5, .slice (some ⟨g9, 0, none⟩) r r), (11, .int .i64 r), (12, .int .i64 i)] ∧ h = hh ∧ ms' = [m, Blk g2 42 [.int .i64 p, .int .i64 r, .int .i64 c, ev]] ∧ i ≤ r ∧ OwnL cI 1 3 m (.slice (some ⟨g9, 0, none⟩) r r) (vec r (clp f j i)))
  (r - 0) _ ⟨0, _, rfl, rfl, rfl, rfl, by omega, by rw [vec_congr (f := clp f j 0) (g := fun _ => 0) (fun a _ => if_neg (by omega))]; exact hO0⟩ Qs ?_
 rintro q s hh ms' ⟨i, m, rfl, rfl, rfl, rfl, hi, hO⟩
 refine RsQ (Qx (ox_lss rfl rfl rfl) rfl (RnQ (ws_seq ?_)))
 refine ws_if rfl (fun hlt => ?_) (fun hlt => ?_)
 ·have hir : i < r := by omega
  have hix := ix_lt hir hj
  have el : (mat r c f).length = r * c := mat_len _ _ _
  have el2 := vec_len r (clp f j i)
  refine ws_skip (nx_then (ws_seq (ws_block (RsQ (Qm rfl (Qm rfl (RrQ (Qm rfl (Qm rfl (Qx (ox_fieldF fd42_3 rfl rfl) rfl (Qx (ox_load rfl underlying24 rfl rfl (Cell.blk 1 rfl rfl)) rfl (Qm rfl (Qx (ox_fieldF fd42_2 rfl rfl) rfl (Qx (ox_load rfl underlying3 rfl rfl (Cell.blk 1 rfl rfl)) rfl (Qx (ox_mul rfl rfl rfl (by omega)) rfl (Qm rfl (Qx (ox_add rfl rfl rfl (by omega)) rfl (Qx (ox_indexR (i * c + j) hR.rd.any rfl underlying24 el3 rfl rfl (by omega) (by omega)) rfl (Qx (ox_load rfl underlying3 rfl rfl (hR.any.ent hir hj)) rfl (Qx (ox_index (i) rfl underlying24 el3 rfl rfl (by omega) (by omega)) rfl (wl_storeN 0 i hO rfl el3 rfl rfl rfl (by omega) rfl rfl (fun m' hO' => wl_nil (nx_block (nx_then (ws_region (Qx (ox_add rfl rfl rfl (by omega)) rfl (Qm rfl (wl_nil ?_))))))))))))))))))))))))))))
  refine nx_round (r - (i + 1)) _ (by omega) ⟨i + 1, m', rfl, rfl, rfl, rfl, by omega, ?_⟩ Qs
  rw [vec_set, vec_congr (fun a _ => clp_step f j i a)] at hO'
  exact hO'
 ·refine ws_exit (nx_then_exit (nx_then_exit (nx_block_exit (nx_then (RsQ (Qm rfl (Qm rfl (RnQ (ws_ret (nx_dropAt 1 rfl ?_))))))))))
  exact nx_ret1 rfl rfl (⟨rfl, m, rfl, by rw [show i = r by omega, vec_congr (f := clp f j r) (g := fun i => f i j) (fun a ha => if_pos ha)] at hO; exact hO⟩)
theorem nz_v (n : Int) (h : Hp) (ms : List Hp) : FnV Tryz.prog 99 ([] ++ [Value.int .i64 n] ++ []).toArray h ms (.bool (decide (n ≠ 0))) := by
 refine fnv ?_ ms
 show FnT _ _ #[.int .i64 n] _ _ _
 refine fn_enter func99 ntmps99 rfl rfl (fun w0 hw0 => ?_)
 simp only [argS]
 refine RsQ (Qm rfl (RtQ (Qm rfl (Qx (ox_nei rfl rfl rfl) rfl (Qm rfl (RnQ (ws_ret ?_)))))))
 exact nx_ret1 rfl rfl (rfl)
theorem zero_v (l : List Int) (v : Value) (h : Hp) (hR : RdL cI 1 h [] v l) (ms : List Hp) : FnV Tryz.prog 69 #[v] h ms (.bool (decide (∀ x ∈ l, x = 0))) := by
 refine fnv ?_ ms
 refine fn_enter func69 ntmps69 rfl rfl (fun w0 hw0 => ?_)
 simp only [argS]
 refine RsQ (Qm rfl (RtQ (Qm rfl (Qx (ox_call rfl call94 rfl (fnv (containsFunc_ok l v 99 [] (fun n => decide (n ≠ 0)) h hR call99 (fun b _ ms => nz_v b h ms)) _)) rfl (Qx (ox_not rfl rfl) rfl (Qm rfl (RnQ (ws_ret ?_))))))))
 exact nx_ret1 rfl rfl (by congr 1; rw [Bool.eq_iff_iff]; simp)
end Go.Proofs.YtdnelknieikbaaaGreat
namespace Go.Proofs.YtdnelknieikbaaaGreat
open Tryz
open Go.Eng Go.RowKit Go.Lin
def apf (p : Int) (c : Nat) (f : Nat → Nat → Int) (w : Nat → Int) (i : Nat) : Int := ap f c w i % p
theorem apply_ok (p : Int) (r c : Nat) (f : Nat → Nat → Int) (w : Nat → Int) (ev vv : Value) (h : Hp) (R : RtM p r c f) (hw : ∀ j, j < c → 0 ≤ w j ∧ w j < p) (hR : RdL cI 1 h [] ev (mat r c f)) (hV : RdL cI 1 h [] vv (vec c w)) :
  FnT Tryz.prog 67 #[.agg #[.int .i64 p, .int .i64 r, .int .i64 c, ev], vv] h [] (fun x h' ms' => h.le h' ∧ ∃ m, ms' = [m] ∧ OwnL cI 1 3 m x (vec r (apf p c f w))) := by
 have o1 := hR.rd.one
 have o2 := hV.rd.one
 have rl := R.rl
 have cl := R.cl
 have ew := vec_len c w
 have hRd : Rd h [] vv 1 c ((vec c w).flatMap cI) := by have := hV.rd; rwa [ew] at this
 refine fn_enter func67 ntmps67 rfl rfl (fun w0 hw0 => ?_)
 simp only [argS]
 refine RsQ ?_
 refine wl_box [_, _, _, _] rfl rfl (by rfl) rfl rfl rfl (fun g2 => ?_)
 refine Qm rfl (RnQ (ws_freezeBi 0 rfl fun h1 l1 hS => ?_))
 have hR1 := hR.up l1
 have hV1 := hV.up l1
 have hRd1 := hRd.le l1
 have hA := Seg.all hS
 have hA0 := hA 0 _ rfl
 refine ws_cut (fun s hh ms' => ∃ (mu : Hp) (eu : Value) (g5 : Nat), s = [(2, .pointer (some ⟨g2, 0, none⟩)), (5, .pointer (some ⟨g5, 0, none⟩))] ∧ h.le hh ∧ ms' = [mu, Blk g5 42 [.int .i64 p, .int .i64 r, .int .i64 1, eu]] ∧ OwnL cI 1 3 mu eu (mat r 1 (mulf p c f fun a _ => w a))) ?_ (fun s h ms hI => ?_)
 ·have hcol : ∀ (h3 : Hp) (g : Nat), h1.le h3 → Seg h3 [] ⟨g, 0, none⟩ [vv] → RdV h3 (.slice (some ⟨g, 0, none⟩) 1 1) 1 c (fun _ => w) := fun h3 g l hG => ⟨[vv], rfl, RdL.one1 hG, fun j hj => by
   obtain rfl : j = 0 := by simpa using hj
   exact hV1.up l⟩
  refine ws_stab (n := 15) (bs := [true, true, true, true, true, true, false, false, false, false, false, false, false, false, false]) [true, true, true, true, true, true] fol (by kernel_rfl) (by kernel_rfl) rfl rfl (Qp rfl (ox_loadG rfl underlying42 rfl el42 rfl rfl (Seg.any hS)) (Qp rfl (ox_fieldF fd42_0 rfl rfl) (Qp rfl (ox_load rfl underlying3 rfl rfl (hA0 _)) (Qp rfl (ox_move rfl rfl) (Qp rfl (ox_lenR hRd1.any rfl underlying24 rfl) (Qp rfl (ox_move rfl rfl) ?_))))))
  unfold PZs
  simp only [List.cons_append, List.nil_append]
  refine wb_step [6, 12] (by kernel_rfl) rfl ?_
  refine wbl_cons rfl ?_ ?_
  ·refine wl_buildSlice1 [_] rfl underlying62 el24 rfl (Rd.cells ‹_›) rfl rfl (by omega) rfl rfl rfl (fun g14 => wl_freezeB fun h3 l3 hG => ?_)
   have l13 := Hp.le_trans l1 l3
   refine Qa (wb_step [7, 12] (by kernel_rfl) rfl ?_)
   refine wbl_cons rfl ?_ ?_
   ·refine wl_call rfl call97 rfl (columns_ok p c 1 (fun _ => w) _ h3 R.i64 cl (by omega) (hcol h3 _ l3 hG)) rfl rfl rfl (fun v h4 ms4 l4 hF => ?_)
    obtain ⟨rfl, ec, mc, rfl, rfl, hOc⟩ := hF
    refine wl_freezeL hOc fun h5 l5 hRc => ?_
    have l35 := Hp.le_trans l3 l5
    refine Qa (wb_step [8, 12] (by kernel_rfl) rfl ?_)
    refine wbl_cons rfl ?_ ?_
    ·refine wl_call rfl call98 rfl (mul_ok p r c 1 f (fun i j => w i) ev ec h5 R ⟨R.pr, cl, by omega, fun i hi j hj => hw i hi⟩ (hR1.up l35) hRc) rfl rfl rfl (fun v h6 ms6 l6 hF => ?_)
     obtain ⟨rfl, v, rfl, eu, mu, rfl, rfl, hOu⟩ := hF
     have ou : eu.oneCell' = true := (hOu.rd (h := h) (ms := [mu]) (List.Mem.head _)).rd.one
     refine Qa (wb_step [9, 12] (by kernel_rfl) rfl ?_)
     refine wbl_cons rfl ?_ ?_
     ·refine Qm rfl (Qa (wb_step [10, 11, 12] (by kernel_rfl) rfl ?_))
      refine wbl_cons rfl ?_ ?_
      ·refine Qx (ox_extract rfl rfl rfl) rfl (Qa (wb_step [11, 12] (by kernel_rfl) rfl ?_))
       refine wbl_cons rfl ?_ ?_
       ·refine Qx (ox_extract rfl rfl rfl) rfl (Qa (Qo 12 rfl (AlQ [.int .i64 0, .int .i64 0, .int .i64 0, .slice none 0 0] rfl el42 rfl rfl (fun g5 => Qa (Qo 13 rfl ?_)))))
        refine wl_storeAll 0 [_, _, _, _] rfl el42 rfl rfl rfl (by (simp [ou]; done)) rfl rfl rfl rfl rfl ?_
        refine Qa (Qo 14 rfl (Qm rfl (Qa (Qe ?_))))
        exact nx_swap (nx_meet _ ⟨mu, eu, g5, rfl, Hp.le_trans l1 l35, rfl, hOu⟩ Qs)
       refine wbl_cons rfl ?_ ?_
       ·refine AlQ [.int .i64 0, .int .i64 0, .int .i64 0, .slice none 0 0] rfl el42 rfl rfl (fun g5 => Qa (wb_step [11, 13] (by kernel_rfl) rfl ?_))
        refine wbl_cons rfl ?_ ?_
        ·refine Qx (ox_extract rfl rfl rfl) rfl (Qa (Qo 13 rfl ?_))
         refine wl_storeAll 0 [_, _, _, _] rfl el42 rfl rfl rfl (by (simp [ou]; done)) rfl rfl rfl rfl rfl ?_
         refine Qa (Qo 14 rfl (Qm rfl (Qa (Qe ?_))))
         exact nx_swap (nx_meet _ ⟨mu, eu, g5, rfl, Hp.le_trans l1 l35, rfl, hOu⟩ Qs)
        refine wbl_cons rfl ?_ ?_
        ·refine wl_storeAll 0 [_, _, _, _] rfl el42 rfl rfl rfl (by (simp [ou]; done)) rfl rfl rfl rfl rfl ?_
         refine Qa (Qo 11 rfl (Qx (ox_extract rfl rfl rfl) rfl (Qa (Qo 14 rfl (Qm rfl (Qa (Qe ?_)))))))
         exact nx_swap (nx_meet _ ⟨mu, eu, g5, rfl, Hp.le_trans l1 l35, rfl, hOu⟩ Qs)
        exact wbl_nil
       exact wbl_nil
      refine wbl_cons rfl ?_ ?_
      ·refine Qx (ox_extract rfl rfl rfl) rfl (Qa (wb_step [10, 12] (by kernel_rfl) rfl ?_))
       refine wbl_cons rfl ?_ ?_
       ·refine Qx (ox_extract rfl rfl rfl) rfl (Qa (Qo 12 rfl (AlQ [.int .i64 0, .int .i64 0, .int .i64 0, .slice none 0 0] rfl el42 rfl rfl (fun g5 => Qa (Qo 13 rfl ?_)))))
        refine wl_storeAll 0 [_, _, _, _] rfl el42 rfl rfl rfl (by (simp [ou]; done)) rfl rfl rfl rfl rfl ?_
        refine Qa (Qo 14 rfl (Qm rfl (Qa (Qe ?_))))
        exact nx_swap (nx_meet _ ⟨mu, eu, g5, rfl, Hp.le_trans l1 l35, rfl, hOu⟩ Qs)
       refine wbl_cons rfl ?_ ?_
       ·refine AlQ [.int .i64 0, .int .i64 0, .int .i64 0, .slice none 0 0] rfl el42 rfl rfl (fun g5 => Qa (Qo 10 rfl (Qx (ox_extract rfl rfl rfl) rfl (Qa (Qo 13 rfl ?_)))))
        refine wl_storeAll 0 [_, _, _, _] rfl el42 rfl rfl rfl (by (simp [ou]; done)) rfl rfl rfl rfl rfl ?_
        refine Qa (Qo 14 rfl (Qm rfl (Qa (Qe ?_))))
        exact nx_swap (nx_meet _ ⟨mu, eu, g5, rfl, Hp.le_trans l1 l35, rfl, hOu⟩ Qs)
       exact wbl_nil
      refine wbl_cons rfl ?_ ?_
      ·refine AlQ [.int .i64 0, .int .i64 0, .int .i64 0, .slice none 0 0] rfl el42 rfl rfl (fun g5 => Qa (wb_step [10, 11] (by kernel_rfl) rfl ?_))
       refine wbl_cons rfl ?_ ?_
       ·refine Qx (ox_extract rfl rfl rfl) rfl (Qa (wb_step [11, 13] (by kernel_rfl) rfl ?_))
        refine wbl_cons rfl ?_ ?_
        ·refine Qx (ox_extract rfl rfl rfl) rfl (Qa (Qo 13 rfl ?_))
         refine wl_storeAll 0 [_, _, _, _] rfl el42 rfl rfl rfl (by (simp [ou]; done)) rfl rfl rfl rfl rfl ?_
         refine Qa (Qo 14 rfl (Qm rfl (Qa (Qe ?_))))
         exact nx_swap (nx_meet _ ⟨mu, eu, g5, rfl, Hp.le_trans l1 l35, rfl, hOu⟩ Qs)
        refine wbl_cons rfl ?_ ?_
        ·refine wl_storeAll 0 [_, _, _, _] rfl el42 rfl rfl rfl (by (simp [ou]; done)) rfl rfl rfl rfl rfl ?_
         refine Qa (Qo 11 rfl (Qx (ox_extract rfl rfl rfl) rfl (Qa (Qo 14 rfl (Qm rfl (Qa (Qe ?_)))))))
         exact nx_swap (nx_meet _ ⟨mu, eu, g5, rfl, Hp.le_trans l1 l35, rfl, hOu⟩ Qs)
        exact wbl_nil
       refine wbl_cons rfl ?_ ?_
       ·refine Qx (ox_extract rfl rfl rfl) rfl (Qa (Qo 10 rfl (Qx (ox_extract rfl rfl rfl) rfl (Qa (Qo 13 rfl ?_)))))
        refine wl_storeAll 0 [_, _, _, _] rfl el42 rfl rfl rfl (by (simp [ou]; done)) rfl rfl rfl rfl rfl ?_
        refine Qa (Qo 14 rfl (Qm rfl (Qa (Qe ?_))))
        exact nx_swap (nx_meet _ ⟨mu, eu, g5, rfl, Hp.le_trans l1 l35, rfl, hOu⟩ Qs)
       exact wbl_nil
      exact wbl_nil
     refine wbl_cons rfl ?_ ?_
     ·refine AlQ [.int .i64 0, .int .i64 0, .int .i64 0, .slice none 0 0] rfl el42 rfl rfl (fun g5 => Qa (Qo 9 rfl (Qm rfl (Qa (wb_step [10, 11] (by kernel_rfl) rfl ?_)))))
      refine wbl_cons rfl ?_ ?_
      ·refine Qx (ox_extract rfl rfl rfl) rfl (Qa (wb_step [11, 13] (by kernel_rfl) rfl ?_))
       refine wbl_cons rfl ?_ ?_
       ·refine Qx (ox_extract rfl rfl rfl) rfl (Qa (Qo 13 rfl ?_))
        refine wl_storeAll 0 [_, _, _, _] rfl el42 rfl rfl rfl (by (simp [ou]; done)) rfl rfl rfl rfl rfl ?_
        refine Qa (Qo 14 rfl (Qm rfl (Qa (Qe ?_))))
        exact nx_swap (nx_meet _ ⟨mu, eu, g5, rfl, Hp.le_trans l1 l35, rfl, hOu⟩ Qs)
       refine wbl_cons rfl ?_ ?_
       ·refine wl_storeAll 0 [_, _, _, _] rfl el42 rfl rfl rfl (by (simp [ou]; done)) rfl rfl rfl rfl rfl ?_
        refine Qa (Qo 11 rfl (Qx (ox_extract rfl rfl rfl) rfl (Qa (Qo 14 rfl (Qm rfl (Qa (Qe ?_)))))))
        exact nx_swap (nx_meet _ ⟨mu, eu, g5, rfl, Hp.le_trans l1 l35, rfl, hOu⟩ Qs)
       exact wbl_nil
      refine wbl_cons rfl ?_ ?_
      ·refine Qx (ox_extract rfl rfl rfl) rfl (Qa (Qo 10 rfl (Qx (ox_extract rfl rfl rfl) rfl (Qa (Qo 13 rfl ?_)))))
       refine wl_storeAll 0 [_, _, _, _] rfl el42 rfl rfl rfl (by (simp [ou]; done)) rfl rfl rfl rfl rfl ?_
       refine Qa (Qo 14 rfl (Qm rfl (Qa (Qe ?_))))
       exact nx_swap (nx_meet _ ⟨mu, eu, g5, rfl, Hp.le_trans l1 l35, rfl, hOu⟩ Qs)
      exact wbl_nil
     exact wbl_nil
    refine wbl_cons rfl ?_ ?_
    ·refine AlQ [.int .i64 0, .int .i64 0, .int .i64 0, .slice none 0 0] rfl el42 rfl rfl (fun g5 => Qa (Qo 8 rfl ?_))
     refine wl_call rfl call98 rfl (mul_ok p r c 1 f (fun i j => w i) ev ec h5 R ⟨R.pr, cl, by omega, fun i hi j hj => hw i hi⟩ (hR1.up l35) hRc) rfl rfl rfl (fun v h6 ms6 l6 hF => ?_)
     obtain ⟨rfl, v, rfl, eu, mu, rfl, rfl, hOu⟩ := hF
     have ou : eu.oneCell' = true := (hOu.rd (h := h) (ms := [mu]) (List.Mem.head _)).rd.one
     refine Qa (Qo 9 rfl (Qm rfl (Qa (wb_step [10, 11] (by kernel_rfl) rfl ?_))))
     refine wbl_cons rfl ?_ ?_
     ·refine Qx (ox_extract rfl rfl rfl) rfl (Qa (wb_step [11, 13] (by kernel_rfl) rfl ?_))
      refine wbl_cons rfl ?_ ?_
      ·refine Qx (ox_extract rfl rfl rfl) rfl (Qa (Qo 13 rfl ?_))
       refine wl_storeAll 1 [_, _, _, _] rfl el42 rfl rfl rfl (by (simp [ou]; done)) rfl rfl rfl rfl rfl ?_
       refine Qa (Qo 14 rfl (Qm rfl (Qa (Qe ?_))))
       exact nx_meet _ ⟨mu, eu, g5, rfl, Hp.le_trans l1 l35, rfl, hOu⟩ Qs
      refine wbl_cons rfl ?_ ?_
      ·refine wl_storeAll 1 [_, _, _, _] rfl el42 rfl rfl rfl (by (simp [ou]; done)) rfl rfl rfl rfl rfl ?_
       refine Qa (Qo 11 rfl (Qx (ox_extract rfl rfl rfl) rfl (Qa (Qo 14 rfl (Qm rfl (Qa (Qe ?_)))))))
       exact nx_meet _ ⟨mu, eu, g5, rfl, Hp.le_trans l1 l35, rfl, hOu⟩ Qs
      exact wbl_nil
     refine wbl_cons rfl ?_ ?_
     ·refine Qx (ox_extract rfl rfl rfl) rfl (Qa (Qo 10 rfl (Qx (ox_extract rfl rfl rfl) rfl (Qa (Qo 13 rfl ?_)))))
      refine wl_storeAll 1 [_, _, _, _] rfl el42 rfl rfl rfl (by (simp [ou]; done)) rfl rfl rfl rfl rfl ?_
      refine Qa (Qo 14 rfl (Qm rfl (Qa (Qe ?_))))
      exact nx_meet _ ⟨mu, eu, g5, rfl, Hp.le_trans l1 l35, rfl, hOu⟩ Qs
     exact wbl_nil
    exact wbl_nil
   refine wbl_cons rfl ?_ ?_
   ·refine AlQ [.int .i64 0, .int .i64 0, .int .i64 0, .slice none 0 0] rfl el42 rfl rfl (fun g5 => Qa (Qo 7 rfl (wl_call rfl call97 rfl (columns_ok p c 1 (fun _ => w) _ h3 R.i64 cl (by omega) (hcol h3 _ l3 hG)) rfl rfl rfl (fun v h4 ms4 l4 hF => ?_))))
    obtain ⟨rfl, ec, mc, rfl, rfl, hOc⟩ := hF
    refine wl_freezeL hOc fun h5 l5 hRc => ?_
    have l35 := Hp.le_trans l3 l5
    refine Qa (Qo 8 rfl ?_)
    refine wl_call rfl call98 rfl (mul_ok p r c 1 f (fun i j => w i) ev ec h5 R ⟨R.pr, cl, by omega, fun i hi j hj => hw i hi⟩ (hR1.up l35) hRc) rfl rfl rfl (fun v h6 ms6 l6 hF => ?_)
    obtain ⟨rfl, v, rfl, eu, mu, rfl, rfl, hOu⟩ := hF
    have ou : eu.oneCell' = true := (hOu.rd (h := h) (ms := [mu]) (List.Mem.head _)).rd.one
    refine Qa (Qo 9 rfl (Qm rfl (Qa (wb_step [10, 11] (by kernel_rfl) rfl ?_))))
    refine wbl_cons rfl ?_ ?_
    ·refine Qx (ox_extract rfl rfl rfl) rfl (Qa (wb_step [11, 13] (by kernel_rfl) rfl ?_))
     refine wbl_cons rfl ?_ ?_
     ·refine Qx (ox_extract rfl rfl rfl) rfl (Qa (Qo 13 rfl ?_))
      refine wl_storeAll 1 [_, _, _, _] rfl el42 rfl rfl rfl (by (simp [ou]; done)) rfl rfl rfl rfl rfl ?_
      refine Qa (Qo 14 rfl (Qm rfl (Qa (Qe ?_))))
      exact nx_meet _ ⟨mu, eu, g5, rfl, Hp.le_trans l1 l35, rfl, hOu⟩ Qs
     refine wbl_cons rfl ?_ ?_
     ·refine wl_storeAll 1 [_, _, _, _] rfl el42 rfl rfl rfl (by (simp [ou]; done)) rfl rfl rfl rfl rfl ?_
      refine Qa (Qo 11 rfl (Qx (ox_extract rfl rfl rfl) rfl (Qa (Qo 14 rfl (Qm rfl (Qa (Qe ?_)))))))
      exact nx_meet _ ⟨mu, eu, g5, rfl, Hp.le_trans l1 l35, rfl, hOu⟩ Qs
     exact wbl_nil
    refine wbl_cons rfl ?_ ?_
    ·refine Qx (ox_extract rfl rfl rfl) rfl (Qa (Qo 10 rfl (Qx (ox_extract rfl rfl rfl) rfl (Qa (Qo 13 rfl ?_)))))
     refine wl_storeAll 1 [_, _, _, _] rfl el42 rfl rfl rfl (by (simp [ou]; done)) rfl rfl rfl rfl rfl ?_
     refine Qa (Qo 14 rfl (Qm rfl (Qa (Qe ?_))))
     exact nx_meet _ ⟨mu, eu, g5, rfl, Hp.le_trans l1 l35, rfl, hOu⟩ Qs
    exact wbl_nil
   exact wbl_nil
  refine wbl_cons rfl ?_ ?_
  ·refine AlQ [.int .i64 0, .int .i64 0, .int .i64 0, .slice none 0 0] rfl el42 rfl rfl (fun g5 => Qw (Qo 6 rfl (wl_buildSlice1 [_] rfl underlying62 el24 rfl (Rd.cells ‹_›) rfl rfl (by omega) rfl rfl rfl (fun g14 => wl_freezeB fun h3 l3 hG => ?_))))
   have l13 := Hp.le_trans l1 l3
   refine Qa (Qo 7 rfl (wl_call rfl call97 rfl (columns_ok p c 1 (fun _ => w) _ h3 R.i64 cl (by omega) (hcol h3 _ l3 hG)) rfl rfl rfl (fun v h4 ms4 l4 hF => ?_)))
   obtain ⟨rfl, ec, mc, rfl, rfl, hOc⟩ := hF
   refine wl_freezeL hOc fun h5 l5 hRc => ?_
   have l35 := Hp.le_trans l3 l5
   refine Qa (Qo 8 rfl ?_)
   refine wl_call rfl call98 rfl (mul_ok p r c 1 f (fun i j => w i) ev ec h5 R ⟨R.pr, cl, by omega, fun i hi j hj => hw i hi⟩ (hR1.up l35) hRc) rfl rfl rfl (fun v h6 ms6 l6 hF => ?_)
   obtain ⟨rfl, v, rfl, eu, mu, rfl, rfl, hOu⟩ := hF
   have ou : eu.oneCell' = true := (hOu.rd (h := h) (ms := [mu]) (List.Mem.head _)).rd.one
   refine Qa (Qo 9 rfl (Qm rfl (Qa (wb_step [10, 11] (by kernel_rfl) rfl ?_))))
   refine wbl_cons rfl ?_ ?_
   ·refine Qx (ox_extract rfl rfl rfl) rfl (Qa (wb_step [11, 13] (by kernel_rfl) rfl ?_))
    refine wbl_cons rfl ?_ ?_
    ·refine Qx (ox_extract rfl rfl rfl) rfl (Qa (Qo 13 rfl ?_))
     refine wl_storeAll 1 [_, _, _, _] rfl el42 rfl rfl rfl (by (simp [ou]; done)) rfl rfl rfl rfl rfl ?_
     refine Qa (Qo 14 rfl (Qm rfl (Qa (Qe ?_))))
     exact nx_meet _ ⟨mu, eu, g5, rfl, Hp.le_trans l1 l35, rfl, hOu⟩ Qs
    refine wbl_cons rfl ?_ ?_
    ·refine wl_storeAll 1 [_, _, _, _] rfl el42 rfl rfl rfl (by (simp [ou]; done)) rfl rfl rfl rfl rfl ?_
     refine Qa (Qo 11 rfl (Qx (ox_extract rfl rfl rfl) rfl (Qa (Qo 14 rfl (Qm rfl (Qa (Qe ?_)))))))
     exact nx_meet _ ⟨mu, eu, g5, rfl, Hp.le_trans l1 l35, rfl, hOu⟩ Qs
    exact wbl_nil
   refine wbl_cons rfl ?_ ?_
   ·refine Qx (ox_extract rfl rfl rfl) rfl (Qa (Qo 10 rfl (Qx (ox_extract rfl rfl rfl) rfl (Qa (Qo 13 rfl ?_)))))
    refine wl_storeAll 1 [_, _, _, _] rfl el42 rfl rfl rfl (by (simp [ou]; done)) rfl rfl rfl rfl rfl ?_
    refine Qa (Qo 14 rfl (Qm rfl (Qa (Qe ?_))))
    exact nx_meet _ ⟨mu, eu, g5, rfl, Hp.le_trans l1 l35, rfl, hOu⟩ Qs
   exact wbl_nil
  exact wbl_nil
 obtain ⟨mu, eu, g5, rfl, hl, rfl, hOu⟩ := hI
 ·refine ws_seq (ws_region (Qx (ox_loadG rfl underlying42 rfl el42 rfl rfl (Seg.blk 1 rfl)) rfl (wl_freezeL hOu fun h7 l7 hRu => (wl_call rfl call89 rfl (column_ok p r 1 (mulf p c f fun a _ => w a) eu 0 h7 rl (by omega) (by omega) hRu) rfl rfl rfl (fun x h8 ms8 l8 hF => ?_)))))
  obtain ⟨rfl, m, rfl, hO⟩ := hF
  refine Qm rfl (RnQ (ws_ret (nx_dropAt 1 rfl ?_)))
  exact nx_ret1 rfl rfl (⟨Hp.le_trans hl l7, m, rfl, hO⟩)
end Go.Proofs.YtdnelknieikbaaaGreat
namespace Go.Proofs.YtdnelknieikbaaaGreat
open Tryz
open Go.Eng Go.RowKit Go.Lin
variable {l : List Int}
def lmin : List Int → Int
 | [] => 0
 | a :: l => l.foldl min a
def lmax : List Int → Int
 | [] => 0
 | a :: l => l.foldl max a
theorem foldl_min_le : ∀ (l : List Int) (a : Int), l.foldl min a ≤ a ∧ (∀ x ∈ l, l.foldl min a ≤ x) ∧ (l.foldl min a = a ∨ l.foldl min a ∈ l)
 | [], a => ⟨Int.le_refl _, by simp, .inl rfl⟩
 | b :: l, a => by
  obtain ⟨h1, h2, h3⟩ := foldl_min_le l (min a b)
  rw [List.foldl_cons]
  refine ⟨by omega, fun x hx => ?_, ?_⟩
  ·rcases List.mem_cons.1 hx with rfl | hx
   ·omega
   ·exact h2 x hx
  ·rcases h3 with h3 | h3
   ·rw [h3]
    rcases (by omega : min a b = a ∨ min a b = b) with h | h
    ·exact .inl h
    ·exact .inr (by rw [h]; exact List.mem_cons_self)
   ·exact .inr (List.mem_cons_of_mem _ h3)
theorem foldl_max_le : ∀ (l : List Int) (a : Int), a ≤ l.foldl max a ∧ (∀ x ∈ l, x ≤ l.foldl max a) ∧ (l.foldl max a = a ∨ l.foldl max a ∈ l)
 | [], a => ⟨Int.le_refl _, by simp, .inl rfl⟩
 | b :: l, a => by
  obtain ⟨h1, h2, h3⟩ := foldl_max_le l (max a b)
  rw [List.foldl_cons]
  refine ⟨by omega, fun x hx => ?_, ?_⟩
  ·rcases List.mem_cons.1 hx with rfl | hx
   ·omega
   ·exact h2 x hx
  ·rcases h3 with h3 | h3
   ·rw [h3]
    rcases (by omega : max a b = a ∨ max a b = b) with h | h
    ·exact .inl h
    ·exact .inr (by rw [h]; exact List.mem_cons_self)
   ·exact .inr (List.mem_cons_of_mem _ h3)
theorem lmin_neg (hl : 0 < l.length) : lmin l < 0 ↔ ∃ x ∈ l, x < 0 := by
 cases l with
 | nil => simp at hl
 | cons a l =>
  obtain ⟨h1, h2, h3⟩ := foldl_min_le l a
  show l.foldl min a < 0 ↔ _
  constructor
  ·intro h
   rcases h3 with h3 | h3
   ·exact ⟨a, List.mem_cons_self, by omega⟩
   ·exact ⟨_, List.mem_cons_of_mem _ h3, h⟩
  ·rintro ⟨x, hx, h⟩
   rcases List.mem_cons.1 hx with rfl | hx
   ·omega
   ·have := h2 x hx; omega
theorem lmax_big (hl : 0 < l.length) (n : Int) : n < lmax l ↔ ∃ x ∈ l, n < x := by
 cases l with
 | nil => simp at hl
 | cons a l =>
  obtain ⟨h1, h2, h3⟩ := foldl_max_le l a
  show n < l.foldl max a ↔ _
  constructor
  ·intro h
   rcases h3 with h3 | h3
   ·exact ⟨a, List.mem_cons_self, by omega⟩
   ·exact ⟨_, List.mem_cons_of_mem _ h3, h⟩
  ·rintro ⟨x, hx, h⟩
   rcases List.mem_cons.1 hx with rfl | hx
   ·omega
   ·have := h2 x hx; omega
theorem lmin_take {k : Nat} (hk : k < l.length) (h0 : 0 < k) : lmin (l.take (k + 1)) = min (lmin (l.take k)) l[k] := by
 cases l with
 | nil => simp at hk
 | cons a l =>
  obtain ⟨k, rfl⟩ : ∃ j, k = j + 1 := ⟨k - 1, by omega⟩
  simp only [List.length_cons] at hk
  have hk' : k < l.length := by omega
  rw [List.take_succ_cons, List.take_succ_cons]
  show (l.take (k + 1)).foldl min a = min ((l.take k).foldl min a) l[k]
  rw [List.take_add_one, List.getElem?_eq_getElem hk', Option.toList_some, List.foldl_append]
  rfl
theorem lmax_take {k : Nat} (hk : k < l.length) (h0 : 0 < k) : lmax (l.take (k + 1)) = max (lmax (l.take k)) l[k] := by
 cases l with
 | nil => simp at hk
 | cons a l =>
  obtain ⟨k, rfl⟩ : ∃ j, k = j + 1 := ⟨k - 1, by omega⟩
  simp only [List.length_cons] at hk
  have hk' : k < l.length := by omega
  rw [List.take_succ_cons, List.take_succ_cons]
  show (l.take (k + 1)).foldl max a = max ((l.take k).foldl max a) l[k]
  rw [List.take_add_one, List.getElem?_eq_getElem hk', Option.toList_some, List.foldl_append]
  rfl
theorem min_v (l : List Int) (v : Value) (h : Hp) (hR : RdL cI 1 h [] v l) (hl : 0 < l.length) (ms : List Hp) : FnV Tryz.prog 71 #[v] h ms (.int .i64 (lmin l)) := by
 refine fnv ?_ ms
 have hle := hR.len_le
 refine fn_enter func71 ntmps71 rfl rfl (fun w0 hw0 => ?_)
 simp only [argS]
 refine RsQ (Qm rfl (RnQ (ws_seq (RsQ (Qm rfl (Qx (ox_lenR hR.rd.any rfl underlying24 rfl) rfl (Qx (ox_lss rfl rfl rfl) rfl (RnQ (ws_if rfl (fun hc => absurd hc (by omega)) (fun hc => ws_skip (nx_then (RsQ (Qm rfl (Qx (ox_indexR 0 hR.rd.any rfl underlying24 el3 rfl rfl rfl (by omega)) rfl (Qx (ox_load rfl underlying3 rfl rfl (hR.any.cell0 hl rfl)) rfl (Qm rfl (RnQ (ws_seq (RsQ (Qm rfl (RnQ (ws_block ?_))))))))))))))))))))))
 refine ws_loop (fun q s h' ms' => ∃ (k : Nat) (y : Int), q = l.length - k ∧ s = [(0, v), (3, .int .i64 y), (4, .int .i64 k)] ∧ h = h' ∧ ms' = [] ∧ y = lmin (l.take k) ∧ 0 < k ∧ k ≤ l.length)
  (l.length - 1) _ ⟨1, _, rfl, rfl, rfl, rfl, ?_, by omega, by omega⟩ Qs ?_
 ·cases l with
  | nil => simp at hl
  | cons a l => rfl
 rintro q s h' ms' ⟨k, y, rfl, rfl, rfl, rfl, hy, h0, hk⟩
 refine ws_seq (RsQ (Qm rfl (Qm rfl (Qx (ox_lenR hR.rd.any rfl underlying24 rfl) rfl (Qx (ox_lss rfl rfl rfl) rfl (RnQ ?_))))))
 refine ws_if rfl (fun hlt => ?_) (fun hlt => ?_)
 ·have hlt' : k < l.length := by omega
  have htk := lmin_take hlt' h0
  refine ws_skip (nx_then (ws_seq (ws_block (ws_region (Qm rfl (Qm rfl (Qm rfl (Qx (ox_indexR _ hR.rd.any rfl underlying24 el3 rfl rfl rfl (by omega)) rfl (Qx (ox_load rfl underlying3 rfl rfl (hR.any.cell0 hlt' rfl)) rfl (Qx (ox_min rfl rfl rfl) rfl (Qm rfl (wl_nil (nx_block (nx_then (ws_region (Qm rfl (Qx (ox_add rfl rfl rfl (by omega)) rfl (Qm rfl (wl_nil ?_)))))))))))))))))))
  refine nx_round (l.length - (k + 1)) _ (by omega) ⟨k + 1, min y l[k], rfl, rfl, rfl, rfl, by rw [htk, hy], by omega, by omega⟩ Qs
 ·refine ws_exit (nx_then_exit (nx_then_exit (nx_block_exit (nx_then (RsQ (Qm rfl (Qm rfl (RnQ (ws_ret ?_)))))))))
  exact nx_ret1 rfl rfl (by rw [hy, List.take_of_length_le (show l.length ≤ k by omega)])
theorem max_v (l : List Int) (v : Value) (h : Hp) (hR : RdL cI 1 h [] v l) (hl : 0 < l.length) (ms : List Hp) : FnV Tryz.prog 72 #[v] h ms (.int .i64 (lmax l)) := by
 refine fnv ?_ ms
 have hle := hR.len_le
 refine fn_enter func72 ntmps72 rfl rfl (fun w0 hw0 => ?_)
 simp only [argS]
 refine RsQ (Qm rfl (RnQ (ws_seq (RsQ (Qm rfl (Qx (ox_lenR hR.rd.any rfl underlying24 rfl) rfl (Qx (ox_lss rfl rfl rfl) rfl (RnQ (ws_if rfl (fun hc => absurd hc (by omega)) (fun hc => ws_skip (nx_then (RsQ (Qm rfl (Qx (ox_indexR 0 hR.rd.any rfl underlying24 el3 rfl rfl rfl (by omega)) rfl (Qx (ox_load rfl underlying3 rfl rfl (hR.any.cell0 hl rfl)) rfl (Qm rfl (RnQ (ws_seq (RsQ (Qm rfl (RnQ (ws_block ?_))))))))))))))))))))))
 refine ws_loop (fun q s h' ms' => ∃ (k : Nat) (y : Int), q = l.length - k ∧ s = [(0, v), (3, .int .i64 y), (4, .int .i64 k)] ∧ h = h' ∧ ms' = [] ∧ y = lmax (l.take k) ∧ 0 < k ∧ k ≤ l.length)
  (l.length - 1) _ ⟨1, _, rfl, rfl, rfl, rfl, ?_, by omega, by omega⟩ Qs ?_
 ·cases l with
  | nil => simp at hl
  | cons a l => rfl
 rintro q s h' ms' ⟨k, y, rfl, rfl, rfl, rfl, hy, h0, hk⟩
 refine ws_seq (RsQ (Qm rfl (Qm rfl (Qx (ox_lenR hR.rd.any rfl underlying24 rfl) rfl (Qx (ox_lss rfl rfl rfl) rfl (RnQ ?_))))))
 refine ws_if rfl (fun hlt => ?_) (fun hlt => ?_)
 ·have hlt' : k < l.length := by omega
  have htk := lmax_take hlt' h0
  refine ws_skip (nx_then (ws_seq (ws_block (ws_region (Qm rfl (Qm rfl (Qm rfl (Qx (ox_indexR _ hR.rd.any rfl underlying24 el3 rfl rfl rfl (by omega)) rfl (Qx (ox_load rfl underlying3 rfl rfl (hR.any.cell0 hlt' rfl)) rfl (Qx (ox_max rfl rfl rfl) rfl (Qm rfl (wl_nil (nx_block (nx_then (ws_region (Qm rfl (Qx (ox_add rfl rfl rfl (by omega)) rfl (Qm rfl (wl_nil ?_)))))))))))))))))))
  refine nx_round (l.length - (k + 1)) _ (by omega) ⟨k + 1, max y l[k], rfl, rfl, rfl, rfl, by rw [htk, hy], by omega, by omega⟩ Qs
 ·refine ws_exit (nx_then_exit (nx_then_exit (nx_block_exit (nx_then (RsQ (Qm rfl (Qm rfl (RnQ (ws_ret ?_)))))))))
  exact nx_ret1 rfl rfl (by rw [hy, List.take_of_length_le (show l.length ≤ k by omega)])
end Go.Proofs.YtdnelknieikbaaaGreat
namespace Go.Proofs.YtdnelknieikbaaaGreat
open Tryz
open Go.Eng Go.RowKit Go.Lin
variable {h : Hp} {ms : List Hp}
structure Ar where
 b : Bool
 M : FM
 v : Value
def cA (a : Ar) : List Value := [.bool a.b, .int .i64 a.M.p, .int .i64 a.M.rows, .int .i64 a.M.cols, a.v]
theorem cA_len : ∀ a, (cA a).length = 5 := fun _ => rfl
structure Zz where
 p : Int
 dims : List Int
 ars : List Ar
def Zz.dim (Z : Zz) (k : Nat) : Int := Z.dims.getD k 0
structure Zz.Ok (Z : Zz) : Prop where
 p : I64 Z.p
 d : ∀ x ∈ Z.dims, I64 x
 m : ∀ a ∈ Z.ars, a.M.Ok
structure RdZ (h : Hp) (vd va : Value) (Z : Zz) : Prop where
 d : RdL cI 1 h [] vd Z.dims
 a : RdL cA 5 h [] va Z.ars
 e : ∀ a ∈ Z.ars, RdL cI 1 h [] a.v a.M.e
theorem RdZ.up {h' : Hp} {vd va : Value} {Z : Zz} (R : RdZ h vd va Z) (hl : h.le h') : RdZ h' vd va Z := ⟨R.d.up hl, R.a.up hl, fun a ha => (R.e a ha).up hl⟩
def Ar.src (a : Ar) (k : Nat) : Nat := if a.b then k + 1 else k
def Ar.tgt (a : Ar) (k : Nat) : Nat := if a.b then k else k + 1
def Zz.Fit (Z : Zz) (k : Nat) (a : Ar) : Prop := a.M.Rt ∧ a.M.p = Z.p ∧ a.M.cols = Z.dim (a.src k) ∧ a.M.rows = Z.dim (a.tgt k)
instance (Z : Zz) (k : Nat) (a : Ar) : Decidable (Z.Fit k a) := by unfold Zz.Fit; infer_instance
def Zz.Rt (Z : Zz) : Prop := 1 ≤ Z.dims.length ∧ Z.dims.length ≤ 100 ∧ (Z.ars.length : Int) = (Z.dims.length : Int) - 1 ∧ IsP Z.p ∧ (∀ x ∈ Z.dims, 0 ≤ x ∧ x ≤ 200) ∧ ∀ k (hk : k < Z.ars.length), Z.Fit k Z.ars[k]
instance (Z : Zz) : Decidable Z.Rt := by unfold Zz.Rt; infer_instance
theorem ends_v (Z : Zz) (vd va : Value) (k : Nat) (h : Hp) (hR : RdZ h vd va Z) (hk : k < Z.ars.length) (ms : List Hp) :
  FnV Tryz.prog 65 #[.agg #[.int .i64 Z.p, vd, va], .int .i64 k] h ms (.tuple #[.int .i64 ((Z.ars[k]).src k : Nat), .int .i64 ((Z.ars[k]).tgt k : Nat)]) := by
 refine fnv ?_ ms
 have hl := hR.a.len_le
 have o1 := hR.d.rd.one
 have o2 := hR.a.rd.one
 refine fn_enter func65 ntmps65 rfl rfl (fun w0 hw0 => ?_)
 simp only [argS]
 refine RsQ ?_
 refine wl_box [_, _, _] rfl rfl (by rfl) rfl rfl rfl (fun g2 => ?_)
 refine Qm rfl (Qm rfl (RnQ (ws_seq (RsQ (Qx (ox_fieldF fd30_2 rfl rfl) rfl (Qx (ox_load rfl underlying28 rfl rfl (Cell.blk 0 rfl rfl)) rfl (Qm rfl (Qx (ox_indexR _ hR.a.rd.any rfl underlying28 el45 rfl rfl rfl (by omega)) rfl (Qx (ox_fieldF fd45_0 rfl rfl) rfl (Qx (ox_load rfl underlying4 rfl rfl (hR.a.any.cell hk rfl)) rfl (RnQ ?_)))))))))))
 refine ws_cond rfl (fun hb => ?_) (fun hb => ?_)
 ·refine ws_seq (ws_region (Qm rfl (Qx (ox_add rfl rfl rfl (by omega)) rfl (Qm rfl (Qm rfl (Qm rfl (RnQ (ws_ret (nx_then_ret ?_)))))))))
  exact nx_ret2 rfl rfl rfl (by unfold Ar.src Ar.tgt; rw [hb]; rfl)
 ·refine ws_skip (nx_then (RsQ (Qm rfl (Qm rfl (Qx (ox_add rfl rfl rfl (by omega)) rfl (Qm rfl (Qm rfl (RnQ (ws_ret ?_)))))))))
  exact nx_ret2 rfl rfl rfl (by unfold Ar.src Ar.tgt; rw [hb]; rfl)
theorem seg_arr {g : Nat} {a b c d e : Value} {i : Nat} (hm : ms[i]? = some (Blk g 45 [a, b, c, d, e])) : Seg h ms ((⟨g, 0, none⟩ : Addr).add 1) [b, c, d, e] := fun k u hu => by
 rw [addr_add_add]
 refine Cell.blk i hm ?_
 rw [Nat.add_comm]
 exact hu
theorem cell_arr {g : Nat} {a b c d e u : Value} {i k : Nat} (hm : ms[i]? = some (Blk g 45 [a, b, c, d, e])) (hk : ([b, c, d, e] : List Value)[k]? = some u) : Cell h ms (((⟨g, 0, none⟩ : Addr).add 1).add k) u := seg_arr hm k u hk
theorem zdim {vd va : Value} {Z : Zz} (hR : RdZ h vd va Z) {k : Nat} (hk : k < Z.dims.length) : Cell h ms ((vbase vd).add (k * 1)) (.int .i64 (Z.dim k)) := by
 have := hR.d.any (ms := ms) |>.cell0 hk (u := .int .i64 Z.dims[k]) rfl
 have e : Z.dims[k] = Z.dim k := by unfold Zz.dim; simp [List.getD_eq_getElem?_getD, hk]
 rw [e] at this
 exact this
theorem zright_ok (Z : Zz) (vd va : Value) (h : Hp) (hO : Z.Ok) (hR : RdZ h vd va Z) :
  FnT Tryz.prog 35 #[.agg #[.int .i64 Z.p, vd, va]] h [] (fun r _ _ => r = .bool (decide Z.Rt)) := by
 have hl := hR.a.len_le
 have hld := hR.d.len_le
 have o1 := hR.d.rd.one
 have o2 := hR.a.rd.one
 refine fn_enter func35 ntmps35 rfl rfl (fun w0 hw0 => ?_)
 simp only [argS]
 refine RsQ ?_
 refine wl_box [_, _, _] rfl rfl (by rfl) rfl rfl rfl (fun g1 => ?_)
 refine Qm rfl (RnQ (ws_freezeB fun h' hle hS => ?_))
 have hR := hR.up hle
 have hA := Seg.all hS
 have hA0 := hA 0 _ rfl
 refine RsQ (Qx (ox_fieldF fd30_1 rfl rfl) rfl (Qx (ox_load rfl underlying24 rfl rfl (hA _ _ rfl _)) rfl (Qx (ox_lenR hR.d.rd.any rfl underlying24 rfl) rfl (Qm rfl (RnQ (ws_seq (RsQ (Qm rfl (Qx (ox_lss rfl rfl rfl) rfl (Qm rfl ?_))))))))))
 refine wl_split (t := 13) rfl (fun hs1 => ?_) (fun hs1 => ?_)
 ·refine Qk rfl (Qk rfl (Qx (ox_pick_t rfl rfl rfl) rfl (Qm rfl (Qk rfl (Qk rfl (Qk rfl (Qk rfl (Qk rfl (Qk rfl (Qx (ox_pick_t rfl rfl rfl) rfl (Qm rfl (Qk rfl (Qk rfl (Qk rfl (Qk rfl (Qx (ox_pick_t rfl rfl rfl) rfl (RnQ (ws_cond_t rfl (RsQ (Qm rfl (RnQ (ws_ret (nx_then_ret ?_)))))))))))))))))))))))
  exact nx_ret1 rfl rfl (by rw [decide_eq_false]; rintro ⟨h1, _⟩; omega)
 ·refine Qg (ox_move rfl rfl) rfl (Qg (ox_gtr rfl rfl rfl) rfl (Qx (ox_pick_f rfl rfl rfl) rfl (Qm rfl ?_)))
  refine wl_split (t := 17) rfl (fun hs2 => ?_) (fun hs2 => ?_)
  ·refine Qk rfl (Qk rfl (Qk rfl (Qk rfl (Qk rfl (Qk rfl (Qx (ox_pick_t rfl rfl rfl) rfl (Qm rfl (Qk rfl (Qk rfl (Qk rfl (Qk rfl (Qx (ox_pick_t rfl rfl rfl) rfl (RnQ (ws_cond_t rfl (RsQ (Qm rfl (RnQ (ws_ret (nx_then_ret ?_)))))))))))))))))))
   exact nx_ret1 rfl rfl (by rw [decide_eq_false]; rintro ⟨_, h1, _⟩; omega)
  ·refine Qg (ox_fieldF fd30_2 rfl rfl) rfl (Qg (ox_load rfl underlying28 rfl rfl (hA _ _ rfl _)) rfl (Qg (ox_lenR hR.a.rd.any rfl underlying28 rfl) rfl (Qg (ox_move rfl rfl) rfl (Qg (ox_sub rfl rfl rfl (by omega)) rfl (Qg (ox_nei rfl rfl rfl) rfl (Qx (ox_pick_f rfl rfl rfl) rfl (Qm rfl ?_)))))))
   refine wl_split (t := 25) rfl (fun hs3 => ?_) (fun hs3 => ?_)
   ·refine Qk rfl (Qk rfl (Qk rfl (Qk rfl (Qx (ox_pick_t rfl rfl rfl) rfl (RnQ (ws_cond_t rfl (RsQ (Qm rfl (RnQ (ws_ret (nx_then_ret ?_)))))))))))
    exact nx_ret1 rfl rfl (by rw [decide_eq_false]; rintro ⟨_, _, h1, _⟩; omega)
   ·refine Qg (ox_fieldF fd30_0 rfl rfl) rfl (Qg (ox_load rfl underlying3 rfl rfl (hA0 _)) rfl (Qg (ox_call rfl call70 rfl (prime_v _ _ hO.p _)) rfl (Qg (ox_not rfl rfl) rfl (Qx (ox_pick_f rfl rfl rfl) rfl (RnQ ?_)))))
    refine ws_cond rfl (fun hp => ?_) (fun hp => ?_)
    ·have hp : ¬ IsP Z.p := by simpa using hp
     refine RsQ (Qm rfl (RnQ (ws_ret (nx_then_ret ?_))))
     exact nx_ret1 rfl rfl (by rw [decide_eq_false]; rintro ⟨_, _, _, h1, _⟩; exact hp h1)
    ·have hp : IsP Z.p := by simpa using hp
     have hd0 : 0 < Z.dims.length := by omega
     have hlen : (Z.ars.length : Int) = (Z.dims.length : Int) - 1 := by omega
     refine ws_skip (nx_then (ws_seq (RsQ (Qx (ox_fieldF fd30_1 rfl rfl) rfl (Qx (ox_load rfl underlying24 rfl rfl (hA _ _ rfl _)) rfl (Qx (ox_call rfl call71 rfl (min_v _ _ _ hR.d hd0 _)) rfl (Qx (ox_lss rfl rfl rfl) rfl (Qm rfl ?_))))))))
     refine wl_split (t := 35) rfl (fun hm1 => ?_) (fun hm1 => ?_)
     ·obtain ⟨x, hx, hx0⟩ := (lmin_neg hd0).1 hm1
      refine Qk rfl (Qk rfl (Qk rfl (Qk rfl (Qx (ox_pick_t rfl rfl rfl) rfl (RnQ (ws_cond_t rfl (RsQ (Qm rfl (RnQ (ws_ret (nx_then_ret ?_)))))))))))
      exact nx_ret1 rfl rfl (by rw [decide_eq_false]; rintro ⟨_, _, _, _, h1, _⟩; have := h1 x hx; omega)
     ·refine Qg (ox_fieldF fd30_1 rfl rfl) rfl (Qg (ox_load rfl underlying24 rfl rfl (hA _ _ rfl _)) rfl (Qg (ox_call rfl call72 rfl (max_v _ _ _ hR.d hd0 _)) rfl (Qg (ox_gtr rfl rfl rfl) rfl (Qx (ox_pick_f rfl rfl rfl) rfl (RnQ ?_)))))
      refine ws_if rfl (fun hm2 => ?_) (fun hm2 => ?_)
      ·obtain ⟨x, hx, hx0⟩ := (lmax_big hd0 200).1 hm2
       refine RsQ (Qm rfl (RnQ (ws_ret (nx_then_ret ?_))))
       exact nx_ret1 rfl rfl (by rw [decide_eq_false]; rintro ⟨_, _, _, _, h1, _⟩; have := h1 x hx; omega)
      ·have hdims : ∀ x ∈ Z.dims, 0 ≤ x ∧ x ≤ 200 := fun x hx => ⟨Int.not_lt.1 fun hn => hm1 ((lmin_neg hd0).2 ⟨x, hx, hn⟩), Int.not_lt.1 fun hn => hm2 ((lmax_big hd0 200).2 ⟨x, hx, hn⟩)⟩
       refine ws_skip (nx_then (ws_seq (RsQ (Qx (ox_fieldF fd30_2 rfl rfl) rfl (Qx (ox_load rfl underlying28 rfl rfl (hA _ _ rfl _)) rfl (Qx (ox_lenR hR.a.rd.any rfl underlying28 rfl) rfl (Qm rfl (RnQ (ws_block ?_)))))))))
       refine ws_loop (fun q s hh ms' => ∃ (k : Nat), q = Z.ars.length - k ∧ s = [(1, .pointer (some ⟨g1, 0, none⟩)), (42, va), (43, .int .i64 Z.ars.length), (44, .int .i64 k)] ∧ h' = hh ∧ ms' = [] ∧ k ≤ Z.ars.length ∧ ∀ j (hj : j < Z.ars.length), j < k → Z.Fit j Z.ars[j])
        (Z.ars.length - 0) _ ⟨0, rfl, rfl, rfl, rfl, by omega, fun j hj h => by omega⟩ Qs ?_
       rintro q s hh ms' ⟨k, rfl, rfl, rfl, rfl, hk, hfit⟩
       refine RsQ (Qx (ox_lss rfl rfl rfl) rfl (RnQ (ws_seq ?_)))
       refine ws_if rfl (fun hlt => ?_) (fun hlt => ?_)
       ·have hk' : k < Z.ars.length := by omega
        have hmem : Z.ars[k] ∈ Z.ars := List.getElem_mem hk'
        have hRe := hR.e _ hmem
        have hMO := hO.m _ hmem
        have oa := hRe.rd.one
        have hsrc : (Z.ars[k]).src k < Z.dims.length := by unfold Ar.src; split <;> omega
        have htgt : (Z.ars[k]).tgt k < Z.dims.length := by unfold Ar.tgt; split <;> omega
        refine ws_skip (nx_then (ws_seq (ws_block (RsQ (Qm rfl (Qx (ox_indexR _ hR.a.rd.any rfl underlying28 el45 rfl rfl rfl (by omega)) rfl (Qx (ox_loadG rfl underlying45 rfl el45 rfl rfl (hR.a.any.seg hk')) rfl (AlQ [.bool false, .int .i64 0, .int .i64 0, .int .i64 0, .slice none 0 0] rfl el45 rfl rfl (fun g5 => Qm rfl ?_)))))))))
        refine wl_storeAll 0 [_, _, _, _, _] rfl el45 rfl rfl rfl (by (simp [oa]; done)) rfl rfl rfl rfl rfl ?_
        refine RtQ (Qx (ox_loadG rfl underlying30 rfl el30 rfl rfl (Seg.any hS)) rfl (Qm rfl (Qx (ox_call rfl call65 rfl (ends_v Z vd va k h' hR hk' _)) rfl (Qm rfl (Qx (ox_extract rfl rfl rfl) rfl (Qx (ox_extract rfl rfl rfl) rfl (Qm rfl (Qm rfl (RnQ (ws_seq (ws_draw 32 fol (by kernel_rfl) rfl (wr_x (ox_fieldF fd45_1 rfl rfl) rfl rfl (wr_x (ox_loadG rfl underlying42 rfl el42 rfl rfl (seg_arr (i := 0) rfl)) rfl rfl (wr_x (ox_call rfl call73 rfl (fnv (right_ok (Z.ars[k]).M (Z.ars[k]).v h' hMO hRe) _)) rfl rfl (wr_x (ox_not rfl rfl) rfl rfl (wr_x (ox_move rfl rfl) rfl rfl ?_))))))))))))))))
        refine wr_splitb (t := 59) rfl (fun hb1 => ?_) (fun hb1 => ?_)
        ·refine wr_skip rfl rfl rfl rfl rfl (wr_skip rfl rfl rfl rfl rfl (wr_skip rfl rfl rfl rfl rfl (wr_skip rfl rfl rfl rfl rfl (wr_skip rfl rfl rfl rfl rfl (wr_skip rfl rfl rfl rfl rfl (wr_x (ox_pick_t rfl rfl rfl) rfl rfl (wr_x (ox_move rfl rfl) rfl rfl (wr_skip rfl rfl rfl rfl rfl (wr_skip rfl rfl rfl rfl rfl (wr_skip rfl rfl rfl rfl rfl (wr_skip rfl rfl rfl rfl rfl (wr_skip rfl rfl rfl rfl rfl (wr_skip rfl rfl rfl rfl rfl (wr_skip rfl rfl rfl rfl rfl (wr_skip rfl rfl rfl rfl rfl (wr_skip rfl rfl rfl rfl rfl (wr_x (ox_pick_t rfl rfl rfl) rfl rfl (wr_x (ox_move rfl rfl) rfl rfl (wr_skip rfl rfl rfl rfl rfl (wr_skip rfl rfl rfl rfl rfl (wr_skip rfl rfl rfl rfl rfl (wr_skip rfl rfl rfl rfl rfl (wr_skip rfl rfl rfl rfl rfl (wr_skip rfl rfl rfl rfl rfl (wr_skip rfl rfl rfl rfl rfl (wr_skip rfl rfl rfl rfl rfl (wr_nil (Qk rfl (Qx (ox_pick_t rfl rfl rfl) rfl (RnQ (ws_cond_t rfl (RsQ (Qm rfl (RnQ (ws_ret (nx_block_ret (nx_then_ret (nx_then_ret (nx_block_ret ?_)))))))))))))))))))))))))))))))))))))))
         refine nx_then_ret ?_
         exact nx_ret1 rfl rfl (by rw [decide_eq_false]; rintro ⟨_, _, _, _, _, h1⟩; have := (h1 k hk').1; simp [this] at hb1)
        ·have hb1 : (Z.ars[k]).M.Rt := by simpa using hb1
         refine wr_gx (ox_fieldF fd45_1 rfl rfl) rfl rfl rfl rfl (wr_gx (ox_fieldF fd42_0 rfl rfl) rfl rfl rfl rfl (wr_gx (ox_load rfl underlying3 rfl rfl (cell_arr (i := 0) rfl rfl)) rfl rfl rfl rfl (wr_gx (ox_fieldF fd30_0 rfl rfl) rfl rfl rfl rfl (wr_gx (ox_load rfl underlying3 rfl rfl (hA0 _)) rfl rfl rfl rfl (wr_gx (ox_nei rfl rfl rfl) rfl rfl rfl rfl (wr_x (ox_pick_f rfl rfl rfl) rfl rfl (wr_x (ox_move rfl rfl) rfl rfl ?_)))))))
         refine wr_split (t := 67) rfl (fun hb2 => ?_) (fun hb2 => ?_)
         ·refine wr_skip rfl rfl rfl rfl rfl (wr_skip rfl rfl rfl rfl rfl (wr_skip rfl rfl rfl rfl rfl (wr_skip rfl rfl rfl rfl rfl (wr_skip rfl rfl rfl rfl rfl (wr_skip rfl rfl rfl rfl rfl (wr_skip rfl rfl rfl rfl rfl (wr_skip rfl rfl rfl rfl rfl (wr_skip rfl rfl rfl rfl rfl (wr_x (ox_pick_t rfl rfl rfl) rfl rfl (wr_x (ox_move rfl rfl) rfl rfl (wr_skip rfl rfl rfl rfl rfl (wr_skip rfl rfl rfl rfl rfl (wr_skip rfl rfl rfl rfl rfl (wr_skip rfl rfl rfl rfl rfl (wr_skip rfl rfl rfl rfl rfl (wr_skip rfl rfl rfl rfl rfl (wr_skip rfl rfl rfl rfl rfl (wr_skip rfl rfl rfl rfl rfl (wr_nil (Qk rfl (Qx (ox_pick_t rfl rfl rfl) rfl (RnQ (ws_cond_t rfl (RsQ (Qm rfl (RnQ (ws_ret (nx_block_ret (nx_then_ret (nx_then_ret (nx_block_ret (nx_then_ret ?_))))))))))))))))))))))))))))))))
          exact nx_ret1 rfl rfl (by rw [decide_eq_false]; rintro ⟨_, _, _, _, _, h1⟩; exact hb2 (h1 k hk').2.1)
         ·refine wr_gx (ox_fieldF fd45_1 rfl rfl) rfl rfl rfl rfl (wr_gx (ox_fieldF fd42_2 rfl rfl) rfl rfl rfl rfl (wr_gx (ox_load rfl underlying3 rfl rfl (cell_arr (i := 0) rfl rfl)) rfl rfl rfl rfl (wr_gx (ox_fieldF fd30_1 rfl rfl) rfl rfl rfl rfl (wr_gx (ox_load rfl underlying24 rfl rfl (hA _ _ rfl _)) rfl rfl rfl rfl (wr_gx (ox_move rfl rfl) rfl rfl rfl rfl (wr_gx (ox_indexR _ hR.d.rd.any rfl underlying24 el3 rfl rfl rfl (by omega)) rfl rfl rfl rfl (wr_gx (ox_load rfl underlying3 rfl rfl (zdim hR hsrc)) rfl rfl rfl rfl (wr_gx (ox_nei rfl rfl rfl) rfl rfl rfl rfl (wr_x (ox_pick_f rfl rfl rfl) rfl rfl (wr_x (ox_move rfl rfl) rfl rfl ?_))))))))))
          refine wr_split (t := 78) rfl (fun hb3 => ?_) (fun hb3 => ?_)
          ·refine wr_skip rfl rfl rfl rfl rfl (wr_skip rfl rfl rfl rfl rfl (wr_skip rfl rfl rfl rfl rfl (wr_skip rfl rfl rfl rfl rfl (wr_skip rfl rfl rfl rfl rfl (wr_skip rfl rfl rfl rfl rfl (wr_skip rfl rfl rfl rfl rfl (wr_skip rfl rfl rfl rfl rfl (wr_nil (Qk rfl (Qx (ox_pick_t rfl rfl rfl) rfl (RnQ (ws_cond_t rfl (RsQ (Qm rfl (RnQ (ws_ret (nx_block_ret (nx_then_ret (nx_then_ret (nx_block_ret (nx_then_ret ?_)))))))))))))))))))))
           exact nx_ret1 rfl rfl (by rw [decide_eq_false]; rintro ⟨_, _, _, _, _, h1⟩; exact hb3 (h1 k hk').2.2.1)
          ·refine wr_gx (ox_fieldF fd45_1 rfl rfl) rfl rfl rfl rfl (wr_gx (ox_fieldF fd42_1 rfl rfl) rfl rfl rfl rfl (wr_gx (ox_load rfl underlying3 rfl rfl (cell_arr (i := 0) rfl rfl)) rfl rfl rfl rfl (wr_gx (ox_fieldF fd30_1 rfl rfl) rfl rfl rfl rfl (wr_gx (ox_load rfl underlying24 rfl rfl (hA _ _ rfl _)) rfl rfl rfl rfl (wr_gx (ox_move rfl rfl) rfl rfl rfl rfl (wr_gx (ox_indexR _ hR.d.rd.any rfl underlying24 el3 rfl rfl rfl (by omega)) rfl rfl rfl rfl (wr_gx (ox_load rfl underlying3 rfl rfl (zdim hR htgt)) rfl rfl rfl rfl (wr_nil (Qg (ox_nei rfl rfl rfl) rfl (Qx (ox_pick_f rfl rfl rfl) rfl (RnQ ?_)))))))))))
           refine ws_if rfl (fun hb4 => ?_) (fun hb4 => ?_)
           ·refine ws_seq (ws_region (Qm rfl (RnQ (ws_ret (nx_block_ret (nx_then_ret (nx_then_ret (nx_block_ret (nx_then_ret ?_)))))))))
            exact nx_ret1 rfl rfl (by rw [decide_eq_false]; rintro ⟨_, _, _, _, _, h1⟩; exact hb4 (h1 k hk').2.2.2)
           ·refine ws_skip (nx_block (nx_then (ws_region (Qx (ox_add rfl rfl rfl (by omega)) rfl (Qm rfl (wl_nil (nx_drop ?_)))))))
            refine nx_round (Z.ars.length - (k + 1)) _ (by omega) ⟨k + 1, rfl, rfl, rfl, rfl, by omega, fun j hj h1 => ?_⟩ Qs
            rcases (by omega : j < k ∨ j = k) with h2 | rfl
            ·exact hfit j hj h2
            ·exact ⟨hb1, Decidable.not_not.1 hb2, Decidable.not_not.1 hb3, Decidable.not_not.1 hb4⟩
       ·refine ws_exit (nx_then_exit (nx_then_exit (nx_block_exit (nx_then (RsQ (Qm rfl (RnQ (ws_ret ?_))))))))
        exact nx_ret1 rfl rfl (by rw [decide_eq_true]; exact ⟨by omega, by omega, hlen, hp, hdims, fun j hj => hfit j hj (by omega)⟩)
end Go.Proofs.YtdnelknieikbaaaGreat
namespace Go.Proofs.YtdnelknieikbaaaGreat
open Tryz
open Go.Eng Go.RowKit Go.Lin
theorem seg_mat {h : Hp} {ms : List Hp} {vd va : Value} {Z : Zz} (hR : RdZ h vd va Z) {k : Nat} (hk : k < Z.ars.length) : Seg h ms (((vbase va).add (k * 5)).add 1) [.int .i64 (Z.ars[k]).M.p, .int .i64 (Z.ars[k]).M.rows, .int .i64 (Z.ars[k]).M.cols, (Z.ars[k]).v] := fun i u hu => by
 rw [addr_add_add]
 have hR2 := hR.a.any (ms := ms)
 refine hR2.cell hk (f := 1 + i) ?_
 rw [Nat.add_comm]
 exact hu
theorem rzright_ok (Z : Zz) (vd va : Value) (h : Hp) (hO : Z.Ok) (hR : RdZ h vd va Z) :
  FnT Tryz.prog 22 #[.agg #[.int .i64 Z.p, vd, va]] h [] (fun r _ _ => r = .bool (decide Z.Rt)) := by
 have hl := hR.a.len_le
 have hld := hR.d.len_le
 have o1 := hR.d.rd.one
 have o2 := hR.a.rd.one
 refine fn_enter func22 ntmps22 rfl rfl (fun w0 hw0 => ?_)
 simp only [argS]
 refine RsQ ?_
 refine wl_box [_, _, _] rfl rfl (by rfl) rfl rfl rfl (fun g1 => ?_)
 refine Qm rfl (RnQ (ws_freezeB fun h' hle hS => ?_))
 have hR := hR.up hle
 have hA := Seg.all hS
 have hA0 := hA 0 _ rfl
 refine RsQ (Qx (ox_fieldF fd30_1 rfl rfl) rfl (Qx (ox_load rfl underlying24 rfl rfl (hA _ _ rfl _)) rfl (Qx (ox_lenR hR.d.rd.any rfl underlying24 rfl) rfl (Qm rfl (RtQ (Qx (ox_fieldF fd30_0 rfl rfl) rfl (Qx (ox_load rfl underlying3 rfl rfl (hA0 _)) rfl (Qx (ox_call rfl call45 rfl (rprime_v _ _ hO.p _)) rfl (Qm rfl (RnQ (ws_seq (RsQ (Qm rfl (Qx (ox_lss rfl rfl rfl) rfl (Qm rfl ?_)))))))))))))))
 refine wl_split (t := 19) rfl (fun hs1 => ?_) (fun hs1 => ?_)
 ·refine Qk rfl (Qk rfl (Qx (ox_pick_t rfl rfl rfl) rfl (Qm rfl (Qk rfl (Qk rfl (Qk rfl (Qk rfl (Qk rfl (Qk rfl (Qx (ox_pick_t rfl rfl rfl) rfl (Qm rfl (Qk rfl (Qk rfl (Qx (ox_pick_t rfl rfl rfl) rfl (RnQ (ws_cond_t rfl (RsQ (Qm rfl (RnQ (ws_ret (nx_then_ret ?_)))))))))))))))))))))
  exact nx_ret1 rfl rfl (by rw [decide_eq_false]; rintro ⟨h1, _⟩; omega)
 ·refine Qg (ox_move rfl rfl) rfl (Qg (ox_gtr rfl rfl rfl) rfl (Qx (ox_pick_f rfl rfl rfl) rfl (Qm rfl ?_)))
  refine wl_split (t := 23) rfl (fun hs2 => ?_) (fun hs2 => ?_)
  ·refine Qk rfl (Qk rfl (Qk rfl (Qk rfl (Qk rfl (Qk rfl (Qx (ox_pick_t rfl rfl rfl) rfl (Qm rfl (Qk rfl (Qk rfl (Qx (ox_pick_t rfl rfl rfl) rfl (RnQ (ws_cond_t rfl (RsQ (Qm rfl (RnQ (ws_ret (nx_then_ret ?_)))))))))))))))))
   exact nx_ret1 rfl rfl (by rw [decide_eq_false]; rintro ⟨_, h1, _⟩; omega)
  ·refine Qg (ox_fieldF fd30_2 rfl rfl) rfl (Qg (ox_load rfl underlying28 rfl rfl (hA _ _ rfl _)) rfl (Qg (ox_lenR hR.a.rd.any rfl underlying28 rfl) rfl (Qg (ox_move rfl rfl) rfl (Qg (ox_sub rfl rfl rfl (by omega)) rfl (Qg (ox_nei rfl rfl rfl) rfl (Qx (ox_pick_f rfl rfl rfl) rfl (Qm rfl ?_)))))))
   refine wl_split (t := 31) rfl (fun hs3 => ?_) (fun hs3 => ?_)
   ·refine Qk rfl (Qk rfl (Qx (ox_pick_t rfl rfl rfl) rfl (RnQ (ws_cond_t rfl (RsQ (Qm rfl (RnQ (ws_ret (nx_then_ret ?_)))))))))
    exact nx_ret1 rfl rfl (by rw [decide_eq_false]; rintro ⟨_, _, h1, _⟩; omega)
   ·refine Qg (ox_move rfl rfl) rfl (Qg (ox_not rfl rfl) rfl (Qx (ox_pick_f rfl rfl rfl) rfl (RnQ ?_)))
    refine ws_cond rfl (fun hp => ?_) (fun hp => ?_)
    ·have hp : ¬ IsP Z.p := by simpa using hp
     refine RsQ (Qm rfl (RnQ (ws_ret (nx_then_ret ?_))))
     exact nx_ret1 rfl rfl (by rw [decide_eq_false]; rintro ⟨_, _, _, h1, _⟩; exact hp h1)
    ·have hp : IsP Z.p := by simpa using hp
     have hd0 : 0 < Z.dims.length := by omega
     have hlen : (Z.ars.length : Int) = (Z.dims.length : Int) - 1 := by omega
     refine ws_skip (nx_then (ws_seq (RsQ (Qm rfl (RnQ (ws_block ?_))))))
     refine ws_loop (fun q s hh ms' => ∃ (k : Nat), q = Z.dims.length - k ∧ s = [(1, .pointer (some ⟨g1, 0, none⟩)), (3, .int .i64 Z.dims.length), (5, .int .i64 k)] ∧ h' = hh ∧ ms' = [] ∧ k ≤ Z.dims.length ∧ ∀ j, j < k → 0 ≤ Z.dim j ∧ Z.dim j ≤ 200)
      (Z.dims.length - 0) _ ⟨0, rfl, rfl, rfl, rfl, by omega, fun j h => by omega⟩ Qs ?_
     rintro q s hh ms' ⟨k, rfl, rfl, rfl, rfl, hk, hno⟩
     have hdm : ∀ k, k < Z.dims.length → Z.dim k ∈ Z.dims := fun k hk => by unfold Zz.dim; simp [List.getD_eq_getElem?_getD, hk]
     refine ws_seq (RsQ (Qm rfl (Qm rfl (Qx (ox_lss rfl rfl rfl) rfl (RnQ ?_)))))
     refine ws_if rfl (fun hlt => ?_) (fun hlt => ?_)
     ·have hk' : k < Z.dims.length := by omega
      refine ws_skip (nx_then (ws_seq (ws_block (RsQ (Qx (ox_fieldF fd30_1 rfl rfl) rfl (Qx (ox_load rfl underlying24 rfl rfl (hA _ _ rfl _)) rfl (Qm rfl (Qx (ox_indexR _ hR.d.rd.any rfl underlying24 el3 rfl rfl rfl (by omega)) rfl (Qx (ox_load rfl underlying3 rfl rfl (zdim hR hk')) rfl (Qx (ox_lss rfl rfl rfl) rfl (Qm rfl ?_)))))))))))
      refine wl_split (t := 46) rfl (fun hm1 => ?_) (fun hm1 => ?_)
      ·refine Qk rfl (Qk rfl (Qk rfl (Qk rfl (Qk rfl (Qk rfl (Qx (ox_pick_t rfl rfl rfl) rfl (RnQ (ws_cond_t rfl (RsQ (Qm rfl (RnQ (ws_ret (nx_block_ret (nx_then_ret (nx_then_ret (nx_block_ret (nx_then_ret ?_)))))))))))))))))
       exact nx_ret1 rfl rfl (by rw [decide_eq_false]; rintro ⟨_, _, _, _, h1, _⟩; have := h1 _ (hdm k hk'); omega)
      ·refine Qg (ox_fieldF fd30_1 rfl rfl) rfl (Qg (ox_load rfl underlying24 rfl rfl (hA _ _ rfl _)) rfl (Qg (ox_move rfl rfl) rfl (Qg (ox_indexR _ hR.d.rd.any rfl underlying24 el3 rfl rfl rfl (by omega)) rfl (Qg (ox_load rfl underlying3 rfl rfl (zdim hR hk')) rfl (Qg (ox_gtr rfl rfl rfl) rfl (Qx (ox_pick_f rfl rfl rfl) rfl (RnQ ?_)))))))
       refine ws_if rfl (fun hm2 => ?_) (fun hm2 => ?_)
       ·refine ws_seq (ws_region (Qm rfl (RnQ (ws_ret (nx_block_ret (nx_then_ret (nx_then_ret (nx_block_ret (nx_then_ret ?_)))))))))
        exact nx_ret1 rfl rfl (by rw [decide_eq_false]; rintro ⟨_, _, _, _, h1, _⟩; have := h1 _ (hdm k hk'); omega)
       ·refine ws_skip (nx_block (nx_then (ws_region (Qm rfl (Qx (ox_add rfl rfl rfl (by omega)) rfl (Qm rfl (wl_nil ?_)))))))
        refine nx_round (Z.dims.length - (k + 1)) _ (by omega) ⟨k + 1, rfl, rfl, rfl, rfl, by omega, fun j h1 => ?_⟩ Qs
        rcases (by omega : j < k ∨ j = k) with h2 | rfl
        ·exact hno j h2
        ·omega
     ·have hdims : ∀ x ∈ Z.dims, 0 ≤ x ∧ x ≤ 200 := fun x hx => by
       obtain ⟨j, hj, rfl⟩ := List.mem_iff_getElem.1 hx
       have := hno j (by omega)
       unfold Zz.dim at this
       simpa [List.getD_eq_getElem?_getD, hj] using this
      refine ws_exit (nx_then_exit (nx_then_exit (nx_block_exit (nx_then (ws_seq (RsQ (Qm rfl (RnQ (ws_block ?_)))))))))
      refine ws_loop (fun q s hh ms' => ∃ (k : Nat), q = Z.ars.length - k ∧ s = [(1, .pointer (some ⟨g1, 0, none⟩)), (3, .int .i64 Z.dims.length), (6, .int .i64 k)] ∧ h' = hh ∧ ms' = [] ∧ k ≤ Z.ars.length ∧ ∀ j (hj : j < Z.ars.length), j < k → Z.Fit j Z.ars[j])
       (Z.ars.length - 0) _ ⟨0, rfl, rfl, rfl, rfl, by omega, fun j hj h => by omega⟩ Qs ?_
      rintro q s hh ms' ⟨k, rfl, rfl, rfl, rfl, hk, hfit⟩
      refine ws_seq (RsQ (Qm rfl (Qm rfl (Qx (ox_sub rfl rfl rfl (by omega)) rfl (Qx (ox_lss rfl rfl rfl) rfl (RnQ ?_))))))
      refine ws_if rfl (fun hlt => ?_) (fun hlt => ?_)
      ·have hk' : k < Z.ars.length := by omega
       have hmem : Z.ars[k] ∈ Z.ars := List.getElem_mem hk'
       have hRe := hR.e _ hmem
       have hMO := hO.m _ hmem
       have oa := hRe.rd.one
       have hk0 : k < Z.dims.length := by omega
       have hk1 : k + 1 < Z.dims.length := by omega
       refine ws_skip (nx_then (ws_seq (ws_block (RsQ (Qx (ox_fieldF fd30_2 rfl rfl) rfl (Qx (ox_load rfl underlying28 rfl rfl (hA _ _ rfl _)) rfl (Qm rfl (Qx (ox_indexR _ hR.a.rd.any rfl underlying28 el45 rfl rfl rfl (by omega)) rfl (Qx (ox_fieldF fd45_1 rfl rfl) rfl (Qx (ox_loadG rfl underlying42 rfl el42 rfl rfl (seg_mat hR hk')) rfl (AlQ [.int .i64 0, .int .i64 0, .int .i64 0, .slice none 0 0] rfl el42 rfl rfl (fun g7 => ?_))))))))))))
       refine wl_storeAll 0 [_, _, _, _] rfl el42 rfl rfl rfl (by (simp [oa]; done)) rfl rfl rfl rfl rfl ?_
       refine RtQ (Qx (ox_fieldF fd30_1 rfl rfl) rfl (Qx (ox_load rfl underlying24 rfl rfl (hA _ _ rfl _)) rfl (Qm rfl (Qx (ox_indexR _ hR.d.rd.any rfl underlying24 el3 rfl rfl rfl (by omega)) rfl (Qx (ox_load rfl underlying3 rfl rfl (zdim hR hk0)) rfl (Qm rfl (RtQ (Qx (ox_fieldF fd30_1 rfl rfl) rfl (Qx (ox_load rfl underlying24 rfl rfl (hA _ _ rfl _)) rfl (Qm rfl (Qx (ox_add rfl rfl rfl (by omega)) rfl (Qx (ox_indexR (k + 1) hR.d.rd.any rfl underlying24 el3 rfl rfl (by omega) (by omega)) rfl (Qx (ox_load rfl underlying3 rfl rfl (zdim hR hk1)) rfl (Qm rfl (RnQ (ws_seq (RsQ (Qx (ox_fieldF fd30_2 rfl rfl) rfl (Qx (ox_load rfl underlying28 rfl rfl (hA _ _ rfl _)) rfl (Qm rfl (Qx (ox_indexR _ hR.a.rd.any rfl underlying28 el45 rfl rfl rfl (by omega)) rfl (Qx (ox_fieldF fd45_0 rfl rfl) rfl (Qx (ox_load rfl underlying4 rfl rfl (hR.a.any.cell hk' rfl)) rfl (RnQ ?_))))))))))))))))))))))))
       refine ws_cond rfl (fun hb => ?_) (fun hb => ?_)
       ·have hsr : (Z.ars[k]).src k = k + 1 := by unfold Ar.src; rw [hb]; rfl
        have htg : (Z.ars[k]).tgt k = k := by unfold Ar.tgt; rw [hb]; rfl
        refine RsQ (Qx (ox_fieldF fd30_1 rfl rfl) rfl (Qx (ox_load rfl underlying24 rfl rfl (hA _ _ rfl _)) rfl (Qm rfl (Qx (ox_add rfl rfl rfl (by omega)) rfl (Qx (ox_indexR (k + 1) hR.d.rd.any rfl underlying24 el3 rfl rfl (by omega) (by omega)) rfl (Qx (ox_load rfl underlying3 rfl rfl (zdim hR hk1)) rfl (Qm rfl (RrQ (Qx (ox_fieldF fd30_1 rfl rfl) rfl (Qx (ox_load rfl underlying24 rfl rfl (hA _ _ rfl _)) rfl (Qm rfl (Qx (ox_indexR _ hR.d.rd.any rfl underlying24 el3 rfl rfl rfl (by omega)) rfl (Qx (ox_load rfl underlying3 rfl rfl (zdim hR hk0)) rfl (Qm rfl (RtQ (Qx (ox_loadG rfl underlying42 rfl el42 rfl rfl (Seg.blk 0 rfl)) rfl (Qx (ox_call rfl call46 rfl (fnv (rright_ok (Z.ars[k]).M (Z.ars[k]).v h' hMO hRe) _)) rfl (Qm rfl (RtQ (Qm rfl (Qx (ox_not rfl rfl) rfl (Qm rfl ?_))))))))))))))))))))))
        refine wl_splitb (t := 98) rfl (fun hb1 => ?_) (fun hb1 => ?_)
        ·refine Qk rfl (Qk rfl (Qk rfl (Qk rfl (Qk rfl (Qx (ox_pick_t rfl rfl rfl) rfl (Qm rfl (Qk rfl (Qk rfl (Qk rfl (Qk rfl (Qx (ox_pick_t rfl rfl rfl) rfl (Qm rfl (Qk rfl (Qk rfl (Qk rfl (Qk rfl (Qx (ox_pick_t rfl rfl rfl) rfl (RnQ (ws_cond_t rfl (RsQ (Qm rfl (RnQ (ws_ret (nx_block_ret (nx_then_ret (nx_then_ret (nx_block_ret (nx_then_ret ?_))))))))))))))))))))))))))))
         exact nx_ret1 rfl rfl (by rw [decide_eq_false]; rintro ⟨_, _, _, _, _, h1⟩; have := (h1 k hk').1; simp [this] at hb1)
        ·have hb1 : (Z.ars[k]).M.Rt := by simpa using hb1
         refine Qg (ox_fieldF fd42_0 rfl rfl) rfl (Qg (ox_load rfl underlying3 rfl rfl (Cell.blk 0 rfl rfl)) rfl (Qg (ox_fieldF fd30_0 rfl rfl) rfl (Qg (ox_load rfl underlying3 rfl rfl (hA0 _)) rfl (Qg (ox_nei rfl rfl rfl) rfl (Qx (ox_pick_f rfl rfl rfl) rfl (Qm rfl ?_))))))
         refine wl_split (t := 105) rfl (fun hb2 => ?_) (fun hb2 => ?_)
         ·refine Qk rfl (Qk rfl (Qk rfl (Qk rfl (Qx (ox_pick_t rfl rfl rfl) rfl (Qm rfl (Qk rfl (Qk rfl (Qk rfl (Qk rfl (Qx (ox_pick_t rfl rfl rfl) rfl (RnQ (ws_cond_t rfl (RsQ (Qm rfl (RnQ (ws_ret (nx_block_ret (nx_then_ret (nx_then_ret (nx_block_ret (nx_then_ret ?_)))))))))))))))))))))
          exact nx_ret1 rfl rfl (by rw [decide_eq_false]; rintro ⟨_, _, _, _, _, h1⟩; exact hb2 (h1 k hk').2.1)
         ·refine Qg (ox_fieldF fd42_2 rfl rfl) rfl (Qg (ox_load rfl underlying3 rfl rfl (Cell.blk 0 rfl rfl)) rfl (Qg (ox_move rfl rfl) rfl (Qg (ox_nei rfl rfl rfl) rfl (Qx (ox_pick_f rfl rfl rfl) rfl (Qm rfl ?_)))))
          refine wl_split (t := 111) rfl (fun hb3 => ?_) (fun hb3 => ?_)
          ·refine Qk rfl (Qk rfl (Qk rfl (Qk rfl (Qx (ox_pick_t rfl rfl rfl) rfl (RnQ (ws_cond_t rfl (RsQ (Qm rfl (RnQ (ws_ret (nx_block_ret (nx_then_ret (nx_then_ret (nx_block_ret (nx_then_ret ?_)))))))))))))))
           exact nx_ret1 rfl rfl (by rw [decide_eq_false]; rintro ⟨_, _, _, _, _, h1⟩; exact hb3 ((h1 k hk').2.2.1.trans (by rw [hsr])))
          ·refine Qg (ox_fieldF fd42_1 rfl rfl) rfl (Qg (ox_load rfl underlying3 rfl rfl (Cell.blk 0 rfl rfl)) rfl (Qg (ox_move rfl rfl) rfl (Qg (ox_nei rfl rfl rfl) rfl (Qx (ox_pick_f rfl rfl rfl) rfl (RnQ ?_)))))
           refine ws_if rfl (fun hb4 => ?_) (fun hb4 => ?_)
           ·refine ws_seq (ws_region (Qm rfl (RnQ (ws_ret (nx_block_ret (nx_then_ret (nx_then_ret (nx_block_ret (nx_then_ret ?_)))))))))
            exact nx_ret1 rfl rfl (by rw [decide_eq_false]; rintro ⟨_, _, _, _, _, h1⟩; exact hb4 ((h1 k hk').2.2.2.trans (by rw [htg])))
           ·refine ws_skip (nx_block (nx_then (ws_region (Qm rfl (Qx (ox_add rfl rfl rfl (by omega)) rfl (Qm rfl (wl_nil (nx_drop ?_))))))))
            refine nx_round (Z.ars.length - (k + 1)) _ (by omega) ⟨k + 1, rfl, rfl, rfl, rfl, by omega, fun j hj h1 => ?_⟩ Qs
            rcases (by omega : j < k ∨ j = k) with h2 | rfl
            ·exact hfit j hj h2
            ·exact ⟨hb1, Decidable.not_not.1 hb2, by rw [hsr]; exact Decidable.not_not.1 hb3, by rw [htg]; exact Decidable.not_not.1 hb4⟩
       ·have hsr : (Z.ars[k]).src k = k := by unfold Ar.src; rw [hb]; rfl
        have htg : (Z.ars[k]).tgt k = k + 1 := by unfold Ar.tgt; rw [hb]; rfl
        refine ws_skip (nx_then (RsQ (Qx (ox_loadG rfl underlying42 rfl el42 rfl rfl (Seg.blk 0 rfl)) rfl (Qx (ox_call rfl call46 rfl (fnv (rright_ok (Z.ars[k]).M (Z.ars[k]).v h' hMO hRe) _)) rfl (Qm rfl (RtQ (Qm rfl (Qx (ox_not rfl rfl) rfl (Qm rfl ?_)))))))))
        refine wl_splitb (t := 98) rfl (fun hb1 => ?_) (fun hb1 => ?_)
        ·refine Qk rfl (Qk rfl (Qk rfl (Qk rfl (Qk rfl (Qx (ox_pick_t rfl rfl rfl) rfl (Qm rfl (Qk rfl (Qk rfl (Qk rfl (Qk rfl (Qx (ox_pick_t rfl rfl rfl) rfl (Qm rfl (Qk rfl (Qk rfl (Qk rfl (Qk rfl (Qx (ox_pick_t rfl rfl rfl) rfl (RnQ (ws_cond_t rfl (RsQ (Qm rfl (RnQ (ws_ret (nx_block_ret (nx_then_ret (nx_then_ret (nx_block_ret (nx_then_ret ?_))))))))))))))))))))))))))))
         exact nx_ret1 rfl rfl (by rw [decide_eq_false]; rintro ⟨_, _, _, _, _, h1⟩; have := (h1 k hk').1; simp [this] at hb1)
        ·have hb1 : (Z.ars[k]).M.Rt := by simpa using hb1
         refine Qg (ox_fieldF fd42_0 rfl rfl) rfl (Qg (ox_load rfl underlying3 rfl rfl (Cell.blk 0 rfl rfl)) rfl (Qg (ox_fieldF fd30_0 rfl rfl) rfl (Qg (ox_load rfl underlying3 rfl rfl (hA0 _)) rfl (Qg (ox_nei rfl rfl rfl) rfl (Qx (ox_pick_f rfl rfl rfl) rfl (Qm rfl ?_))))))
         refine wl_split (t := 105) rfl (fun hb2 => ?_) (fun hb2 => ?_)
         ·refine Qk rfl (Qk rfl (Qk rfl (Qk rfl (Qx (ox_pick_t rfl rfl rfl) rfl (Qm rfl (Qk rfl (Qk rfl (Qk rfl (Qk rfl (Qx (ox_pick_t rfl rfl rfl) rfl (RnQ (ws_cond_t rfl (RsQ (Qm rfl (RnQ (ws_ret (nx_block_ret (nx_then_ret (nx_then_ret (nx_block_ret (nx_then_ret ?_)))))))))))))))))))))
          exact nx_ret1 rfl rfl (by rw [decide_eq_false]; rintro ⟨_, _, _, _, _, h1⟩; exact hb2 (h1 k hk').2.1)
         ·refine Qg (ox_fieldF fd42_2 rfl rfl) rfl (Qg (ox_load rfl underlying3 rfl rfl (Cell.blk 0 rfl rfl)) rfl (Qg (ox_move rfl rfl) rfl (Qg (ox_nei rfl rfl rfl) rfl (Qx (ox_pick_f rfl rfl rfl) rfl (Qm rfl ?_)))))
          refine wl_split (t := 111) rfl (fun hb3 => ?_) (fun hb3 => ?_)
          ·refine Qk rfl (Qk rfl (Qk rfl (Qk rfl (Qx (ox_pick_t rfl rfl rfl) rfl (RnQ (ws_cond_t rfl (RsQ (Qm rfl (RnQ (ws_ret (nx_block_ret (nx_then_ret (nx_then_ret (nx_block_ret (nx_then_ret ?_)))))))))))))))
           exact nx_ret1 rfl rfl (by rw [decide_eq_false]; rintro ⟨_, _, _, _, _, h1⟩; exact hb3 ((h1 k hk').2.2.1.trans (by rw [hsr])))
          ·refine Qg (ox_fieldF fd42_1 rfl rfl) rfl (Qg (ox_load rfl underlying3 rfl rfl (Cell.blk 0 rfl rfl)) rfl (Qg (ox_move rfl rfl) rfl (Qg (ox_nei rfl rfl rfl) rfl (Qx (ox_pick_f rfl rfl rfl) rfl (RnQ ?_)))))
           refine ws_if rfl (fun hb4 => ?_) (fun hb4 => ?_)
           ·refine ws_seq (ws_region (Qm rfl (RnQ (ws_ret (nx_block_ret (nx_then_ret (nx_then_ret (nx_block_ret (nx_then_ret ?_)))))))))
            exact nx_ret1 rfl rfl (by rw [decide_eq_false]; rintro ⟨_, _, _, _, _, h1⟩; exact hb4 ((h1 k hk').2.2.2.trans (by rw [htg])))
           ·refine ws_skip (nx_block (nx_then (ws_region (Qm rfl (Qx (ox_add rfl rfl rfl (by omega)) rfl (Qm rfl (wl_nil (nx_drop ?_))))))))
            refine nx_round (Z.ars.length - (k + 1)) _ (by omega) ⟨k + 1, rfl, rfl, rfl, rfl, by omega, fun j hj h1 => ?_⟩ Qs
            rcases (by omega : j < k ∨ j = k) with h2 | rfl
            ·exact hfit j hj h2
            ·exact ⟨hb1, Decidable.not_not.1 hb2, by rw [hsr]; exact Decidable.not_not.1 hb3, by rw [htg]; exact Decidable.not_not.1 hb4⟩
      ·refine ws_exit (nx_then_exit (nx_then_exit (nx_block_exit (nx_then (RsQ (Qm rfl (RnQ (ws_ret ?_))))))))
       exact nx_ret1 rfl rfl (by rw [decide_eq_true]; exact ⟨by omega, by omega, hlen, hp, hdims, fun j hj => hfit j hj (by omega)⟩)
end Go.Proofs.YtdnelknieikbaaaGreat
namespace Go.Proofs.YtdnelknieikbaaaGreat
open Tryz
open Go.Eng Go.RowKit Go.Lin
theorem mod22_v (a b : Int) (ha : I64 a) (hb : 1 ≤ b ∧ b ≤ 1000000) (h : Hp) (ms : List Hp) : FnV Tryz.prog 34 #[.int .i64 a, .int .i64 b] h ms (.int .i64 (a % b)) := by
 refine fnv ?_ ms
 have ha1 := ha.1
 have ha2 := ha.2
 have h1 : a.tmod b < b := by have := Int.tmod_lt_of_pos a (show 0 < b by omega); omega
 have h2 : -b < a.tmod b := by have := Int.lt_tmod_of_pos a (show 0 < b by omega); omega
 have h3 : (a.tmod b + b) % b = a % b := by rw [Int.add_emod_right, Int.tmod_def, Int.sub_mul_emod_self_left]
 refine fn_enter func34 ntmps34 rfl rfl (fun w0 hw0 => ?_)
 simp only [argS]
 refine RsQ (Qm rfl (RtQ (Qm rfl (Qm rfl (Qx (ox_rem rfl rfl rfl (by omega)) rfl (Qm rfl (Qx (ox_add rfl rfl rfl (by omega)) rfl (Qm rfl (Qx (ox_remP rfl rfl rfl (by omega) (by omega)) rfl (Qm rfl (RnQ (ws_ret ?_))))))))))))
 exact nx_ret1 rfl rfl (by rw [h3])
deriving instance DecidableEq for FM
end Go.Proofs.YtdnelknieikbaaaGreat
namespace Go.Proofs.YtdnelknieikbaaaGreat
open Go.Eng Go.RowKit Go.Lin
end Go.Proofs.YtdnelknieikbaaaGreat
namespace Go.Proofs.YtdnelknieikbaaaGreat
open Tryz
open Go.Eng Go.RowKit Go.Lin
variable {n p : Int}
def ovf (n p : Int) : Int := n ^ (p.toNat - 2) % p
theorem ovf_inv (hp : IsP p) (h1 : 1 ≤ n) (hn : n < p) : n * ovf n p % p = 1 := by
 obtain ⟨k, rfl⟩ := Int.eq_ofNat_of_zero_le (show 0 ≤ n by omega)
 exact inv_end hp (by omega) hn (Cg.mod _ _)
theorem ovf_bd (hp : IsP p) (h1 : 1 ≤ n) (hn : n < p) : 1 ≤ ovf n p ∧ ovf n p < p := by
 have h2 := hp.1
 have h3 := ovf_inv hp h1 hn
 have h4 : 0 ≤ ovf n p := Int.emod_nonneg _ (by omega)
 refine ⟨?_, Int.emod_lt_of_pos _ (by omega)⟩
 rcases (by omega : ovf n p = 0 ∨ 1 ≤ ovf n p) with h | h
 ·rw [h, Int.mul_zero, Int.zero_emod] at h3; omega
 ·exact h
theorem ovf_uniq {v : Int} (hp : IsP p) (h1 : 1 ≤ n) (hn : n < p) (hv : 0 ≤ v ∧ v < p) (h : n * v % p = 1) : v = ovf n p := by
 have h2 := hp.1
 have h3 := ovf_inv hp h1 hn
 have hb := ovf_bd hp h1 hn
 have c1 : Cg p (n * v) 1 := Cg.iff_mod.2 (by rw [h, Int.emod_eq_of_lt (by omega) (by omega)])
 have c2 : Cg p (n * ovf n p) 1 := Cg.iff_mod.2 (by rw [h3, Int.emod_eq_of_lt (by omega) (by omega)])
 have c3 : Cg p (v * (n * ovf n p)) v := by have := Cg.mul (Cg.refl p v) c2; rwa [Int.mul_one] at this
 have c4 : Cg p (v * (n * ovf n p)) (ovf n p) := by
  have := Cg.mul c1 (Cg.refl p (ovf n p))
  rw [Int.one_mul] at this
  exact Cg.trans (Cg.of_eq (by rw [← Int.mul_assoc, Int.mul_comm v n])) this
 exact (c3.symm.trans c4).eq hv ⟨by omega, hb.2⟩
theorem over_v (n p : Int) (h : Hp) (hp : IsP p) (h1 : 1 ≤ n) (hn : n < p) (ms : List Hp) : FnV Tryz.prog 81 #[.int .i64 n, .int .i64 p] h ms (.int .i64 (ovf n p)) := by
 refine fnv ?_ ms
 have hb : 2 ≤ p ∧ p ≤ 997 := ⟨hp.1, hp.2.1⟩
 have ho := ovf_bd hp h1 hn
 have hi := ovf_inv hp h1 hn
 refine fn_enter func81 ntmps81 rfl rfl (fun w0 hw0 => ?_)
 simp only [argS]
 refine RsQ (Qm rfl (RnQ (ws_seq (RsQ (Qm rfl (RnQ (ws_block ?_)))))))
 refine ws_loop (fun q s h' ms' => ∃ (k : Nat), q = 1000 - k ∧ s = [(0, .int .i64 n), (1, .int .i64 p), (5, .int .i64 k)] ∧ h = h' ∧ ms' = [] ∧ 1 ≤ k ∧ (k : Int) ≤ ovf n p)
  (1000 - 1) _ ⟨1, rfl, rfl, rfl, rfl, by omega, by omega⟩ Qs ?_
 rintro q s h' ms' ⟨k, rfl, rfl, rfl, rfl, hk, hko⟩
 have hbm := mul_bd (p := p) (a := n) (b := k) ⟨by omega, hn⟩ ⟨by omega, by omega⟩ hb.2
 refine ws_seq (RsQ (Qm rfl (Qm rfl (Qx (ox_lss rfl rfl rfl) rfl (RnQ ?_)))))
 refine ws_if rfl (fun hc => ?_) (fun hc => absurd (by omega) hc)
 refine ws_skip (nx_then (ws_seq (ws_block (RsQ (Qm rfl (Qm rfl (Qx (ox_mul rfl rfl rfl (by omega)) rfl (Qm rfl (Qx (ox_remP rfl rfl rfl (by omega) (by omega)) rfl (Qx (ox_eqi rfl rfl rfl) rfl (RnQ ?_)))))))))))
 refine ws_if rfl (fun he => ?_) (fun he => ?_)
 ·refine ws_seq (ws_region (Qm rfl (Qm rfl (RnQ (ws_ret (nx_block_ret (nx_then_ret (nx_then_ret (nx_block_ret (nx_then_ret ?_))))))))))
  exact nx_ret1 rfl rfl (by rw [← ovf_uniq hp h1 hn ⟨by omega, by omega⟩ he])
 ·refine ws_skip (nx_block (nx_then (ws_region (Qm rfl (Qx (ox_add rfl rfl rfl (by omega)) rfl (Qm rfl (wl_nil ?_)))))))
  refine nx_round (1000 - (k + 1)) _ (by omega) ⟨k + 1, rfl, rfl, rfl, rfl, by omega, ?_⟩ Qs
  rcases (by omega : (k : Int) = ovf n p ∨ (k : Int) < ovf n p) with h2 | h2
  ·rw [h2] at he; exact absurd hi he
  ·omega
end Go.Proofs.YtdnelknieikbaaaGreat
namespace Go.Proofs.YtdnelknieikbaaaGreat
open Go.Eng Go.RowKit Go.Lin
end Go.Proofs.YtdnelknieikbaaaGreat
namespace Go.Proofs.YtdnelknieikbaaaGreat
open Go.Eng Go.RowKit Go.Lin
theorem Red.fin {p : Int} {r c : Nat} {f F : Nat → Nat → Int} {pv : List Nat} (hl : r ≤ pv.length) : ∀ (d j : Nat), Red p r c f F pv j → Red p r c f F pv (j + d)
 | 0, j, R => R
 | d + 1, j, R => by
  have := (Red.fin hl d j R).skip fun i hi hli => by omega
  exact this
def sst (p : Int) (t k : Nat) (v : Int) (F : Nat → Nat → Int) (n a b : Nat) : Int := if b < n then rs2 p t k v F a b else F a b
theorem sst_zero (p : Int) (t k : Nat) (v : Int) (F : Nat → Nat → Int) (a b : Nat) : sst p t k v F 0 a b = F a b := if_neg (by omega)
theorem sst_at (p : Int) (t k : Nat) (v : Int) (F : Nat → Nat → Int) (n a : Nat) : sst p t k v F n a n = F a n := if_neg (by omega)
theorem sst_step (p : Int) (t k : Nat) (v : Int) (F : Nat → Nat → Int) (n a b : Nat) : upd2 (upd2 (sst p t k v F n) k n (F t n)) t n (F k n * v % p) a b = sst p t k v F (n + 1) a b := by
 unfold upd2 sst rs2 swi
 by_cases h1 : a = t ∧ b = n
 ·obtain ⟨rfl, rfl⟩ := h1
  simp
 ·rw [if_neg h1]
  by_cases h2 : a = k ∧ b = n
  ·obtain ⟨rfl, rfl⟩ := h2
   have : ¬ a = t := fun e => h1 ⟨e, rfl⟩
   simp [this]
  ·rw [if_neg h2]
   by_cases h3 : b < n
   ·have h4 : b < n + 1 := by omega
    simp only [h3, h4, if_true]
   ·by_cases h4 : b < n + 1
    ·have hb : b = n := by omega
     have ha : ¬ a = t := fun e => h1 ⟨e, hb⟩
     have hk : ¬ a = k := fun e => h2 ⟨e, hb⟩
     simp only [h3, h4, ha, hk, if_true, if_false]
    ·simp only [h3, h4, if_false]
theorem sst_all (p : Int) (t k j : Nat) (v : Int) (F : Nat → Nat → Int) (c a b : Nat) (hb : b < c) : sst p t k v F c a b = kst p t k j v F 0 a b := by
 unfold sst kst
 rw [if_pos hb, if_neg (by omega)]
def kpt (p : Int) (t k j : Nat) (v : Int) (F : Nat → Nat → Int) (i n a b : Nat) : Int := if a < i ∨ (a = i ∧ b < n) then rs3 p t k j v F a b else rs2 p t k v F a b
theorem kpt_zero (p : Int) (t k j : Nat) (v : Int) (F : Nat → Nat → Int) (i a b : Nat) : kpt p t k j v F i 0 a b = kst p t k j v F i a b := by
 unfold kpt kst
 by_cases h : a < i
 ·rw [if_pos (.inl h), if_pos h]
 ·rw [if_neg (by omega), if_neg h]
theorem kpt_step (p : Int) (t k j : Nat) (v : Int) (F : Nat → Nat → Int) (i n a b : Nat) (hi : i ≠ t) : upd2 (kpt p t k j v F i n) i n ((rs2 p t k v F i n + (p - rs2 p t k v F i j) * rs2 p t k v F t n) % p) a b = kpt p t k j v F i (n + 1) a b := by
 unfold upd2 kpt
 by_cases h : a = i ∧ b = n
 ·obtain ⟨rfl, rfl⟩ := h
  rw [if_pos ⟨rfl, rfl⟩, if_pos (by omega)]
  unfold rs3
  rw [if_neg hi, Int.mul_comm]
 ·rw [if_neg h]
  by_cases h2 : a < i ∨ (a = i ∧ b < n)
  ·rw [if_pos h2, if_pos (by omega)]
  ·rw [if_neg h2, if_neg (by omega)]
theorem kpt_at (p : Int) (t k j : Nat) (v : Int) (F : Nat → Nat → Int) (i n : Nat) : kpt p t k j v F i n i n = rs2 p t k v F i n := if_neg (by omega)
theorem kpt_t (p : Int) (t k j : Nat) (v : Int) (F : Nat → Nat → Int) (i n b : Nat) : kpt p t k j v F i n t b = rs2 p t k v F t b := by
 unfold kpt rs3; rw [if_pos rfl]; split <;> rfl
theorem kpt_all (p : Int) (t k j : Nat) (v : Int) (F : Nat → Nat → Int) (i c a b : Nat) (hb : b < c) : kpt p t k j v F i c a b = kst p t k j v F (i + 1) a b := by
 unfold kpt kst
 by_cases h : a < i ∨ (a = i ∧ b < c)
 ·rw [if_pos h, if_pos (by omega)]
 ·rw [if_neg h, if_neg (by omega)]
end Go.Proofs.YtdnelknieikbaaaGreat
