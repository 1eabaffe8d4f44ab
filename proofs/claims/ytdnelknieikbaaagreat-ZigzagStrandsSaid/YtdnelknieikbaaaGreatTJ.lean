/- Parts of the proof: Yz Xa Xb Xc Xd Xe Xf Xw Ln Xr Xq Xs Eng35 ZSh Xg Xh Xi Xt Xu. -/
import Derived.Test.YtdnelknieikbaaaGreatTI
import Derived.DeepKeys4
import Derived.Shelf.GgSortFunc.InsertionK
import Derived.Ground.SlsfProg
import Derived.Shelf.SlSortCmp.WholeK
import Derived.Shelf.SlSortCmp.NoneTotal
import Derived.Test.YtdnelknieikbaaaGreatProg
import Derived.Laws.StructEq
import Derived.ChangeKeysEq
set_option linter.unusedSimpArgs false
set_option linter.unusedVariables false
set_option maxRecDepth 100000
set_option maxHeartbeats 4000000
namespace Go.Proofs.YtdnelknieikbaaaGreat
open Tryz
open Go.Eng Go.RowKit Go.Lin Go.Sort Go.Srt
theorem mid_eq (i j : Nat) (h : i + j < 4611686018427387904) : IntKind.i64.wrap (((i + j) % ((2 : Int) ^ IntKind.u64.bits).natAbs / 2 ^ 1 : Nat) : Int) = (((i + j) / 2 : Nat) : Int) := by
 have e1 : (2 ^ IntKind.u64.bits : Int).natAbs = 18446744073709551616 := by decide
 rw [e1, Nat.mod_eq_of_lt (by omega)]
 show IntKind.i64.wrap (((i + j) / 2 : Nat) : Int) = _
 unfold IntKind.wrap
 simp [IntKind.bits, IntKind.signed]
 omega
theorem symMerge_ok : ∀ (N : Nat) (d : Array StE) (v : Value) (m : Hp) (hO : OS m v d) (a t b : Nat) (hN : b - a ≤ N) (hat : a < t) (htb : t < b) (hb : b ≤ d.size) (hsz : d.size ≤ 1000000) (hA : SortedIn ltS a t d) (hB : SortedIn ltS t b d) (h : Hp) {a' t' b' : Int} (ea : a' = a) (et : t' = t) (eb : b' = b),
  FnT Tryz.prog 118 #[v, .int .i64 a', .int .i64 t', .int .i64 b', cvS] h [m] (fun _ h' ms' => h = h' ∧ ∃ m' d', ms' = [m'] ∧ OS m' v d' ∧ PermIn a b d d' ∧ SortedIn ltS a b d') := by
 intro N
 induction N with
 | zero => intro d v m hO a t b hN hat htb; omega
 | succ N ih =>
 intro d v m hO a t b hN hat htb hb hsz hA hB h a' t' b' ea et eb
 subst ea et eb
 refine fn_enter func118 ntmps118 rfl rfl (fun w0 hw0 => ?_)
 simp only [argS]
 refine ws_seq (RsQ (Qm rfl (Qm rfl (Qx (ox_sub rfl rfl rfl (by omega)) rfl (Qx (ox_eqi rfl rfl rfl) rfl (RnQ ?_))))))
 refine ws_if rfl (fun h1 => ?_) (fun h1 => ?_)
 ·-- one element on the left
  obtain rfl : t = a + 1 := by omega
  refine RsQ (Qm rfl (Qm rfl (RtQ (Qm rfl (Qm rfl (RnQ (ws_seq (ws_block ?_))))))))
  refine ws_loop (fun n s h' ms' => ∃ (i j : Nat), n = j - i ∧ s = [(0, v), (1, .int .i64 a), (4, cvS), (10, .int .i64 i), (11, .int .i64 j)] ∧ h = h' ∧ ms' = [m] ∧ a + 1 ≤ i ∧ i ≤ j ∧ j ≤ b ∧ (i = a + 1 ∨ ltS d[i - 1]! d[a]! = true) ∧ (j = b ∨ ltS d[j]! d[a]! = false))
   (b - (a + 1)) _ ⟨a + 1, b, rfl, rfl, rfl, rfl, by omega, by omega, by omega, .inl rfl, .inl rfl⟩ Qs ?_
  rintro n s h' ms' ⟨i, j, rfl, rfl, rfl, rfl, hi, hij, hj, c1, c2⟩
  refine ws_seq (RsQ (Qm rfl (Qm rfl (Qx (ox_lss rfl rfl rfl) rfl (RnQ ?_)))))
  refine ws_if rfl (fun hlt => ?_) (fun hlt => ?_)
  ·refine ws_skip (nx_then (ws_block (RsQ (Qm rfl (Qm rfl (Qx (ox_add rfl rfl rfl (by omega)) rfl (Qx (ox_convW rfl underlying3 underlying143 rfl) rfl (Qx (ox_shrU (n := 1) rfl rfl rfl (by omega)) rfl (Qx (ox_convW rfl underlying143 underlying3 rfl) rfl (Qm rfl (RnQ ?_)))))))))))
   rw [mid_eq i j (by omega)]
   refine ws_seq (ws_draw 9 fol (by kernel_rfl) rfl (wr_x (ox_move rfl rfl) rfl rfl (wr_x (ox_move rfl rfl) rfl rfl (wr_x (ox_move rfl rfl) rfl rfl (wr_x (ox_indexR ((i + j) / 2) (hO.rd (.head _)) rfl underlying60 el64 rfl rfl (by omega) (by omega)) rfl rfl (wr_x (ox_loadG rfl underlying64 rfl el64 rfl rfl (hO.get (.head _) (by omega))) rfl rfl (wr_x (ox_move rfl rfl) rfl rfl (wr_x (ox_move rfl rfl) rfl rfl (wr_x (ox_indexR (a) (hO.rd (.head _)) rfl underlying60 el64 rfl rfl (by omega) (by omega)) rfl rfl (wr_x (ox_loadG rfl underlying64 rfl el64 rfl rfl (hO.get (.head _) (by omega))) rfl rfl (wr_nil (Qx (ox_callv rfl rfl call59 rfl (cmpS_v _ _ _ _)) rfl (Qx (ox_lss rfl rfl rfl) rfl (RnQ ?_))))))))))))))
   refine ws_cond rfl (fun hl => ?_) (fun hl => ?_)
   ·refine ws_region (Qm rfl (Qx (ox_add rfl rfl rfl (by omega)) rfl (Qm rfl (wl_nil (nx_block ?_)))))
    exact nx_round (j - ((i + j) / 2 + 1)) _ (by omega) ⟨(i + j) / 2 + 1, j, rfl, rfl, rfl, rfl, by omega, by omega, by omega, .inr (by rw [Nat.add_sub_cancel]; exact hl), c2⟩ Qs
   ·refine ws_region (Qm rfl (Qm rfl (wl_nil (nx_block ?_))))
    exact nx_round ((i + j) / 2 - i) _ (by omega) ⟨i, (i + j) / 2, rfl, rfl, rfl, rfl, by omega, by omega, by omega, c1, .inr hl⟩ Qs
  ·obtain rfl : i = j := by omega
   refine ws_exit (nx_then_exit (nx_then_exit (nx_block_exit (nx_then (ws_seq (RsQ (Qm rfl (Qm rfl (RnQ (ws_block ?_))))))))))
   refine ws_loop (fun n s h' ms' => ∃ (k : Nat) (d0 : Array StE) (m : Hp), n = i - 1 - k ∧ s = [(0, v), (10, .int .i64 i), (13, .int .i64 k)] ∧ h = h' ∧ ms' = [m] ∧ a ≤ k ∧ k ≤ i - 1 ∧ OS m v d0 ∧ InsR d d0 a k ∧ PermIn a b d d0)
    (i - 1 - a) _ ⟨a, d, m, rfl, rfl, rfl, rfl, by omega, by omega, hO, InsR.start d a, permIn_refl d a b⟩ Qs ?_
   rintro n s h' ms' ⟨k, d0, m0, rfl, rfl, rfl, rfl, hak, hki, hO0, R, P⟩
   have hds := R.1
   refine ws_seq (RsQ (Qm rfl (Qm rfl (Qx (ox_sub rfl rfl rfl (by omega)) rfl (Qx (ox_lss rfl rfl rfl) rfl (RnQ ?_))))))
   refine ws_if rfl (fun hltk => ?_) (fun hltk => ?_)
   ·refine ws_skip (nx_then (ws_seq (ws_block (ws_drawP 14 [false, false, true, true, true] fol (by kernel_rfl) (by kernel_rfl) (by kernel_rfl) (pz_x rfl rfl rfl rfl (px_move rfl rfl) (pz_x rfl rfl rfl rfl (px_move rfl rfl) (pz_x rfl rfl rfl rfl (px_add rfl rfl rfl (by omega)) ?_)))))))
    refine ⟨rfl, ?_⟩
    simp only [zapL, zap, List.cons_append, List.nil_append, List.take_succ_cons, List.take_zero, List.drop_succ_cons, List.drop_zero, List.take_nil, List.drop_nil]
    refine wr_x (ox_move rfl rfl) rfl rfl (wr_x (ox_move rfl rfl) rfl rfl (wr_z rfl rfl rfl (wr_z rfl rfl rfl (wr_z rfl rfl rfl (wr_x (ox_move rfl rfl) rfl rfl (wr_x (ox_move rfl rfl) rfl rfl (wr_x (ox_add rfl rfl rfl (by omega)) rfl rfl (wr_x (ox_indexR (k + 1) (hO0.rd (.head _)) rfl underlying60 el64 rfl rfl (by omega) (by omega)) rfl rfl (wr_x (ox_loadG rfl underlying64 rfl el64 rfl rfl (hO0.get (.head _) (by omega))) rfl rfl (wr_x (ox_move rfl rfl) rfl rfl (wr_x (ox_move rfl rfl) rfl rfl (wr_x (ox_indexR (k) (hO0.rd (.head _)) rfl underlying60 el64 rfl rfl (by omega) (by omega)) rfl rfl (wr_x (ox_loadG rfl underlying64 rfl el64 rfl rfl (hO0.get (.head _) (by omega))) rfl rfl (wr_nil (Qx (ox_indexR (k) (hO0.rd (.head _)) rfl underlying60 el64 rfl rfl (by omega) (by omega)) rfl (wl_storeS 0 _ hO0 rfl el64 rfl rfl rfl (by omega) rfl rfl (fun mhO1 hzhO1 hO1 => Qx (ox_indexR (k + 1) (hO1.rd (.head _)) rfl underlying60 el64 rfl rfl (by omega) (by omega)) rfl (wl_storeS 0 _ hO1 rfl el64 rfl rfl rfl (by omega) rfl rfl (fun mhO2 hzhO2 hO2 => wl_nil (nx_q0 (nx_block (nx_then (ws_region (Qm rfl (Qx (ox_add rfl rfl rfl (by omega)) rfl (Qm rfl (wl_nil ?_)))))))))))))))))))))))))))
    exact nx_round (i - 1 - (k + 1)) _ (by omega) ⟨k + 1, _, mhO2, rfl, rfl, rfl, rfl, by omega, by omega, hO2, R.step hak (by omega), permIn_trans _ _ _ _ _ P (swp_permIn d0 a b k (k + 1) (by omega) (by omega) (by omega) (by omega) (by omega))⟩ Qs
   ·obtain rfl : k = i - 1 := by omega
    refine ws_exit (nx_then_exit (nx_then_exit (nx_block_exit (nx_then (ws_ret (nx_then_ret ?_))))))
    exact nx_ret0 rfl (⟨rfl, m0, d0, rfl, hO0, P, ins_sorted ltS_swo hB ⟨hi, hj⟩ c1 c2 R⟩)
 ·refine ws_skip (nx_then (ws_seq (RsQ (Qm rfl (Qm rfl (Qx (ox_sub rfl rfl rfl (by omega)) rfl (Qx (ox_eqi rfl rfl rfl) rfl (RnQ ?_))))))))
  refine ws_if rfl (fun h2 => ?_) (fun h2 => ?_)
  ·-- one element on the right
   obtain rfl : b = t + 1 := by omega
   refine RsQ (Qm rfl (Qm rfl (RtQ (Qm rfl (Qm rfl (RnQ (ws_seq (ws_block ?_))))))))
   refine ws_loop (fun n s h' ms' => ∃ (i j : Nat), n = j - i ∧ s = [(0, v), (1, .int .i64 a), (2, .int .i64 t), (4, cvS), (14, .int .i64 i), (15, .int .i64 j)] ∧ h = h' ∧ ms' = [m] ∧ a ≤ i ∧ i ≤ j ∧ j ≤ t ∧ (i = a ∨ ltS d[t]! d[i - 1]! = false) ∧ (j = t ∨ ltS d[t]! d[j]! = true))
    (t - a) _ ⟨a, t, rfl, rfl, rfl, rfl, by omega, by omega, by omega, .inl rfl, .inl rfl⟩ Qs ?_
   rintro n s h' ms' ⟨i, j, rfl, rfl, rfl, rfl, hi, hij, hj, c1, c2⟩
   refine ws_seq (RsQ (Qm rfl (Qm rfl (Qx (ox_lss rfl rfl rfl) rfl (RnQ ?_)))))
   refine ws_if rfl (fun hlt => ?_) (fun hlt => ?_)
   ·refine ws_skip (nx_then (ws_block (RsQ (Qm rfl (Qm rfl (Qx (ox_add rfl rfl rfl (by omega)) rfl (Qx (ox_convW rfl underlying3 underlying143 rfl) rfl (Qx (ox_shrU (n := 1) rfl rfl rfl (by omega)) rfl (Qx (ox_convW rfl underlying143 underlying3 rfl) rfl (Qm rfl (RnQ ?_)))))))))))
    rw [mid_eq i j (by omega)]
    refine ws_seq (ws_draw 9 fol (by kernel_rfl) rfl (wr_x (ox_move rfl rfl) rfl rfl (wr_x (ox_move rfl rfl) rfl rfl (wr_x (ox_move rfl rfl) rfl rfl (wr_x (ox_indexR (t) (hO.rd (.head _)) rfl underlying60 el64 rfl rfl (by omega) (by omega)) rfl rfl (wr_x (ox_loadG rfl underlying64 rfl el64 rfl rfl (hO.get (.head _) (by omega))) rfl rfl (wr_x (ox_move rfl rfl) rfl rfl (wr_x (ox_move rfl rfl) rfl rfl (wr_x (ox_indexR ((i + j) / 2) (hO.rd (.head _)) rfl underlying60 el64 rfl rfl (by omega) (by omega)) rfl rfl (wr_x (ox_loadG rfl underlying64 rfl el64 rfl rfl (hO.get (.head _) (by omega))) rfl rfl (wr_nil (Qx (ox_callv rfl rfl call59 rfl (cmpS_v _ _ _ _)) rfl (Qx (ox_lss rfl rfl rfl) rfl (Qx (ox_not rfl rfl) rfl (RnQ ?_)))))))))))))))
    refine ws_cond rfl (fun hl => ?_) (fun hl => ?_)
    ·have hl : ltS d[t]! d[(i + j) / 2]! = false := by unfold ltS; simpa using hl
     refine ws_region (Qm rfl (Qx (ox_add rfl rfl rfl (by omega)) rfl (Qm rfl (wl_nil (nx_block ?_)))))
     exact nx_round (j - ((i + j) / 2 + 1)) _ (by omega) ⟨(i + j) / 2 + 1, j, rfl, rfl, rfl, rfl, by omega, by omega, by omega, .inr (by rw [Nat.add_sub_cancel]; exact hl), c2⟩ Qs
    ·have hl : ltS d[t]! d[(i + j) / 2]! = true := by unfold ltS; simpa using hl
     refine ws_region (Qm rfl (Qm rfl (wl_nil (nx_block ?_))))
     exact nx_round ((i + j) / 2 - i) _ (by omega) ⟨i, (i + j) / 2, rfl, rfl, rfl, rfl, by omega, by omega, by omega, c1, .inr hl⟩ Qs
   ·obtain rfl : i = j := by omega
    refine ws_exit (nx_then_exit (nx_then_exit (nx_block_exit (nx_then (ws_seq (RsQ (Qm rfl (Qm rfl (RnQ (ws_block ?_))))))))))
    refine ws_loop (fun n s h' ms' => ∃ (k : Nat) (d0 : Array StE) (m : Hp), n = k - i ∧ s = [(0, v), (14, .int .i64 i), (17, .int .i64 k)] ∧ h = h' ∧ ms' = [m] ∧ i ≤ k ∧ k ≤ t ∧ OS m v d0 ∧ ShR d d0 t k ∧ PermIn a (t + 1) d d0)
     (t - i) _ ⟨t, d, m, rfl, rfl, rfl, rfl, by omega, by omega, hO, ShR.start d t, permIn_refl d a (t + 1)⟩ Qs ?_
    rintro n s h' ms' ⟨k, d0, m0, rfl, rfl, rfl, rfl, hik, hkt, hO0, R, P⟩
    have hds := R.1
    refine ws_seq (RsQ (Qm rfl (Qm rfl (Qx (ox_gtr rfl rfl rfl) rfl (RnQ ?_)))))
    refine ws_if rfl (fun hltk => ?_) (fun hltk => ?_)
    ·have st : ShR d (Go.Sort.swp d0 k (k - 1)) t (k - 1) := by
      obtain ⟨k', rfl⟩ : ∃ k', k = k' + 1 := ⟨k - 1, by omega⟩
      exact R.step (by omega) (by omega)
     have e : (k : Int) - 1 = ((k - 1 : Nat) : Int) := by omega
     refine ws_skip (nx_then (ws_seq (ws_block (ws_drawP 14 [false, false, true, true, true] fol (by kernel_rfl) (by kernel_rfl) (by kernel_rfl) (pz_x rfl rfl rfl rfl (px_move rfl rfl) (pz_x rfl rfl rfl rfl (px_move rfl rfl) (pz_x rfl rfl rfl rfl (px_sub rfl rfl rfl (by omega)) ?_)))))))
     refine ⟨rfl, ?_⟩
     simp only [zapL, zap, List.cons_append, List.nil_append, List.take_succ_cons, List.take_zero, List.drop_succ_cons, List.drop_zero, List.take_nil, List.drop_nil]
     refine wr_x (ox_move rfl rfl) rfl rfl (wr_x (ox_move rfl rfl) rfl rfl (wr_z rfl rfl rfl (wr_z rfl rfl rfl (wr_z rfl rfl rfl (wr_x (ox_move rfl rfl) rfl rfl (wr_x (ox_move rfl rfl) rfl rfl (wr_x (ox_sub rfl rfl rfl (by omega)) rfl rfl (wr_x (ox_indexR (k - 1) (hO0.rd (.head _)) rfl underlying60 el64 rfl rfl (by omega) (by omega)) rfl rfl (wr_x (ox_loadG rfl underlying64 rfl el64 rfl rfl (hO0.get (.head _) (by omega))) rfl rfl (wr_x (ox_move rfl rfl) rfl rfl (wr_x (ox_move rfl rfl) rfl rfl (wr_x (ox_indexR (k) (hO0.rd (.head _)) rfl underlying60 el64 rfl rfl (by omega) (by omega)) rfl rfl (wr_x (ox_loadG rfl underlying64 rfl el64 rfl rfl (hO0.get (.head _) (by omega))) rfl rfl (wr_nil (Qx (ox_indexR (k) (hO0.rd (.head _)) rfl underlying60 el64 rfl rfl (by omega) (by omega)) rfl (wl_storeS 0 _ hO0 rfl el64 rfl rfl rfl (by omega) rfl rfl (fun mhO1 hzhO1 hO1 => Qx (ox_indexR (k - 1) (hO1.rd (.head _)) rfl underlying60 el64 rfl rfl (by omega) (by omega)) rfl (wl_storeS 0 _ hO1 rfl el64 rfl rfl rfl (by omega) rfl rfl (fun mhO2 hzhO2 hO2 => wl_nil (nx_q0 (nx_block (nx_then (ws_region (Qm rfl (Qx (ox_sub rfl rfl rfl (by omega)) rfl (Qm rfl (wl_nil ?_)))))))))))))))))))))))))))
     rw [e]
     exact nx_round (k - 1 - i) _ (by omega) ⟨k - 1, _, mhO2, rfl, rfl, rfl, rfl, by omega, by omega, hO2, st, permIn_trans _ _ _ _ _ P (swp_permIn d0 a (t + 1) k (k - 1) (by omega) (by omega) (by omega) (by omega) (by omega))⟩ Qs
    ·obtain rfl : k = i := by omega
     refine ws_exit (nx_then_exit (nx_then_exit (nx_block_exit (nx_then (ws_ret (nx_then_ret ?_))))))
     exact nx_ret0 rfl (⟨rfl, m0, d0, rfl, hO0, P, sh_sorted ltS_swo hA ⟨hi, hj⟩ c1 c2 R⟩)
  ·refine ws_skip (nx_then (RsQ (Qm rfl (Qm rfl (Qx (ox_add rfl rfl rfl (by omega)) rfl (Qx (ox_convW rfl underlying3 underlying143 rfl) rfl (Qx (ox_shrU (n := 1) rfl rfl rfl (by omega)) rfl (Qx (ox_convW rfl underlying143 underlying3 rfl) rfl (Qm rfl (RnQ ?_))))))))))
   rw [mid_eq a b (by omega)]
   obtain ⟨mid, hmid⟩ : ∃ mid, mid = (a + b) / 2 := ⟨_, rfl⟩
   rw [← hmid]
   refine RsQ (Qm rfl (Qm rfl (Qx (ox_add rfl rfl rfl (by omega)) rfl (Qm rfl (RtQ (Qm rfl (Qm rfl (RnQ ?_))))))))
   refine ws_cut (fun s h' ms' => ∃ (s0 r0 : Nat), s = [(0, v), (1, .int .i64 a), (2, .int .i64 t), (3, .int .i64 b), (4, cvS), (18, .int .i64 mid), (19, .int .i64 ((mid : Int) + t)), (20, .int .i64 s0), (21, .int .i64 r0)] ∧ h = h' ∧ ms' = [m] ∧ ((mid < t ∧ s0 + b = mid + t ∧ r0 = mid) ∨ (t ≤ mid ∧ s0 = a ∧ r0 = t))) ?_ (fun s h ms hI => ?_)
   ·refine ws_seq (ws_region (Qm rfl (Qm rfl (Qx (ox_gtr rfl rfl rfl) rfl (RnQ ?_)))))
    refine ws_if rfl (fun hgt => ?_) (fun hgt => ?_)
    ·refine ws_seq (ws_region (Qm rfl (Qm rfl (Qx (ox_sub rfl rfl rfl (by omega)) rfl (Qm rfl (RrQ (Qm rfl (Qm rfl (wl_nil ?_)))))))))
     have e : (mid : Int) + t - b = ((mid + t - b : Nat) : Int) := by omega
     rw [e]
     exact nx_meet _ ⟨mid + t - b, mid, rfl, rfl, rfl, .inl ⟨by omega, by omega, rfl⟩⟩ Qs
    ·refine ws_seq (ws_region (Qm rfl (Qm rfl (RrQ (Qm rfl (Qm rfl (wl_nil ?_)))))))
     exact nx_meet _ ⟨a, t, rfl, rfl, rfl, .inr ⟨by omega, rfl, rfl⟩⟩ Qs
   ·obtain ⟨s0, r0, rfl, rfl, rfl, hc⟩ := hI
    refine RsQ (Qm rfl (Qx (ox_sub rfl rfl rfl (by omega)) rfl (Qm rfl (RnQ (ws_seq (ws_block ?_))))))
    refine ws_loop (fun n s h' ms' => ∃ (i j : Nat), n = j - i ∧ s = [(0, v), (1, .int .i64 a), (2, .int .i64 t), (3, .int .i64 b), (4, cvS), (18, .int .i64 mid), (19, .int .i64 ((mid : Int) + t)), (20, .int .i64 i), (21, .int .i64 j), (22, .int .i64 ((mid : Int) + t - 1))] ∧ h = h' ∧ ms' = [m] ∧ s0 ≤ i ∧ i ≤ j ∧ j ≤ r0 ∧ (i = s0 ∨ ltS d[mid + t - i]! d[i - 1]! = false) ∧ (j = r0 ∨ ltS d[mid + t - 1 - j]! d[j]! = true))
     (r0 - s0) _ ⟨s0, r0, rfl, rfl, rfl, rfl, by omega, by omega, by omega, .inl rfl, .inl rfl⟩ Qs ?_
    rintro n s h' ms' ⟨i, j, rfl, rfl, rfl, rfl, hi, hij, hj, c1, c2⟩
    refine ws_seq (RsQ (Qm rfl (Qm rfl (Qx (ox_lss rfl rfl rfl) rfl (RnQ ?_)))))
    refine ws_if rfl (fun hlt => ?_) (fun hlt => ?_)
    ·refine ws_skip (nx_then (ws_block (RsQ (Qm rfl (Qm rfl (Qx (ox_add rfl rfl rfl (by omega)) rfl (Qx (ox_convW rfl underlying3 underlying143 rfl) rfl (Qx (ox_shrU (n := 1) rfl rfl rfl (by omega)) rfl (Qx (ox_convW rfl underlying143 underlying3 rfl) rfl (Qm rfl (RnQ ?_)))))))))))
     rw [mid_eq i j (by omega)]
     refine ws_seq (ws_draw 11 fol (by kernel_rfl) rfl (wr_x (ox_move rfl rfl) rfl rfl (wr_x (ox_move rfl rfl) rfl rfl (wr_x (ox_move rfl rfl) rfl rfl (wr_x (ox_move rfl rfl) rfl rfl (wr_x (ox_sub rfl rfl rfl (by omega)) rfl rfl (wr_x (ox_indexR (mid + t - 1 - (i + j) / 2) (hO.rd (.head _)) rfl underlying60 el64 rfl rfl (by omega) (by omega)) rfl rfl (wr_x (ox_loadG rfl underlying64 rfl el64 rfl rfl (hO.get (.head _) (by omega))) rfl rfl (wr_x (ox_move rfl rfl) rfl rfl (wr_x (ox_move rfl rfl) rfl rfl (wr_x (ox_indexR ((i + j) / 2) (hO.rd (.head _)) rfl underlying60 el64 rfl rfl (by omega) (by omega)) rfl rfl (wr_x (ox_loadG rfl underlying64 rfl el64 rfl rfl (hO.get (.head _) (by omega))) rfl rfl (wr_nil (Qx (ox_callv rfl rfl call59 rfl (cmpS_v _ _ _ _)) rfl (Qx (ox_lss rfl rfl rfl) rfl (Qx (ox_not rfl rfl) rfl (RnQ ?_)))))))))))))))))
     refine ws_cond rfl (fun hl => ?_) (fun hl => ?_)
     ·have hl : ltS d[mid + t - 1 - (i + j) / 2]! d[(i + j) / 2]! = false := by unfold ltS; simpa using hl
      refine ws_region (Qm rfl (Qx (ox_add rfl rfl rfl (by omega)) rfl (Qm rfl (wl_nil (nx_block ?_)))))
      exact nx_round (j - ((i + j) / 2 + 1)) _ (by omega) ⟨(i + j) / 2 + 1, j, rfl, rfl, rfl, rfl, by omega, by omega, by omega, .inr (by rw [Nat.add_sub_cancel, show mid + t - ((i + j) / 2 + 1) = mid + t - 1 - (i + j) / 2 by omega]; exact hl), c2⟩ Qs
     ·have hl : ltS d[mid + t - 1 - (i + j) / 2]! d[(i + j) / 2]! = true := by unfold ltS; simpa using hl
      refine ws_region (Qm rfl (Qm rfl (wl_nil (nx_block ?_))))
      exact nx_round ((i + j) / 2 - i) _ (by omega) ⟨i, (i + j) / 2, rfl, rfl, rfl, rfl, by omega, by omega, by omega, c1, .inr hl⟩ Qs
    ·obtain rfl : i = j := by omega
     obtain ⟨e, he⟩ : ∃ e, e = mid + t - i := ⟨_, rfl⟩
     have he2 : (mid : Int) + t - i = (e : Int) := by omega
     refine ws_exit (nx_then_exit (nx_then_exit (nx_block_exit (nx_then (RsQ (Qm rfl (Qm rfl (Qx (ox_sub rfl rfl rfl (by omega)) rfl (Qm rfl (RnQ ?_))))))))))
     rw [he2]
     have k1 : i = a ∨ e = b ∨ ltS d[e]! d[i - 1]! = false := by
      rcases c1 with c | c
      ·rcases hc with hc | hc
       ·right; left; omega
       ·left; omega
      ·right; right; rw [he]; exact c
     have k2 : i = t ∨ e = t ∨ ltS d[e - 1]! d[i]! = true := by
      rcases c2 with c | c
      ·rcases hc with hc | hc
       ·right; left; omega
       ·left; omega
      ·right; right; rw [show e - 1 = mid + t - 1 - i by omega]; exact c
     have hg : a ≤ i ∧ i ≤ t ∧ i ≤ mid ∧ t ≤ e ∧ e ≤ b := by rcases hc with hc | hc <;> omega
     have hs2 : i + e = mid + t := by omega
     refine ws_cut (fun s h' ms' => ∃ (d1 : Array StE) (m1 : Hp), s = [(0, v), (1, .int .i64 a), (3, .int .i64 b), (4, cvS), (18, .int .i64 mid), (20, .int .i64 i), (24, .int .i64 e)] ∧ h = h' ∧ ms' = [m1] ∧ OS m1 v d1 ∧ (∀ k, d1[k]! = rotv d i t e k) ∧ PermIn a b d d1) ?_ (fun s h ms hI => ?_)
     ·refine ws_seq (ws_region (Qm rfl (Qm rfl (Qx (ox_lss rfl rfl rfl) rfl (Qm rfl ?_)))))
      refine wl_split (t := 181) rfl (fun q1 => ?_) (fun q1 => ?_)
      ·refine Qg (ox_move rfl rfl) rfl (Qg (ox_move rfl rfl) rfl (Qg (ox_lss rfl rfl rfl) rfl (Qx (ox_pick_t rfl rfl rfl) rfl (RnQ ?_))))
       refine ws_if rfl (fun q2 => ?_) (fun q2 => ?_)
       ·refine ws_region (Qm rfl (Qm rfl (Qm rfl (Qm rfl (Qm rfl (wl_call_ (pre := [m]) rfl call139 rfl (rotate_ok d v cvS m hO i t e a b (by omega) (by omega) (by omega) (by omega) (by omega) (by omega) (by omega) h rfl rfl rfl) rfl rfl rfl rfl (fun r h1 ms1 l1 hF => ?_)))))))
        obtain ⟨rfl, m1, d1, rfl, hO1, hr, P⟩ := hF
        refine wl_nil ?_
        exact nx_meet _ ⟨d1, m1, rfl, rfl, rfl, hO1, hr, P⟩ Qs
       ·refine ws_skip ?_
        exact nx_meet _ ⟨d, m, rfl, rfl, rfl, hO, fun k => (rotv_none (by omega) k).symm, permIn_refl d a b⟩ Qs
      ·refine Qk rfl (Qk rfl (Qk rfl (Qx (ox_pick_f rfl rfl rfl) rfl (RnQ (ws_cond_f rfl (ws_skip ?_))))))
       exact nx_meet _ ⟨d, m, rfl, rfl, rfl, hO, fun k => (rotv_none (by omega) k).symm, permIn_refl d a b⟩ Qs
     ·obtain ⟨d1, m1, rfl, rfl, rfl, hO1, hr, P⟩ := hI
      have C := cut_ok ltS_swo hA hB hg hs2 hr k1 k2
      have hd1 := P.1
      refine ws_cut (fun s h' ms' => ∃ (d2 : Array StE) (m2 : Hp), s = [(0, v), (3, .int .i64 b), (4, cvS), (18, .int .i64 mid), (24, .int .i64 e)] ∧ h = h' ∧ ms' = [m2] ∧ OS m2 v d2 ∧ PermIn a mid d1 d2 ∧ SortedIn ltS a mid d2) ?_ (fun s h ms hI => ?_)
      ·refine ws_seq (ws_region (Qm rfl (Qm rfl (Qx (ox_lss rfl rfl rfl) rfl (Qm rfl ?_)))))
       refine wl_split (t := 195) rfl (fun q1 => ?_) (fun q1 => ?_)
       ·refine Qg (ox_move rfl rfl) rfl (Qg (ox_move rfl rfl) rfl (Qg (ox_lss rfl rfl rfl) rfl (Qx (ox_pick_t rfl rfl rfl) rfl (RnQ ?_))))
        refine ws_if rfl (fun q2 => ?_) (fun q2 => ?_)
        ·refine ws_region (Qm rfl (Qm rfl (Qm rfl (Qm rfl (Qm rfl (wl_call_ (pre := [m1]) rfl call118 rfl (ih d1 v m1 hO1 a i mid (by omega) (by omega) (by omega) (by omega) (by omega) C.lo C.lo2 h rfl rfl rfl) rfl rfl rfl rfl (fun r h1 ms1 l1 hF => ?_)))))))
         obtain ⟨rfl, m2, d2, rfl, hO2, P2, S2⟩ := hF
         refine wl_nil ?_
         exact nx_meet _ ⟨d2, m2, rfl, rfl, rfl, hO2, P2, S2⟩ Qs
        ·obtain rfl : i = mid := by omega
         refine ws_skip ?_
         exact nx_meet _ ⟨d1, m1, rfl, rfl, rfl, hO1, permIn_refl d1 a _, C.lo⟩ Qs
       ·obtain rfl : i = a := by omega
        refine Qk rfl (Qk rfl (Qk rfl (Qx (ox_pick_f rfl rfl rfl) rfl (RnQ (ws_cond_f rfl (ws_skip ?_))))))
        exact nx_meet _ ⟨d1, m1, rfl, rfl, rfl, hO1, permIn_refl d1 _ _, C.lo2⟩ Qs
      ·obtain ⟨d2, m2, rfl, rfl, rfl, hO2, P2, S2⟩ := hI
       have hd2 := P2.1
       have f1 : SortedIn ltS mid e d2 := sorted_congr C.hi fun k h1 h2 => P2.2.1 k (.inr h1)
       have f2 : SortedIn ltS e b d2 := sorted_congr C.hi2 fun k h1 h2 => P2.2.1 k (.inr (by omega))
       have fin : ∀ d3, PermIn mid b d2 d3 → SortedIn ltS mid b d3 → PermIn a b d d3 ∧ SortedIn ltS a b d3 := fun d3 P3 S3 =>
        ⟨permIn_trans _ _ _ _ _ P (permIn_trans _ _ _ _ _ (permIn_mono d1 d2 a mid a b (by omega) (by omega) (by omega) P2) (permIn_mono d2 d3 mid b a b (by omega) (by omega) (by omega) P3)), cut_done C (by omega) (by omega) P2 S2 P3 S3⟩
       refine RsQ (Qm rfl (Qm rfl (Qx (ox_lss rfl rfl rfl) rfl (Qm rfl ?_))))
       refine wl_split (t := 209) rfl (fun q1 => ?_) (fun q1 => ?_)
       ·refine Qg (ox_move rfl rfl) rfl (Qg (ox_move rfl rfl) rfl (Qg (ox_lss rfl rfl rfl) rfl (Qx (ox_pick_t rfl rfl rfl) rfl (RnQ ?_))))
        refine ws_if rfl (fun q2 => ?_) (fun q2 => ?_)
        ·refine ws_region (Qm rfl (Qm rfl (Qm rfl (Qm rfl (Qm rfl (wl_call_ (pre := [m2]) rfl call118 rfl (ih d2 v m2 hO2 mid e b (by omega) (by omega) (by omega) (by omega) (by omega) f1 f2 h rfl rfl rfl) rfl rfl rfl rfl (fun r h1 ms1 l1 hF => ?_)))))))
         obtain ⟨rfl, m3, d3, rfl, hO3, P3, S3⟩ := hF
         refine wl_nil ?_
         exact nx_end0 rfl (⟨rfl, m3, d3, rfl, hO3, (fin d3 P3 S3).1, (fin d3 P3 S3).2⟩)
        ·obtain rfl : e = b := by omega
         refine ws_skip ?_
         exact nx_end0 rfl (⟨rfl, m2, d2, rfl, hO2, (fin d2 (permIn_refl d2 _ _) f1).1, (fin d2 (permIn_refl d2 _ _) f1).2⟩)
       ·obtain rfl : e = mid := by omega
        refine Qk rfl (Qk rfl (Qk rfl (Qx (ox_pick_f rfl rfl rfl) rfl (RnQ (ws_cond_f rfl (ws_skip ?_))))))
        exact nx_end0 rfl (⟨rfl, m2, d2, rfl, hO2, (fin d2 (permIn_refl d2 _ _) f2).1, (fin d2 (permIn_refl d2 _ _) f2).2⟩)
end Go.Proofs.YtdnelknieikbaaaGreat
namespace Go.Proofs.YtdnelknieikbaaaGreat
open Tryz
open Go.Eng Go.RowKit Go.Lin Go.Sort Go.Srt
variable {a : Nat}
theorem dvd_lt {k x : Nat} (hx : k ∣ x) (ha : k ∣ a) (h : x < a) : x + k ≤ a := by
 obtain ⟨p, rfl⟩ := hx
 obtain ⟨q, rfl⟩ := ha
 have : p < q := Nat.lt_of_mul_lt_mul_left h
 calc k * p + k = k * (p + 1) := by rw [Nat.mul_add, Nat.mul_one]
  _ ≤ k * q := Nat.mul_le_mul_left k this
def Bk (d : Array StE) (s n : Nat) : Prop := ∀ x, s ∣ x → SortedIn ltS x (min (x + s) n) d
theorem sorted_short {d : Array StE} {b b' : Nat} (h : SortedIn ltS a b d) (hb : b' ≤ b) : SortedIn ltS a b' d := fun i j h1 h2 h3 => h i j h1 h2 (by omega)
theorem sorted_none {d : Array StE} {b : Nat} (hb : b ≤ a) : SortedIn ltS a b d := fun i j h1 h2 h3 => by omega
theorem stable_ok (d : Array StE) (v : Value) (m : Hp) (hO : OS m v d) (hsz : d.size ≤ 1000000) (h : Hp) {n' : Int} (en : n' = d.size) :
  FnT Tryz.prog 92 #[v, .int .i64 n', cvS] h [m] (fun _ h' ms' => h = h' ∧ ∃ m' d', ms' = [m'] ∧ OS m' v d' ∧ PermIn 0 d.size d d' ∧ SortedIn ltS 0 d.size d') := by
 subst en
 obtain ⟨n, hn⟩ : ∃ n, n = d.size := ⟨_, rfl⟩
 rw [← hn]
 refine fn_enter func92 ntmps92 rfl rfl (fun w0 hw0 => ?_)
 simp only [argS]
 refine RsQ (Qm rfl (RtQ (Qm rfl (Qm rfl (Qm rfl (RnQ (ws_seq (ws_block ?_))))))))
 refine ws_loop (fun q s h' ms' => ∃ (a : Nat) (d0 : Array StE) (m : Hp), q = n - a ∧ s = [(0, v), (1, .int .i64 n), (2, cvS), (6, .int .i64 20), (7, .int .i64 a), (8, .int .i64 ((a : Int) + 20))] ∧ h = h' ∧ ms' = [m] ∧ a ≤ n ∧ 20 ∣ a ∧ OS m v d0 ∧ PermIn 0 n d d0 ∧ ∀ x, 20 ∣ x → x + 20 ≤ a → SortedIn ltS x (x + 20) d0)
  (n - 0) _ ⟨0, d, m, rfl, rfl, rfl, rfl, by omega, ⟨0, rfl⟩, hO, permIn_refl d 0 n, fun x _ h => by omega⟩ Qs ?_
 rintro q s h' ms' ⟨a, d0, m0, rfl, rfl, rfl, rfl, han, hda, hO0, P, hB⟩
 have hds := P.1
 refine ws_seq (RsQ (Qm rfl (Qm rfl (Qx (ox_leq rfl rfl rfl) rfl (RnQ ?_)))))
 refine ws_if rfl (fun hle => ?_) (fun hle => ?_)
 ·refine ws_skip (nx_then (ws_block (RsQ (Qm rfl (Qm rfl (Qm rfl (Qm rfl (wl_call_ (pre := [m0]) rfl call117 rfl (insS_ok d0 v m0 hO0 a (a + 20) (by omega) (by omega) (by omega) h rfl (by omega)) rfl rfl rfl rfl (fun r h1 ms1 l1 hF => ?_)))))))))
  obtain ⟨rfl, m1, d1, rfl, hO1, P1, S1⟩ := hF
  refine RtQ (Qm rfl (Qm rfl (RrQ (Qm rfl (Qm rfl (Qx (ox_add rfl rfl rfl (by omega)) rfl (Qm rfl (wl_nil (nx_block ?_)))))))))
  exact nx_round (n - (a + 20)) _ (by omega) ⟨a + 20, d1, m1, rfl, rfl, rfl, rfl, by omega, Nat.dvd_add hda ⟨1, rfl⟩, hO1, permIn_trans _ _ _ _ _ P (permIn_mono d0 d1 a (a + 20) 0 n (by omega) (by omega) (by omega) P1), fun x hx hx2 => by
   rcases Nat.lt_or_ge x a with h1 | h1
   ·have := dvd_lt hx hda h1
    exact sorted_congr (hB x hx this) fun k h2 h3 => P1.2.1 k (.inl (by omega))
   ·obtain rfl : x = a := by omega
    exact S1⟩ Qs
 ·refine ws_exit (nx_then_exit (nx_then_exit (nx_block_exit (nx_then (RsQ (Qm rfl (Qm rfl (Qm rfl (Qm rfl (wl_call_ (pre := [m0]) rfl call117 rfl (insS_ok d0 v m0 hO0 a n (by omega) (by omega) (by omega) h rfl rfl) rfl rfl rfl rfl (fun r h1 ms1 l1 hF => ?_)))))))))))
  obtain ⟨rfl, m1, d1, rfl, hO1, P1, S1⟩ := hF
  have PB : PermIn 0 n d d1 := permIn_trans _ _ _ _ _ P (permIn_mono d0 d1 a n 0 n (by omega) (by omega) (by omega) P1)
  have B1 : Bk d1 20 n := fun x hx => by
   rcases Nat.lt_trichotomy x a with h1 | rfl | h1
   ·have := dvd_lt hx hda h1
    exact sorted_short (sorted_congr (hB x hx this) fun k h2 h3 => P1.2.1 k (.inl (by omega))) (by omega)
   ·exact sorted_short S1 (by omega)
   ·have := dvd_lt hda hx h1
    exact sorted_none (by omega)
  refine RnQ (ws_block ?_)
  refine ws_loop (fun q s h' ms' => ∃ (w : Nat) (d0 : Array StE) (m : Hp), q = n - w ∧ s = [(0, v), (1, .int .i64 n), (2, cvS), (6, .int .i64 w)] ∧ h = h' ∧ ms' = [m] ∧ 1 ≤ w ∧ w ≤ 4000000 ∧ OS m v d0 ∧ PermIn 0 n d d0 ∧ Bk d0 w n)
   (n - 20) _ ⟨20, d1, m1, rfl, rfl, rfl, rfl, by omega, by omega, hO1, PB, B1⟩ Qs ?_
  rintro q s h' ms' ⟨w, d2, m2, rfl, rfl, rfl, rfl, hw1, hw2, hO2, P2, B2⟩
  have hd2 := P2.1
  refine ws_seq (RsQ (Qm rfl (Qm rfl (Qx (ox_lss rfl rfl rfl) rfl (RnQ ?_)))))
  refine ws_if rfl (fun hlt => ?_) (fun hlt => ?_)
  ·refine ws_skip (nx_then (ws_block (RsQ (Qm rfl (Qx (ox_mul rfl rfl rfl (by omega)) rfl (Qm rfl (Qm rfl (RnQ (ws_seq (ws_block ?_))))))))))
   refine ws_loop (fun q s h' ms' => ∃ (a : Nat) (z : Int) (d0 : Array StE) (m : Hp), q = n - a ∧ s = [(0, v), (1, .int .i64 n), (2, cvS), (6, .int .i64 w), (7, .int .i64 a), (8, .int .i64 z)] ∧ h = h' ∧ ms' = [m] ∧ z = a + 2 * w ∧ a ≤ n ∧ 2 * w ∣ a ∧ OS m v d0 ∧ PermIn 0 n d d0 ∧ (∀ x, 2 * w ∣ x → x + 2 * w ≤ a → SortedIn ltS x (x + 2 * w) d0) ∧ ∀ x, w ∣ x → a ≤ x → SortedIn ltS x (min (x + w) n) d0)
    (n - 0) _ ⟨0, 2 * (w : Int), d2, m2, rfl, rfl, rfl, rfl, by omega, by omega, ⟨0, rfl⟩, hO2, P2, fun x _ h => by omega, fun x hx _ => B2 x hx⟩ Qs ?_
   rintro q s h' ms' ⟨a, z, d3, m3, rfl, rfl, rfl, rfl, rfl, han, hda, hO3, P3, hL, hR⟩
   have hd3 := P3.1
   have hwa : w ∣ a := Nat.dvd_trans ⟨2, Nat.mul_comm 2 w⟩ hda
   have hwa2 : w ∣ a + w := Nat.dvd_add hwa (Nat.dvd_refl w)
   have hwa3 : 2 * w ∣ a + 2 * w := Nat.dvd_add hda (Nat.dvd_refl _)
   have s1 := hR a hwa (Nat.le_refl _)
   have s2 := hR (a + w) hwa2 (by omega)
   refine ws_seq (RsQ (Qm rfl (Qm rfl (Qx (ox_leq rfl rfl rfl) rfl (RnQ ?_)))))
   refine ws_if rfl (fun hle2 => ?_) (fun hle2 => ?_)
   ·rw [show min (a + w) n = a + w by omega] at s1
    rw [show min (a + w + w) n = a + 2 * w by omega] at s2
    refine ws_skip (nx_then (ws_block (RsQ (Qm rfl (Qm rfl (Qm rfl (Qm rfl (Qx (ox_add rfl rfl rfl (by omega)) rfl (Qm rfl (Qm rfl (wl_call_ (pre := [m3]) rfl call118 rfl (symMerge_ok (2 * w) d3 v m3 hO3 a (a + w) (a + 2 * w) (by omega) (by omega) (by omega) (by omega) (by omega) s1 s2 h rfl (by omega) (by omega)) rfl rfl rfl rfl (fun r h1 ms1 l1 hF => ?_))))))))))))
    obtain ⟨rfl, m4, d4, rfl, hO4, P4, S4⟩ := hF
    refine RtQ (Qm rfl (Qm rfl (RrQ (Qm rfl (Qm rfl (Qx (ox_mul rfl rfl rfl (by omega)) rfl (Qx (ox_add rfl rfl rfl (by omega)) rfl (Qm rfl (wl_nil (nx_block ?_))))))))))
    exact nx_round (n - (a + 2 * w)) _ (by omega) ⟨a + 2 * w, (a : Int) + 2 * w + 2 * w, d4, m4, rfl, rfl, rfl, rfl, by omega, by omega, hwa3, hO4, permIn_trans _ _ _ _ _ P3 (permIn_mono d3 d4 a (a + 2 * w) 0 n (by omega) (by omega) (by omega) P4), fun x hx hx2 => by
     rcases Nat.lt_or_ge x a with h1 | h1
     ·have := dvd_lt hx hda h1
      exact sorted_congr (hL x hx this) fun k h2 h3 => P4.2.1 k (.inl (by omega))
     ·obtain rfl : x = a := by omega
      exact S4, fun x hx hx2 => sorted_congr (hR x hx (by omega)) fun k h2 h3 => P4.2.1 k (.inr (by omega))⟩ Qs
   ·have fin : ∀ d4, PermIn a n d3 d4 → SortedIn ltS a n d4 → PermIn 0 n d d4 ∧ Bk d4 (w * 2) n := fun d4 P4 S4 => ⟨permIn_trans _ _ _ _ _ P3 (permIn_mono d3 d4 a n 0 n (by omega) (by omega) (by omega) P4), fun x hx => by
     rw [Nat.mul_comm] at hx ⊢
     rcases Nat.lt_trichotomy x a with h1 | rfl | h1
     ·have := dvd_lt hx hda h1
      exact sorted_short (sorted_congr (hL x hx this) fun k h2 h3 => P4.2.1 k (.inl (by omega))) (by omega)
     ·exact sorted_short S4 (by omega)
     ·have := dvd_lt hda hx h1
      exact sorted_none (by omega)⟩
    refine ws_exit (nx_then_exit (nx_then_exit (nx_block_exit (nx_then (ws_seq (RsQ (Qm rfl (Qm rfl (Qx (ox_add rfl rfl rfl (by omega)) rfl (Qm rfl (RtQ (Qm rfl (Qm rfl (Qx (ox_lss rfl rfl rfl) rfl (RnQ ?_)))))))))))))))
    refine ws_if rfl (fun hm => ?_) (fun hm => ?_)
    ·rw [show min (a + w) n = a + w by omega] at s1
     rw [show min (a + w + w) n = n by omega] at s2
     refine ws_region (Qm rfl (Qm rfl (Qm rfl (Qm rfl (Qm rfl (wl_call_ (pre := [m3]) rfl call118 rfl (symMerge_ok (2 * w) d3 v m3 hO3 a (a + w) n (by omega) (by omega) (by omega) (by omega) (by omega) s1 s2 h rfl (by omega) rfl) rfl rfl rfl rfl (fun r h1 ms1 l1 hF => ?_)))))))
     obtain ⟨rfl, m4, d4, rfl, hO4, P4, S4⟩ := hF
     have := fin d4 P4 S4
     refine RrQ (Qm rfl (Qx (ox_mul rfl rfl rfl (by omega)) rfl (Qm rfl (wl_nil (nx_block ?_)))))
     exact nx_round (n - w * 2) _ (by omega) ⟨w * 2, d4, m4, rfl, rfl, rfl, rfl, by omega, by omega, hO4, this.1, this.2⟩ Qs
    ·rw [show min (a + w) n = n by omega] at s1
     have := fin d3 (permIn_refl d3 a n) s1
     refine ws_skip (nx_then (ws_region (Qm rfl (Qx (ox_mul rfl rfl rfl (by omega)) rfl (Qm rfl (wl_nil (nx_block ?_)))))))
     exact nx_round (n - w * 2) _ (by omega) ⟨w * 2, d3, m3, rfl, rfl, rfl, rfl, by omega, by omega, hO3, this.1, this.2⟩ Qs
  ·refine ws_exit (nx_then_exit (nx_then_exit (nx_block_exit ?_)))
   exact nx_end0 rfl (⟨rfl, m2, d2, rfl, hO2, P2, by have := B2 0 ⟨0, rfl⟩; rwa [show min (0 + w) n = n by omega] at this⟩)
theorem sortStable_ok (d : Array StE) (v : Value) (m : Hp) (hO : OS m v d) (hsz : d.size ≤ 1000000) (h : Hp) :
  FnT Tryz.prog 58 #[v, cvS] h [m] (fun _ h' ms' => h = h' ∧ ∃ m' d', ms' = [m'] ∧ OS m' v d' ∧ PermIn 0 d.size d d' ∧ SortedIn ltS 0 d.size d') := by
 refine fn_enter func58 ntmps58 rfl rfl (fun w0 hw0 => ?_)
 simp only [argS]
 refine ws_region (Qm rfl (Qm rfl (Qx (ox_lenR (hO.rd (.head _)) rfl underlying60 rfl) rfl (Qm rfl (wl_call_ (pre := [m]) rfl call92 rfl (stable_ok d v m hO hsz h rfl) rfl rfl rfl rfl (fun r h1 ms1 l1 hF => ?_))))))
 obtain ⟨rfl, m4, d4, rfl, hO4, P4, S4⟩ := hF
 refine wl_nil ?_
 exact nx_end0 rfl (⟨rfl, m4, d4, rfl, hO4, P4, S4⟩)
end Go.Proofs.YtdnelknieikbaaaGreat
namespace Go.Proofs.YtdnelknieikbaaaGreat
open Tryz
open Go.Eng Go.RowKit Go.Lin Go.Sort Go.Srt
variable {m : Hp}
def StV (d : Nat → Nat) (g : Nat) (e : StE) (fr to : Nat) (v : Nat → Nat → Int) (m : Hp) : Prop :=
 e.fr = fr ∧ e.to = to ∧ ∃ (es : List Value) (ma mb : Hp), fr ≤ to ∧ m = (Blk g 110 (cS e)).join (ma.join mb) ∧ (Blk g 110 (cS e)).disj (ma.join mb) ∧ ma.disj mb ∧ OwnL cV 1 24 ma e.v es ∧ es.length = to + 1 - fr ∧ VecB d fr es.length es v mb
theorem StO.out {d : Nat → Nat} {g fr to : Nat} {v : Nat → Nat → Int} (S : StO d g fr to v m) : ∃ e, StV d g e fr to v m := by
 obtain ⟨vv, es, ma, mb, h0, h1, h2, h3, h4, h5, h6⟩ := S
 exact ⟨⟨fr, to, vv, (h4.rd (h := Hp.emp) (ms := [ma]) (List.Mem.head _)).rd.one⟩, rfl, rfl, es, ma, mb, h0, h1, h2, h3, h4, h5, h6⟩
theorem bag_choose {β : Type} [Inhabited β] {N : Nat} {R : Nat → β → Hp → Prop} (B : Bag N (fun l x => ∃ e, R l e x) m) : ∃ e : Nat → β, Bag N (fun l x => R l (e l) x) m := by
 classical
 obtain ⟨f, h1, h2, h3⟩ := B
 refine ⟨fun l => if hl : l < N then Classical.choose (h3 l hl) else default, f, h1, h2, fun l hl => ?_⟩
 show R l (if hl : l < N then Classical.choose (h3 l hl) else default) (f l)
 rw [dif_pos hl]
 exact Classical.choose_spec (h3 l hl)
theorem perm_map {α β : Type} {f : α → β} {M l : List β} (h : M.Perm l) : ∀ L : List α, M = L.map f → ∃ L', L.Perm L' ∧ l = L'.map f := by
 induction h with
 | nil => intro L hM; exact ⟨[], by rw [List.map_eq_nil_iff.1 hM.symm], rfl⟩
 | cons x p ih =>
  intro L hM
  obtain ⟨a, L1, rfl, rfl, rfl⟩ := List.map_eq_cons_iff.1 hM.symm
  obtain ⟨L', h1, rfl⟩ := ih L1 rfl
  exact ⟨a :: L', h1.cons a, rfl⟩
 | swap x y l =>
  intro L hM
  obtain ⟨a, L1, rfl, rfl, h2⟩ := List.map_eq_cons_iff.1 hM.symm
  obtain ⟨b, L2, rfl, rfl, rfl⟩ := List.map_eq_cons_iff.1 h2
  exact ⟨b :: a :: L2, .swap b a L2, rfl⟩
 | trans p q ih1 ih2 =>
  intro L hM
  obtain ⟨L1, h1, e1⟩ := ih1 L hM
  obtain ⟨L2, h2, e2⟩ := ih2 L1 e1
  exact ⟨L2, h1.trans h2, e2⟩
theorem StV.seg {d : Nat → Nat} {g : Nat} {e : StE} {fr to : Nat} {v : Nat → Nat → Int} {h : Hp} (S : StV d g e fr to v m) (hl : m.le h) : Seg h [] ⟨g, 0, none⟩ (cS e) := by
 obtain ⟨_, _, es, ma, mb, h0, rfl, _⟩ := S
 exact Seg.ofLe (Hp.le_trans Hp.le_joinl hl)
theorem permIn_perm {d d' : Array StE} (P : PermIn 0 d.size d d') : d'.toList.Perm d.toList := by
 have h := P.2.2
 have e1 : d'.extract 0 d.size = d' := by rw [← P.1]; simp
 have e2 : d.extract 0 d.size = d := by simp
 rwa [e1, e2] at h
theorem strands_not (Z : Zz) (vd va : Value) (h : Hp) (hO : Z.Ok) (hRt : ¬ Z.Rt) (hR : RdZ h vd va Z) :
  FnT Tryz.prog 30 #[.agg #[.int .i64 Z.p, vd, va]] h [] (fun r h' ms' => r = .slice none 0 0 ∧ ms' = []) := by
 have o1 := hR.d.rd.one
 have o2 := hR.a.rd.one
 refine fn_enter func30 ntmps30 rfl rfl (fun w0 hw0 => ?_)
 simp only [argS]
 refine RsQ ?_
 refine wl_box [_, _, _] rfl rfl (by rfl) rfl rfl rfl (fun g1 => ?_)
 refine Qm rfl (RnQ (ws_freezeB fun h1 l1 hG1 => ?_))
 have hR := hR.up l1
 refine ws_seq (RsQ (Qx (ox_loadG rfl underlying30 rfl el30 rfl rfl (Seg.any hG1)) rfl (Qx (ox_call rfl call35 rfl (fnv (zright_ok Z vd va _ hO hR) _)) rfl (Qx (ox_not rfl rfl) rfl (RnQ ?_)))))
 refine ws_cond rfl (fun hb => ?_) (fun hb => ?_)
 ·refine ws_seq (ws_region (Qm rfl (RnQ (ws_ret (nx_then_ret ?_)))))
  exact nx_ret1 rfl rfl (⟨rfl, rfl⟩)
 ·exact absurd (by simpa using hb) hRt
theorem strands_ok (Z : Zz) (vd va : Value) (h : Hp) (hO : Z.Ok) (hRt : Z.Rt) (hR : RdZ h vd va Z) :
  FnT Tryz.prog 30 #[.agg #[.int .i64 Z.p, vd, va]] h [] (fun r h' ms' => h.le h' ∧ ∃ (N : Nat) (S : Nat → SM) (e : Nat → StE) (L : List Nat) (m mB : Hp), ms' = [m, mB] ∧ N ≤ 20400 ∧ OwnL cS 3 64 m r (L.map e) ∧ Bag N (fun l x => StV Z.zg.d (S l).g (e l) (S l).fr (S l).to (S l).v x) mB ∧ L.Perm (List.range N) ∧ Valid Z.zg (dcOf N S) ∧ (∀ l, l < N → (S l).Bd Z.p Z.zg.d) ∧ (L.map fun l => (e l).key).Pairwise fun a b => ¬ cmp2 b a < 0) := by
 have o1 := hR.d.rd.one
 have o2 := hR.a.rd.one
 refine fn_enter func30 ntmps30 rfl rfl (fun w0 hw0 => ?_)
 simp only [argS]
 refine RsQ ?_
 refine wl_box [_, _, _] rfl rfl (by rfl) rfl rfl rfl (fun g1 => ?_)
 refine Qm rfl (RnQ (ws_freezeB fun h1 l1 hG1 => ?_))
 have hR := hR.up l1
 refine ws_seq (RsQ (Qx (ox_loadG rfl underlying30 rfl el30 rfl rfl (Seg.any hG1)) rfl (Qx (ox_call rfl call35 rfl (fnv (zright_ok Z vd va _ hO hR) _)) rfl (Qx (ox_not rfl rfl) rfl (RnQ ?_)))))
 refine ws_cond rfl (fun hb => ?_) (fun hb => ?_)
 ·exact absurd hRt (by simpa using hb)
 ·refine ws_skip (nx_then (RsQ (Qm rfl (RnQ (ws_seq (RsQ (Qx (ox_loadG rfl underlying30 rfl el30 rfl rfl (Seg.any hG1)) rfl (wl_call rfl call57 rfl (decompose_ok Z vd va h1 hRt hR) rfl rfl rfl (fun r h2 ms2 l2 hF => ?_)))))))))
  obtain ⟨l2', N, S, L0, me, mB, rfl, hN, hme, B, hperm, hV, hbd⟩ := hF
  have hlen := hperm.length_eq
  rw [List.length_range] at hlen
  have B1 : Bag N (fun l x => ∃ e, StV Z.zg.d (S l).g e (S l).fr (S l).to (S l).v x) mB := B.mono fun l hl x O => O.out
  obtain ⟨e, B2⟩ := bag_choose B1
  have hrn : ∀ h' (ms : List Hp), me ∈ ms → Rd h' ms r 1 N ((L0.map (ptrS S)).flatMap cV) := fun h' ms hm => by
   have := (hme.rd (h := h') hm).rd
   rwa [ptr_len, hlen] at this
  refine Qx (ox_lenR (hrn _ _ (List.Mem.tail _ (List.Mem.head _))) rfl underlying106 rfl) rfl (Qm rfl (RnQ (ws_block (ws_top 1 rfl (ws_freezeL hme fun h3 l3 hRr => (ws_lend fun h4 l4 lB dB LB => (ws_emp ?_)))))))
  have hRr := hRr.up l4
  have hrn : ∀ (ms : List Hp), Rd h4 ms r 1 N ((L0.map (ptrS S)).flatMap cV) := fun ms => by
   have := (hRr.any (ms := ms)).rd
   rwa [ptr_len, hlen] at this
  refine ws_loop (fun q s hh ms' => ∃ (i : Nat) (vo : Value) (mo : Hp), q = N - i ∧ s = [(3, vo), (10, r), (11, .int .i64 N), (12, .int .i64 i)] ∧ h4 = hh ∧ ms' = [mo] ∧ i ≤ N ∧ OwnL cS 3 64 mo vo ((L0.take i).map e))
   (N - 0) _ ⟨0, _, _, rfl, rfl, rfl, rfl, by omega, OwnL.nil cS_len⟩ Qs ?_
  rintro q s hh ms' ⟨i, vo, mo, rfl, rfl, rfl, rfl, hi, hO⟩
  refine RsQ (Qx (ox_lss rfl rfl rfl) rfl (RnQ (ws_seq ?_)))
  refine ws_if rfl (fun hlt => ?_) (fun hlt => ?_)
  ·have hil : i < L0.length := by omega
   have hiN : L0.getD i 0 < N := List.mem_range.1 (hperm.mem_iff.1 (getD_mem hil))
   obtain ⟨x, hx, hSV⟩ := B2.all _ hiN
   have hsg := hSV.seg (Hp.le_trans hx lB)
   have hcs : ∀ ms, Cell h4 ms ((vbase r).add (i * 1)) (ptrS S (L0.getD i 0)) := fun ms => ptr_cell hRr.any hil
   have hll : ((L0.take i).map e).length ≤ 20400 := by rw [List.length_map, List.length_take]; omega
   have hone := cS_one (e (L0.getD i 0))
   have hsg' : ∀ ms, Seg h4 ms ((⟨(S (L0.getD i 0)).g, 0, none⟩ : Addr).add 0) (cS (e (L0.getD i 0))) := fun ms => by rw [zadd]; exact hsg.any
   refine ws_skip (nx_then (ws_seq (ws_block (RsQ (Qx (ox_indexR _ (hrn _) rfl underlying106 el108 rfl rfl rfl (by omega)) rfl (Qx (ox_load rfl underlying108 rfl rfl (hcs _)) rfl (Qm rfl (RrQ (Qm rfl (Qm rfl (Qx (ox_nilCheck rfl rfl) rfl (Qx (ox_fieldF fd110_0 rfl rfl) rfl (Qx (ox_loadG rfl underlying64 rfl el64 rfl rfl (hsg' _)) rfl ?_)))))))))))))
   refine wl_buildSlice1 [_, _, _] rfl underlying60 el64 rfl (by rfl) rfl rfl (by omega) rfl rfl rfl (fun g21 => ?_)
   refine wl_appendL 1 hO (RdL.one cS_len (x := e (L0.getD i 0)) (List.Mem.head _) rfl) rfl underlying60 el64 rfl (by omega) rfl rfl rfl cS_one (by simp only [List.length_singleton]; omega) (by simp only [List.length_singleton]; omega) rfl rfl rfl (fun vo2 mo2 hO2 => ?_)
   refine Qm rfl (wl_nil (nx_block (nx_then (ws_region (Qx (ox_add rfl rfl rfl (by omega)) rfl (Qm rfl (wl_nil (nx_drop ?_))))))))
   refine nx_round (N - (i + 1)) _ (by omega) ⟨i + 1, vo2, mo2, rfl, rfl, rfl, rfl, by omega, ?_⟩ Qs
   rw [take_succ' hil, List.map_append]
   exact hO2
  ·obtain rfl : i = N := by omega
   rw [show L0.take i = L0 by rw [← hlen, List.take_length]] at hO
   refine ws_exit (nx_then_exit (nx_then_exit (nx_block_exit (nx_then (ws_back LB lB fun h5 q5 b5 => (ws_swap ?_))))))
   have hO' : OS mo vo (L0.map e).toArray := hO
   refine RsQ (Qm rfl ?_)
   refine wl_call_ (pre := [mo]) rfl call58 rfl (sortStable_ok (L0.map e).toArray vo mo hO' (by simp; omega) h5) rfl rfl rfl rfl (fun x h6 ms6 l6 hF => ?_)
   obtain ⟨rfl, m', d', rfl, hO6, P6, S6⟩ := hF
   have hp6 := permIn_perm P6
   obtain ⟨L', hL, hd'⟩ := perm_map hp6.symm L0 rfl
   have hsz : d'.size = L'.length := by rw [← Array.length_toList, hd', List.length_map]
   have hone : vo.oneCell' = true := (OwnL.rd hO6 (h := h) (ms := [m']) (List.Mem.head _)).rd.one
   refine RtQ (Qm rfl (Qm rfl (RnQ (ws_ret ?_))))
   have hkey : ∀ k (hk : k < L'.length), d'[k]! = e L'[k] := fun k hk => by
    have h1 : d'.toList[k]? = some (e L'[k]) := by rw [hd']; simp [hk]
    have h2 : d'[k]? = some (e L'[k]) := by rw [← Array.getElem?_toList]; exact h1
    rw [getElem!_def, h2]
   have hsrt : (L'.map fun l => (e l).key).Pairwise fun a b => ¬ cmp2 b a < 0 := by
    rw [List.pairwise_map, List.pairwise_iff_getElem]
    intro x y hx hy hxy
    have h1 := S6 x y (by omega) hxy (by rw [P6.1] at hsz; omega)
    rw [hkey x hx, hkey y hy] at h1
    exact of_decide_eq_false h1
   exact nx_ret1 rfl rfl (⟨Hp.le_trans l1 (Hp.le_trans l2 (Hp.le_trans l3 (b5 _ l4 dB))), i, S, e, L', m', mB, rfl, hN, by rw [← hd']; exact hO6, B2, hL.symm.trans hperm, hV, hbd, hsrt⟩)
end Go.Proofs.YtdnelknieikbaaaGreat
namespace Go.Proofs.YtdnelknieikbaaaGreat
open Tryz
open Go.Eng Go.RowKit Go.Lin Go.Sort Go.Srt
def cP (a : Int × Int) : List Value := [.int .i64 a.1, .int .i64 a.2]
theorem cP_len : ∀ a, (cP a).length = 2 := fun _ => rfl
theorem cP_one (a : Int × Int) : ∀ c ∈ cP a, c.oneCell' = true := fun c hc => by
 simp only [cP, List.mem_cons, List.not_mem_nil, or_false] at hc
 rcases hc with rfl | rfl <;> rfl
def kP (a : Int × Int) : Value := .agg #[.int .i64 a.1, .int .i64 a.2]
structure POk (a : Int × Int) : Prop where
 k1 : I64 a.1
 k2 : I64 a.2
theorem laidOutP : laidOutB Tryz.prog = true := by kernel_rfl
theorem pairKeys : Keys Tryz.prog 53 kP POk where
 law := Maps.Keyed.of_law (deep_law_laid laidOutP (m := 9) (by decide) (of_decide_eq_true (by kernel_rfl)) (by kernel_rfl) (by rw [underlying53]))
 inj := fun a b h => by
  unfold kP at h
  simp at h
  exact Prod.ext h.1 h.2
 key := fun b h => by
  have w1 : (Lit.int .i64 b.1).wf = true := WalkArith.wf_i64 h.k1
  have w2 : (Lit.int .i64 b.2).wf = true := WalkArith.wf_i64 h.k2
  have hkt : Tryz.prog.keyType 53 = true := by kernel_rfl
  have hc53 : Tryz.prog.cellsOf 53 = 2 := by kernel_rfl
  have hfm : (kP b).formed Tryz.prog 53 = true := by
   unfold Value.formed kP
   simp only [underlying53]
   simp [hc53]
  have hc3 : Tryz.prog.cellsOf 3 = 1 := by kernel_rfl
  obtain ⟨n, hn⟩ : ∃ n, Tryz.prog.types.size = n + 1 := ⟨Tryz.prog.types.size - 1, by have : 0 < Tryz.prog.types.size := of_decide_eq_true (by kernel_rfl); omega⟩
  have hkl : ∃ ls, Tryz.prog.keyLits (Tryz.prog.types.size + 1) 53 (kP b).cells.toList = some ls := by
   rw [hn]
   refine ⟨[.int .i64 b.1, .int .i64 b.2], ?_⟩
   simp [Program.keyLits, underlying53, underlying3, kP, Value.cells, hc53, hc3, w1, w2, List.range, List.range.loop]
  obtain ⟨ls, hls⟩ := hkl
  unfold keyOf
  simp only [underlying53, hkt, hfm, Bool.and_self, if_true, hls, Option.map_some]
  exact ⟨_, rfl⟩
theorem zero3P (w : World) : (zeroValue 3).run Tryz.prog w = .ok (kI 0) w := by rfl
def encS (l : List StE) (k : Nat) : List Value := [.agg (cS (l.getD k default)).toArray]
theorem values_itr (g n : Nat) (v : Value) (l : List StE) (h : Hp) (hG : Seg h [] ⟨g, 0, none⟩ [v]) (hR : RdL cS 3 h [] v l) (hn : l.length = n) (hn2 : n ≤ 1000000) : Itr Tryz.prog 74 [.pointer (some ⟨g, 0, none⟩)] h n (encS l) := by
 intro lp X h1 ms hl hY h0
 show FnT _ _ #[.func (.yield lp) #[] #[], .pointer (some ⟨g, 0, none⟩)] _ _ _
 have hG := hG.le hl
 have hR := hR.up hl
 have hRn : ∀ h', h1.le h' → Rd h' [] v 3 n (l.flatMap cS) := fun h' l => by
  have := (hR.up l).rd
  rwa [hn] at this
 refine fn_enter func74 ntmps74 rfl rfl (fun w0 hw0 => ?_)
 simp only [argS]
 refine ws_seq (ws_regionI (il_x (ox_load rfl underlying60 rfl rfl ((hG.at0 rfl).any)) rfl rfl rfl (il_x (ox_lenR (hRn _ (Hp.le_refl _)).any rfl underlying60 rfl) rfl rfl rfl (il_x (ox_move rfl rfl) rfl rfl rfl (il_nil (nx_then (ws_block ?_)))))))
 refine ws_loop (fun q s hh ms' => ∃ (k : Nat), q = n - k ∧ s = [(0, .func (.yield lp) #[] #[]), (5, v), (6, .int .i64 n), (7, .int .i64 k)] ∧ h1.le hh ∧ k ≤ n ∧ X k hh ms')
  (n - 0) _ ⟨0, rfl, rfl, Hp.le_refl _, by omega, h0⟩ Qs ?_
 rintro q s hh ms' ⟨k, rfl, rfl, lh, hk, hX⟩
 refine ws_seq (ws_regionI (il_x (ox_lss rfl rfl rfl) rfl rfl rfl (il_nil (nx_then (ws_seq ?_)))))
 refine ws_if rfl (fun hlt => ?_) (fun hlt => ?_)
 ·have hkn : k < n := by omega
  have hi : k < l.length := by omega
  obtain ⟨x, hx⟩ : ∃ x, x = l.getD k default := ⟨_, rfl⟩
  have hone := x.one
  have he : encS l k = [.agg (cS x).toArray] := by unfold encS; rw [hx]
  have hYk := hY k hh ms' hkn lh hX
  rw [he] at hYk
  have hseg : ∀ ms, Seg hh ms ((vbase v).add (k * 3)) (cS x) := fun ms => by
   rw [hx]
   have h1 := ((hR.up lh).any (ms := ms)).seg hi
   have e : l.getD k default = l[k] := by simp [List.getD, hi]
   rwa [e]
  refine ws_skip (nx_then (ws_seq (ws_block (RsQ (Qx (ox_indexR (k) (hRn _ lh).any rfl underlying60 el64 rfl rfl (by omega) (by omega)) rfl (Qx (ox_loadG rfl underlying64 rfl el64 rfl rfl (hseg _)) rfl (AlQ [.int .i64 0, .int .i64 0, .slice none 0 0] rfl el64 rfl rfl (fun g4 => ?_))))))))
  refine wl_storeAll 0 [_, _, _] rfl el64 rfl rfl rfl (by (simp [hone]; done)) rfl rfl rfl rfl rfl ?_
  refine RnQ (ws_seq (ws_regionI (il_x (ox_move rfl rfl) rfl rfl rfl (il_x (ox_loadG rfl underlying64 rfl el64 rfl rfl (Seg.blk 0 rfl)) rfl rfl rfl (il_drop (il_yield rfl rfl rfl (hYk) rfl rfl rfl (fun r h2 ms2 l2 hr => ?_)))))))
  obtain ⟨rfl, hX2⟩ := hr
  refine il_x (ox_not rfl rfl) rfl rfl rfl (il_nil (nx_then (ws_cond_f rfl (ws_skip (nx_block (nx_then (ws_regionI (il_x (ox_add rfl rfl rfl (by omega)) rfl rfl rfl (il_x (ox_move rfl rfl) rfl rfl rfl (il_nil ?_))))))))))
  exact nx_round (n - (k + 1)) _ (by omega) ⟨k + 1, rfl, rfl, Hp.le_trans lh l2, by omega, hX2⟩ Qs
 ·obtain rfl : k = n := by omega
  refine ws_exit (nx_then_exit (nx_then_exit (nx_block_exit ?_)))
  exact nx_end0 rfl (hX)
theorem values_v (v : Value) (n : Nat) (cs : List Value) (h : Hp) (hR : Rd h [] v 3 n cs) : FnT Tryz.prog 40 #[v] h [] (fun r h' ms' => h = h' ∧ ∃ g, r = .func (.func 74) #[] #[.pointer (some ⟨g, 0, none⟩)] ∧ ms' = [Blk g 60 [v]]) := by
 refine fn_enter func40 ntmps40 rfl rfl (fun w0 hw0 => ?_)
 simp only [argS]
 refine RsQ (wl_box [_] rfl rfl (Rd.cells ‹_›) rfl rfl rfl (fun g1 => Qm rfl (RtQ (Qx (ox_makeFunc rfl rfl rfl) rfl (Qm rfl (RnQ (ws_ret ?_)))))))
 exact nx_ret1 rfl rfl (⟨rfl, _, rfl, rfl⟩)
end Go.Proofs.YtdnelknieikbaaaGreat
namespace Go.Proofs.YtdnelknieikbaaaGreat
open Tryz
open Go.Eng Go.RowKit Go.Lin Go.Sort Go.Srt
structure TC (T : List ((Int × Int) × Int)) (ks : List (Int × Int)) : Prop where
 cnt : ∀ a, (getK T a).getD 0 = (ks.count a : Nat)
 has : ∀ a x, getK T a = some x → a ∈ ks
theorem TC.step {T : List ((Int × Int) × Int)} {ks : List (Int × Int)} (h : TC T ks) (b : Int × Int) (x : Int) (hx : (getK T b).getD 0 = x) : TC (setT (setT T b x) b (x + 1)) (ks ++ [b]) := by
 have key : ∀ a, getK (setT (setT T b x) b (x + 1)) a = if a = b then some (x + 1) else getK T a := fun a => by
  rw [getK_setT, getK_setT]
  by_cases e : a = b <;> simp [e]
 refine ⟨fun a => ?_, fun a y hy => ?_⟩
 ·rw [key, List.count_append]
  by_cases e : a = b
  ·subst e
   rw [if_pos rfl]
   have := h.cnt a
   rw [hx] at this
   simp [this]
  ·rw [if_neg e, h.cnt a]
   have : [b].count a = 0 := List.count_eq_zero.2 (by simpa using e)
   rw [this]; rfl
 ·rw [key] at hy
  by_cases e : a = b
  ·exact List.mem_append_right _ (by simp [e])
  ·rw [if_neg e] at hy
   exact List.mem_append_left _ (h.has a y hy)
theorem getK_touchP (T : List ((Int × Int) × Int)) (b : Int × Int) (x : Int) : (getK (setT T b x) b).getD 0 = x := by rw [getK_setT]; simp
theorem ox_lookupW {P : Program} {o : Oper} {s : Slots} {h : Hp} {ms : List Hp} {K : Int × Int → Value} {kt et t : TypeId} {g : Nat} {m : Hp} {T : List ((Int × Int) × Int)} {bs : List Nat} {Ok : Int × Int → Prop} {x y : Operand} {z : Int} (a : Int × Int) (v : Int) (hv : (getK T a).getD z = v) (L : Keys P kt K Ok) (O : OwnM K kI g Ok m T bs) (hm : m ∈ ms) (ho : o.op = .lookup t x y false) (ht : P.underlying t = some (.map kt et)) (hz : ∀ w, (zeroValue et).run P w = .ok (kI z) w) (hx : ev s x = some (.map (some g))) (hy : ev s y = some (K a)) (ha : Ok a) :
  OX P o s h ms (kI v) := by rw [← hv]; exact ox_lookup a L O hm ho ht hz hx hy ha
theorem counts_ok (g n : Nat) (v : Value) (l : List StE) (h : Hp) (hG : Seg h [] ⟨g, 0, none⟩ [v]) (hR : RdL cS 3 h [] v l) (hn : l.length = n) (hn2 : n ≤ 1000000) (hk : ∀ s ∈ l, POk s.key) :
  FnT Tryz.prog 39 #[.func (.func 74) #[] #[.pointer (some ⟨g, 0, none⟩)]] h [] (fun r h' ms' => h.le h' ∧ ∃ gT m T bs, r = .map (some gT) ∧ ms' = [m] ∧ OwnM kP kI gT POk m T bs ∧ TC T (l.map StE.key)) := by
 refine fn_enterM func39 ntmps39 rfl rfl (fun w0 hw0 => ?_)
 simp only [argS]
 refine RsQ (Qm rfl (RtQ (wl_makeMap (K := kP) (V := kI) (Ok := POk) rfl rfl rfl rfl (fun gT mT0 OT0 => AlQ [.map none] rfl el51 rfl rfl (fun g3 => ?_)))))
 refine wl_storeAt 0 0 rfl el51 rfl rfl (by rfl) rfl rfl (by decide) rfl rfl ?_
 refine RnQ (ws_freezeB fun h1 l1 hG3 => ?_)
 have hI := values_itr g n v l h1 (hG.le l1) (hR.up l1) hn hn2
 refine ws_seq (RsQ (Qm rfl (RnQ (ws_block ?_))))
 refine ws_rangeFunc (fun k hh ms => ∃ m T bs, ms = [m] ∧ OwnM kP kI gT POk m T bs ∧ TC T ((l.take k).map StE.key)) (fun k s1 hh ms => ∃ g4 m T bs, s1 = [(3, .pointer (some ⟨g3, 0, none⟩)), (4, .pointer (some ⟨g4, 0, none⟩))] ∧ ms = [Blk g4 64 (cS (l.getD k default)), m] ∧ OwnM kP kI gT POk m T bs ∧ TC T ((l.take k).map StE.key)) rfl call74 hI (fun k => rfl) rfl ?_ ?_ ?_ ?_
 ·exact ⟨mT0, [], [], rfl, OT0, ⟨fun a => rfl, fun a x h => by cases h⟩⟩
 ·rintro w1 k hh ms1 hkn lh ⟨m, T, bs, rfl, O, C⟩
  obtain ⟨x, hx⟩ : ∃ x, x = l.getD k default := ⟨_, rfl⟩
  have he : encS l k = [.agg (cS x).toArray] := by unfold encS; rw [hx]
  rw [he, ← hx]
  have hone := x.one
  refine rs_region_ (by kernel_rfl) (AlQ [.int .i64 0, .int .i64 0, .slice none 0 0] rfl el64 rfl rfl (fun g4 => ?_))
  refine wl_storeAll 0 [_, _, _] rfl el64 rfl rfl rfl (by (simp [hone]; done)) rfl rfl rfl rfl rfl ?_
  refine wl_nil ?_
  exact nx_meet _ ⟨g4, m, T, bs, rfl, rfl, O, C⟩ Qs
 ·rintro w1 k s1 hh ms1 hkn lh ⟨g4, m, T, bs, rfl, rfl, O, C⟩
  have hkl : k < l.length := by omega
  obtain ⟨x, hx⟩ : ∃ x, x = l.getD k default := ⟨_, rfl⟩
  have hxl : x = l[k] := by rw [hx]; simp [List.getD, hkl]
  rw [← hx]
  have hpk := hk x (by rw [hxl]; exact List.getElem_mem hkl)
  have hcnt : ((l.take k).map StE.key).count x.key ≤ 1000000 := Nat.le_trans List.count_le_length (by simp; omega)
  obtain ⟨v0, hv0⟩ : ∃ v0, (getK T x.key).getD 0 = v0 := ⟨_, rfl⟩
  have hb0 : 0 ≤ v0 ∧ v0 ≤ 1000000 := by
   have h1 := C.cnt x.key
   rw [hv0] at h1
   omega
  have hst := C.step x.key v0 hv0
  have hst' : TC (setT (setT T x.key v0) x.key (v0 + 1)) ((l.take (k + 1)).map StE.key) := by
   rw [List.take_succ_eq_append_getElem hkl, List.map_append, ← hxl]
   exact hst
  have hv1 := getK_touchP T x.key v0
  refine rs_lend fun h2 l2 lg4 _ _ => ?_
  have hG4 := Seg.ofLe lg4
  have hA4 := Seg.all hG4
  have hG3 := hG3.le (Hp.le_trans lh l2)
  refine rs_block (rs_stab (n := 11) (bs := [true, true, true, true, true, true, false, false, false, false, false]) [true, true, true, true, true, true] fol (by kernel_rfl) (by kernel_rfl) rfl rfl (by kernel_rfl) (Qp rfl (ox_load rfl underlying51 rfl rfl ((hG3.at0 rfl).any)) (Qp rfl (ox_fieldF fd64_0 rfl rfl) (Qp rfl (ox_load rfl underlying3 rfl rfl (hA4 0 _ rfl _)) (Qp rfl (ox_fieldF fd64_1 rfl rfl) (Qp rfl (ox_load rfl underlying3 rfl rfl (hA4 1 _ rfl _)) ?_))))))
  refine Qp rfl (ox_buildA [.int .i64 0, .int .i64 0] [(0, [_]), (1, [_])] [_, _] rfl underlying53 el53 rfl el3 rfl (by repeat (first | exact trivial | refine ⟨⟨by rfl, rfl, rfl⟩, ?_⟩)) rfl) ?_
  unfold PZs
  simp only [List.cons_append, List.nil_append]
  refine wb_step [6, 8] (by kernel_rfl) rfl ?_
  refine wbl_cons rfl ?_ ?_
  ·refine Qx (ox_lookupW (z := 0) x.key v0 hv0 pairKeys O (by simp) rfl underlying51 zero3P rfl rfl hpk) rfl ?_
   refine Qw (wb_float 7 15 (by kernel_rfl) rfl (Hp.le_refl _) rfl (ox_add rfl rfl rfl (by omega)) (Qo 8 rfl (wl_mapEntry (V := kI) (z := (0 : Int)) 0 x.key pairKeys O rfl rfl underlying51 zero3P rfl rfl hpk rfl rfl rfl (fun m2 bs2 j2 b2 O2 hj2 hb2 => Qw ?_))))
   rw [hv0] at O2 hj2
   refine wb_float 9 17 (by kernel_rfl) rfl (Hp.le_refl _) rfl (ox_extract rfl rfl rfl) (Qo 10 rfl (wl_entryStore 0 (v0 + 1) O2 hj2 hb2 rfl rfl rfl rfl rfl rfl rfl (fun m3 O3 => Qw (Qe ?_))))
   exact nx_block (nx_meet [] ⟨m3, _, bs2, rfl, O3, hst'⟩ trivial)
  refine wbl_cons rfl ?_ ?_
  ·refine wl_mapEntry (V := kI) (z := (0 : Int)) 0 x.key pairKeys O rfl rfl underlying51 zero3P rfl rfl hpk rfl rfl rfl (fun m2 bs2 j2 b2 O2 hj2 hb2 => Qw ?_)
   rw [hv0] at O2 hj2
   refine wb_float 9 17 (by kernel_rfl) rfl (Hp.le_refl _) rfl (ox_extract rfl rfl rfl) (Qo 6 rfl ?_)
   refine Qx (ox_lookupW (z := 0) x.key v0 hv1 pairKeys O2 (by simp) rfl underlying51 zero3P rfl rfl hpk) rfl ?_
   refine Qw (wb_float 7 15 (by kernel_rfl) rfl (Hp.le_refl _) rfl (ox_add rfl rfl rfl (by omega)) (Qo 10 rfl (wl_entryStore 0 (v0 + 1) O2 hj2 hb2 rfl rfl rfl rfl rfl rfl rfl (fun m3 O3 => Qw (Qe ?_)))))
   exact nx_block (nx_meet [] ⟨m3, _, bs2, rfl, O3, hst'⟩ trivial)
  exact wbl_nil
 ·intro D hh ms1 lh ⟨m, T, bs, e, O, C⟩
  subst e
  rw [← hn, List.take_length] at C
  have hG3 := hG3.le lh
  refine nx_block (nx_then (RsQ (Qx (ox_load rfl underlying51 rfl rfl ((hG3.at0 rfl).any)) rfl (Qm rfl (RnQ (ws_ret (nx_mark 1 (.inr rfl) rfl ?_)))))))
  exact nx_ret1 rfl rfl (⟨Hp.le_trans l1 lh, gT, m, T, bs, rfl, rfl, O, C⟩)
end Go.Proofs.YtdnelknieikbaaaGreat
namespace Go.Proofs.YtdnelknieikbaaaGreat
open Tryz
open Go.Eng Go.RowKit Go.Lin Go.Sort Go.Srt
def keyR (T : List ((Int × Int) × Int)) (vis : List Nat) (vs : List Value) (vis' : List Nat) : Prop := ∃ (j : Nat) (hj : j < T.length), j ∉ vis ∧ vs = [kP T[j].1] ∧ vis' = vis ++ [j]
theorem keys_itr (g1 gT : Nat) (m : Hp) (T : List ((Int × Int) × Int)) (bs : List Nat) (h : Hp) (hG : Seg h [] ⟨g1, 0, none⟩ [.map (some gT)]) (O : OwnM kP kI gT POk m T bs) (hm : m.le h) :
  ItrG Tryz.prog 77 [.pointer (some ⟨g1, 0, none⟩)] h (keyR T) [] (fun vis => vis.Perm (List.range T.length)) := by
 intro lp X h1 ms hl hY h0
 show FnT _ _ #[.func (.yield lp) #[] #[], .pointer (some ⟨g1, 0, none⟩)] _ _ _
 have hG := hG.le hl
 have hm := Hp.le_trans hm hl
 refine fn_enter func77 ntmps77 rfl rfl (fun w0 hw0 => ?_)
 simp only [argS]
 refine RsQ (Qx (ox_load rfl underlying51 rfl rfl ((hG.at0 rfl).any)) rfl (wl_rangeF O hm rfl underlying51 rfl rfl rfl rfl (fun gi mi I0 => RnQ (ws_block ?_))))
 refine ws_loop (fun q s hh ms' => ∃ (vis : List Nat) (mi : Hp) (ms0 : List Hp), q = T.length - vis.length ∧ s = [(0, .func (.yield lp) #[] #[]), (5, .pointer (some ⟨gi, 0, none⟩))] ∧ h1.le hh ∧ ms' = mi :: ms0 ∧ IterM gi gT m mi bs vis ∧ X vis hh ms0)
  (T.length - 0) _ ⟨[], mi, ms, rfl, rfl, Hp.le_refl _, rfl, I0, h0⟩ Qs ?_
 rintro q s hh ms' ⟨vis, mi, ms0, rfl, rfl, lh, rfl, I, hX⟩
 have hm := Hp.le_trans hm lh
 refine RsQ ?_
 refine wl_nextF 0 O I hm rfl rfl rfl rfl rfl rfl (fun hall => ?_) (fun j hj mi' hjv I' => ?_)
 ·refine Qx (ox_extract rfl rfl rfl) rfl (RnQ (ws_seq (ws_cond_f rfl (ws_exit (nx_then_exit (nx_then_exit (nx_block_exit (nx_drop ?_))))))))
  exact nx_end0 rfl (⟨vis, (List.perm_ext_iff_of_nodup I.nodup List.nodup_range).2 fun j => ⟨fun hj => List.mem_range.2 (by have := I.lt j hj; rw [O.len] at this; exact this), fun hj => hall j (List.mem_range.1 hj)⟩, hX⟩)
 ·refine Qx (ox_extract rfl rfl rfl) rfl (RnQ (ws_seq ?_))
  have hlen : (vis ++ [j]).length ≤ T.length := by
   have := I'.nodup.length_le_of_subset (l₂ := List.range T.length) fun x hx => List.mem_range.2 (by have := I'.lt x hx; rw [O.len] at this; exact this)
   simpa using this
  rw [List.length_append, List.length_singleton] at hlen
  refine ws_cond_t rfl (ws_skip (nx_then (ws_block (RsQ (Qx (ox_entryF O I' hm (List.Mem.head _) hj rfl rfl) rfl (Qx (ox_extract rfl rfl rfl) rfl (AlQ [.int .i64 0, .int .i64 0] rfl el53 rfl rfl (fun g3 => ?_))))))))
  refine wl_storeAll 0 [_, _] rfl el53 rfl rfl rfl (by (simp [Value.oneCell']; done)) rfl rfl rfl rfl rfl ?_
  refine RnQ (ws_seq (ws_regionI (il_x (ox_move rfl rfl) rfl rfl rfl (il_x (ox_loadG rfl underlying53 rfl el53 rfl rfl (Seg.blk 0 rfl)) rfl rfl rfl (il_drop (il_yieldF (pre := ms0) (fr := [mi']) (List.perm_append_comm (l₁ := [mi'])) rfl rfl rfl (hY vis [kP T[j].1] (vis ++ [j]) hh ms0 ⟨j, hj, hjv, rfl, rfl⟩ lh hX) rfl rfl rfl (fun r h2 ms2 l2 hr => ?_)))))))
  obtain ⟨rfl, hX2⟩ := hr
  refine il_x (ox_not rfl rfl) rfl rfl rfl (il_nil (nx_then (ws_cond_f rfl (ws_skip (nx_block (nx_perm (List.perm_append_comm (l₂ := [mi'])) ?_))))))
  exact nx_round (T.length - (vis ++ [j]).length) _ (by rw [List.length_append, List.length_singleton]; omega) ⟨vis ++ [j], mi', ms2, rfl, rfl, Hp.le_trans lh l2, rfl, I', hX2⟩ Qs
theorem keys_v (v : Option Nat) (h : Hp) : FnT Tryz.prog 42 #[.map v] h [] (fun r h' ms' => h = h' ∧ ∃ g, r = .func (.func 77) #[] #[.pointer (some ⟨g, 0, none⟩)] ∧ ms' = [Blk g 51 [.map v]]) := by
 refine fn_enter func42 ntmps42 rfl rfl (fun w0 hw0 => ?_)
 simp only [argS]
 refine RsQ ?_
 refine wl_box [_] rfl rfl (by rfl) rfl rfl rfl (fun g1 => ?_)
 refine Qm rfl (RtQ (Qx (ox_makeFunc rfl rfl rfl) rfl (Qm rfl (RnQ (ws_ret ?_)))))
 exact nx_ret1 rfl rfl (⟨rfl, _, rfl, rfl⟩)
end Go.Proofs.YtdnelknieikbaaaGreat
namespace Go.Proofs.YtdnelknieikbaaaGreat
open Tryz
open Go.Eng Go.RowKit Go.Lin Go.Sort Go.Srt
def keyAt (T : List ((Int × Int) × Int)) (j : Nat) : Int × Int := (T.getD j ((0, 0), 0)).1
theorem keyAt_eq {T : List ((Int × Int) × Int)} {j : Nat} (hj : j < T.length) : T[j].1 = keyAt T j := by simp [keyAt, List.getD, hj]
theorem keyAt_map (T : List ((Int × Int) × Int)) : (List.range T.length).map (keyAt T) = T.map Prod.fst := by
 refine List.ext_getElem (by simp) fun i h1 h2 => ?_
 have hi : i < T.length := by simpa using h2
 simp [← keyAt_eq hi]
theorem appendSeq_ok (g1 gT : Nat) (m : Hp) (T : List ((Int × Int) × Int)) (bs : List Nat) (h : Hp) (hG : Seg h [] ⟨g1, 0, none⟩ [.map (some gT)]) (O : OwnM kP kI gT POk m T bs) (hm : m.le h) (hT : T.length ≤ 1000000) :
  FnT Tryz.prog 102 #[.slice none 0 0, .func (.func 77) #[] #[.pointer (some ⟨g1, 0, none⟩)]] h [] (fun r h' ms' => h.le h' ∧ ∃ (vis : List Nat) (mo : Hp), ms' = [mo] ∧ vis.Perm (List.range T.length) ∧ OwnL cP 2 53 mo r (vis.map (keyAt T))) := by
 have hI := keys_itr g1 gT m T bs h hG O hm
 refine fn_enterM func102 ntmps102 rfl rfl (fun w0 hw0 => ?_)
 simp only [argS]
 refine RsQ ?_
 refine wl_box [_] rfl rfl (by rfl) rfl rfl rfl (fun g2 => ?_)
 refine Qm rfl (RnQ (ws_seq (RsQ (Qm rfl (RnQ (ws_block (ws_emp (ws_swap ?_))))))))
 refine ws_rangeFuncG (R := keyR T) (fun (vis : List Nat) hh ms => vis.Nodup ∧ (∀ x ∈ vis, x < T.length) ∧ ∃ v mo, ms = [Blk g2 81 [v], mo] ∧ OwnL cP 2 53 mo v (vis.map (keyAt T))) (fun (vis : List Nat) vs vis' s1 hh ms => vis.Nodup ∧ (∀ x ∈ vis, x < T.length) ∧ ∃ g5 v mo j, j < T.length ∧ j ∉ vis ∧ vis' = vis ++ [j] ∧ s1 = [(2, .pointer (some ⟨g2, 0, none⟩)), (5, .pointer (some ⟨g5, 0, none⟩))] ∧ ms = [Blk g5 53 (cP (keyAt T j)), Blk g2 81 [v], mo] ∧ OwnL cP 2 53 mo v (vis.map (keyAt T))) rfl call77 hI ?_ rfl ?_ ?_ ?_ ?_
 ·rintro k vs k' ⟨j, hj, _, rfl, _⟩; rfl
 ·exact ⟨List.Pairwise.nil, by simp, _, _, rfl, OwnL.nil cP_len⟩
 ·rintro w1 vis vs vis' hh ms1 ⟨j, hj, hjv, rfl, rfl⟩ lh ⟨hn, hlt, v, mo, rfl, hO⟩
  rw [keyAt_eq hj]
  refine rs_region_ (by kernel_rfl) (AlQ [.int .i64 0, .int .i64 0] rfl el53 rfl rfl (fun g5 => ?_))
  refine wl_storeAll 0 [_, _] rfl el53 rfl rfl rfl (by (simp [Value.oneCell']; done)) rfl rfl rfl rfl rfl ?_
  refine wl_nil ?_
  exact nx_meet _ ⟨hn, hlt, g5, v, mo, j, hj, hjv, rfl, rfl, rfl, hO⟩ Qs
 ·rintro w1 vis vs vis' s1 hh ms1 hR lh ⟨hn, hlt, g5, v, mo, j, hj, hjv, rfl, rfl, rfl, hO⟩
  have hn' : (vis ++ [j]).Nodup := List.nodup_append.2 ⟨hn, by simp, fun a ha b hb e => by simp at hb; subst hb; subst e; exact hjv ha⟩
  have hlt' : ∀ x ∈ vis ++ [j], x < T.length := fun x hx => by
   rcases List.mem_append.1 hx with h1 | h1
   ·exact hlt x h1
   ·simp at h1; omega
  have hlen : (vis.map (keyAt T)).length ≤ 1000000 := by
   have := hn.length_le_of_subset (l₂ := List.range T.length) fun x hx => List.mem_range.2 (hlt x hx)
   simp at this ⊢; omega
  have ov : v.oneCell' = true := (hO.rd (h := h) (ms := [mo]) (List.Mem.head _)).rd.one
  refine rs_block (rs_region_ (by kernel_rfl) (Qx (ox_load rfl underlying81 rfl rfl (Cell.blk0 1 rfl rfl)) rfl (Qx (ox_loadG rfl underlying53 rfl el53 rfl rfl (Seg.blk 0 rfl)) rfl ?_)))
  refine wl_buildSlice1 [_, _] rfl underlying81 el53 rfl (by rfl) rfl rfl (by omega) rfl rfl rfl (fun g10 => ?_)
  refine wl_appendL 3 hO (RdL.one cP_len (x := keyAt T j) (List.Mem.head _) rfl) rfl underlying81 el53 rfl (by omega) rfl rfl rfl cP_one (by simp only [List.length_singleton]; omega) (by simp only [List.length_singleton]; omega) rfl rfl rfl (fun v2 mo2 hO2 => ?_)
  have ov2 : v2.oneCell' = true := (hO2.rd (h := h) (ms := [mo2]) (List.Mem.head _)).rd.one
  refine wl_storeAt 2 0 rfl el81 rfl rfl (by assumption) rfl rfl (by (simp; done)) rfl rfl ?_
  refine wl_nil (nx_block (nx_drop (nx_drop ?_)))
  refine nx_meet [] ⟨hn', hlt', v2, mo2, rfl, ?_⟩ trivial
  rw [List.map_append]
  exact hO2
 ·intro D vis hh ms1 hfin lh ⟨hn, hlt, v, mo, e, hO⟩
  subst e
  have ov : v.oneCell' = true := (hO.rd (h := h) (ms := [mo]) (List.Mem.head _)).rd.one
  refine nx_block (nx_then (RsQ (Qx (ox_load rfl underlying81 rfl rfl (Cell.blk0 0 rfl rfl)) rfl (Qm rfl (RnQ (ws_ret (nx_drop (nx_mark 1 (.inr rfl) rfl ?_))))))))
  exact nx_ret1 rfl rfl (⟨lh, vis, mo, rfl, hfin, hO⟩)
theorem collect_ok (g1 gT : Nat) (m : Hp) (T : List ((Int × Int) × Int)) (bs : List Nat) (h : Hp) (hG : Seg h [] ⟨g1, 0, none⟩ [.map (some gT)]) (O : OwnM kP kI gT POk m T bs) (hm : m.le h) (hT : T.length ≤ 1000000) :
  FnT Tryz.prog 75 #[.func (.func 77) #[] #[.pointer (some ⟨g1, 0, none⟩)]] h [] (fun r h' ms' => h.le h' ∧ ∃ (vis : List Nat) (mo : Hp), ms' = [mo] ∧ vis.Perm (List.range T.length) ∧ OwnL cP 2 53 mo r (vis.map (keyAt T))) := by
 refine fn_enter func75 ntmps75 rfl rfl (fun w0 hw0 => ?_)
 simp only [argS]
 refine RsQ (Qm rfl (RtQ (Qm rfl (wl_call rfl call102 rfl (appendSeq_ok g1 gT m T bs h hG O hm hT) rfl rfl rfl (fun x h2 ms2 l2 hF => ?_)))))
 obtain ⟨l2', vis, mo, rfl, hp, hO⟩ := hF
 have ov : x.oneCell' = true := (hO.rd (h := h) (ms := [mo]) (List.Mem.head _)).rd.one
 refine Qm rfl (RnQ (ws_ret ?_))
 exact nx_ret1 rfl rfl (⟨l2, vis, mo, rfl, hp, hO⟩)
end Go.Proofs.YtdnelknieikbaaaGreat
namespace Go.Proofs.YtdnelknieikbaaaGreat
open Go.Eng Go.RowKit Go.Lin Go.Sort Go.Srt
structure Iv where
 fr : Int
 to : Int
 n : Int
deriving DecidableEq
def cIv (x : Iv) : List Value := [.int .i64 x.fr, .int .i64 x.to, .int .i64 x.n]
theorem cIv_len : ∀ x, (cIv x).length = 3 := fun _ => rfl
theorem cIv_one (x : Iv) : ∀ c ∈ cIv x, c.oneCell' = true := fun c hc => by
 simp only [cIv, List.mem_cons, List.not_mem_nil, or_false] at hc
 rcases hc with rfl | rfl | rfl <;> rfl
def BarsOf (c : Int × Int → Nat) (bl : List Iv) : Prop := ∃ ks : List (Int × Int), bl = ks.map (fun a => ⟨a.1, a.2, (c a : Nat)⟩) ∧ ks.Pairwise (fun a b => cmp2 a b < 0) ∧ ∀ a, a ∈ ks ↔ 0 < c a
theorem strict_uniq : ∀ (l l' : List (Int × Int)), l.Pairwise (fun a b => cmp2 a b < 0) → l'.Pairwise (fun a b => cmp2 a b < 0) → (∀ a, a ∈ l ↔ a ∈ l') → l = l'
 | [], [], _, _, _ => rfl
 | [], b :: l', _, _, h => absurd ((h b).2 (by simp)) (by simp)
 | a :: l, [], _, _, h => absurd ((h a).1 (by simp)) (by simp)
 | a :: l, b :: l', h1, h2, h => by
  have p1 := List.pairwise_cons.1 h1
  have p2 := List.pairwise_cons.1 h2
  have hab : a = b := by
   rcases List.mem_cons.1 ((h a).1 (by simp)) with e | e
   ·exact e
   ·rcases List.mem_cons.1 ((h b).2 (by simp)) with e' | e'
    ·exact e'.symm
    ·have q1 := p2.1 a e
     have q2 := p1.1 b e'
     rw [cmp2_lt] at q1 q2
     omega
  subst hab
  rw [strict_uniq l l' p1.2 p2.2 fun x => by
   have hx := h x
   have n1 : a ∉ l := fun hm => by have := p1.1 a hm; rw [cmp2_lt] at this; omega
   have n2 : a ∉ l' := fun hm => by have := p2.1 a hm; rw [cmp2_lt] at this; omega
   constructor
   ·intro hm
    rcases List.mem_cons.1 (hx.1 (List.mem_cons_of_mem _ hm)) with e | e
    ·subst e; exact absurd hm n1
    ·exact e
   ·intro hm
    rcases List.mem_cons.1 (hx.2 (List.mem_cons_of_mem _ hm)) with e | e
    ·subst e; exact absurd hm n2
    ·exact e]
theorem bars_uniq {c c' : Int × Int → Nat} {l l' : List Iv} (h : BarsOf c l) (h' : BarsOf c' l') (e : ∀ a, c a = c' a) : l = l' := by
 obtain ⟨ks, rfl, h1, h2⟩ := h
 obtain ⟨ks', rfl, h1', h2'⟩ := h'
 obtain rfl := strict_uniq ks ks' h1 h1' fun a => by rw [h2, h2', e]
 exact List.map_congr_left fun a _ => by rw [e]
def SpecL (Z : Zz) (l : List StE) : Prop := (¬ Z.Rt → l = []) ∧ (Z.Rt → ∃ (N : Nat) (S : Nat → SM) (e : Nat → StE) (L : List Nat), l = L.map e ∧ L.Perm (List.range N) ∧ Valid Z.zg (dcOf N S) ∧ ∀ k, k < N → (e k).fr = (S k).fr ∧ (e k).to = (S k).to)
theorem key_ok {Z : Zz} {N : Nat} {S : Nat → SM} {e : Nat → StE} {L : List Nat} (hV : Valid Z.zg (dcOf N S)) (hRt : Z.Rt) (hp : L.Perm (List.range N)) (he : ∀ k, k < N → (e k).fr = (S k).fr ∧ (e k).to = (S k).to) : ∀ s ∈ L.map e, POk s.key := fun s hs => by
 obtain ⟨k, hk, rfl⟩ := List.mem_map.1 hs
 have hkN := List.mem_range.1 (hp.mem_iff.1 hk)
 obtain ⟨h1, h2⟩ := he k hkN
 have h3 := hV.ends k hkN
 have h4 : (S k).fr ≤ (S k).to := h3.1
 have h5 : (S k).to < Z.dims.length := h3.2
 have h6 := hRt.2.1
 constructor
 ·show I64 (e k).fr
  rw [h1]; unfold I64; omega
 ·show I64 (e k).to
  rw [h2]; unfold I64; omega
theorem tc_len {T : List ((Int × Int) × Int)} {ks : List (Int × Int)} (C : TC T ks) (hn : (T.map Prod.fst).Nodup) : (∀ a, a ∈ T.map Prod.fst ↔ 0 < ks.count a) ∧ T.length ≤ ks.length := by
 have h1 : ∀ a, a ∈ T.map Prod.fst ↔ a ∈ ks := fun a => by
  constructor
  ·intro h
   obtain ⟨p, hp, rfl⟩ := List.mem_map.1 h
   obtain ⟨j, hj⟩ := List.getElem?_of_mem hp
   exact C.has p.1 p.2 (getK_of hn (j := j) hj)
  ·intro h
   refine Classical.byContradiction fun hno => ?_
   have h2 := C.cnt a
   rw [getK_none hno] at h2
   have := List.count_pos_iff.2 h
   simp at h2
   omega
 refine ⟨fun a => by rw [h1, List.count_pos_iff], ?_⟩
 have := hn.length_le_of_subset fun a ha => (h1 a).1 ha
 simpa using this
end Go.Proofs.YtdnelknieikbaaaGreat
namespace Go.Lin
theorem pick_ok {p : Int} {n d : Nat} {b : Nat → Bool} {v : Nat → Nat → Int} {L : List Nat} (hn : L.Nodup) (hL : ∀ l ∈ L, l < n) (hb : ∀ l, l < n → b l = true → l ∈ L) : (Ind p n b d v → Ind p L.length (fun t => b (L.getD t 0)) d fun t => v (L.getD t 0)) ∧ cnt L.length (fun t => b (L.getD t 0)) = cnt n b := by
  have hat : ∀ t, t < L.length → ∃ h : t < L.length, L.getD t 0 = L[t] := fun t ht => ⟨ht, by simp [List.getD, ht]⟩
  have hP : ((sel L.length fun t => b (L.getD t 0)).map fun t => L.getD t 0).Perm (sel n b) := by
    refine sel_perm ?_ fun l => ?_
    · refine List.pairwise_map.2 ((sel_nodup _ _).imp_of_mem fun {s t} hs ht hne e => hne ?_)
      obtain ⟨h1, e1⟩ := hat s (mem_sel.1 hs).1
      obtain ⟨h2, e2⟩ := hat t (mem_sel.1 ht).1
      rw [e1, e2] at e
      exact (List.getElem_inj hn).1 e
    · rw [List.mem_map]
      constructor
      · rintro ⟨t, ht, rfl⟩
        obtain ⟨h1, h2⟩ := mem_sel.1 ht
        obtain ⟨h3, e⟩ := hat t h1
        exact ⟨hL _ (e ▸ List.getElem_mem h3), h2⟩
      · rintro ⟨h1, h2⟩
        obtain ⟨t, ht, e⟩ := List.mem_iff_getElem.1 (hb l h1 h2)
        obtain ⟨h3, e3⟩ := hat t ht
        exact ⟨t, mem_sel.2 ⟨ht, by rw [e3, e]; exact h2⟩, by rw [e3, e]⟩
  refine ⟨fun hI => ?_, ?_⟩
  · have h1 := list_of_ind hP hI
    refine ind_of_list (L := sel L.length fun t => b (L.getD t 0)) (List.Perm.refl _) ?_
    rw [List.length_map] at h1
    exact h1.congr (fun _ _ => rfl) fun t ht _ i _ => Cg.of_eq (by
      have e : ((sel L.length fun t => b (L.getD t 0)).map fun t => L.getD t 0).getD t 0 = L.getD ((sel L.length fun t => b (L.getD t 0)).getD t 0) 0 := by
        have g : ∀ (l : List Nat) (h : t < l.length), l.getD t 0 = l[t] := fun l h => by simp [List.getD, h]
        rw [g _ (by rw [List.length_map]; exact ht), List.getElem_map, g (sel L.length fun t => b (L.getD t 0)) ht]
      rw [e])
  · have := hP.length_eq
    rw [List.length_map] at this
    exact this
theorem valid_perm {Z : Zg} {D D' : Dc} {L : List Nat} (V : Valid Z D) (hL : L.Perm (List.range D.N)) (hN : D'.N = L.length) (hf : ∀ t, t < L.length → D'.fr t = D.fr (L.getD t 0) ∧ D'.to t = D.to (L.getD t 0)) (hv : ∀ t, t < L.length → ∀ k, D'.on k t = true → ∀ i, i < Z.d k → D'.vec t k i = D.vec (L.getD t 0) k i) : Valid Z D' := by
  have hm : ∀ t, t < L.length → L.getD t 0 < D.N := fun t ht => by
    have : L.getD t 0 ∈ L := by simp [List.getD, ht]
    exact List.mem_range.1 (hL.mem_iff.1 this)
  have hon : ∀ k t, t < L.length → D.on k (L.getD t 0) = D'.on k t := fun k t ht => by unfold Dc.on; rw [(hf t ht).1, (hf t ht).2]
  have hpk : ∀ k, _ := fun k => pick_ok (p := Z.p) (d := Z.d k) (b := D.on k) (v := fun l => D.vec l k) (hL.nodup_iff.2 List.nodup_range) (fun l hl => List.mem_range.1 (hL.mem_iff.1 hl)) fun l hl _ => hL.mem_iff.2 (List.mem_range.2 hl)
  refine ⟨fun t ht => ?_, fun k hk => ?_, fun k hk => ?_, fun k hk t ht ho i hi => ?_⟩
  · rw [hN] at ht
    rw [(hf t ht).1, (hf t ht).2]
    exact V.ends _ (hm t ht)
  · rw [hN]
    exact ((hpk k).1 (V.ind k hk)).congr (fun t ht => hon k t ht) fun t ht hb i hi => Cg.of_eq (hv t ht k (by rw [← hon k t ht]; exact hb) i hi)
  · rw [hN]
    exact (cnt_congr fun t ht => (hon k t ht).symm).trans ((hpk k).2.trans (V.cnt k hk))
  · rw [hN] at ht
    have h1 := V.arr k hk _ (hm t ht) (by rw [hon _ t ht]; exact ho) i hi
    have h2 : ap (Z.mat k) (Z.d (Z.src k)) (D'.vec t (Z.src k)) i = ap (Z.mat k) (Z.d (Z.src k)) (D.vec (L.getD t 0) (Z.src k)) i := sm_congr fun j hj => by rw [hv t ht _ ho j hj]
    rw [h2]
    rw [hon _ t ht] at h1
    cases h3 : D'.on (Z.tgt k) t with
    | false => rw [h3] at h1; exact h1
    | true => rw [h3] at h1; simp only [if_true] at h1 ⊢; rw [hv t ht _ h3 i hi]; exact h1
def blk (m n : Nat) (A B : Nat → Nat → Int) (i j : Nat) : Int := if i < m then (if j < n then A i j else 0) else (if j < n then 0 else B (i - m) (j - n))
end Go.Lin
namespace Go.Proofs.YtdnelknieikbaaaGreat
open Go.Eng Go.RowKit Go.Lin Go.Sort Go.Srt
variable {h : Hp} {Z : Zz} {bl : List Iv}
def RdE (h : Hp) (d : Nat → Nat) (e : StE) (s : SM) (es : List Value) : Prop := e.fr = s.fr ∧ e.to = s.to ∧ s.fr ≤ s.to ∧ RdL cV 1 h [] e.v es ∧ es.length = s.to + 1 - s.fr ∧ ∀ k (hk : k < es.length), RdL cI 1 h [] es[k] (vec (d (s.fr + k)) (s.v (s.fr + k)))
theorem StV.rde {d : Nat → Nat} {e : StE} {s : SM} {m : Hp} (S : StV d s.g e s.fr s.to s.v m) (hl : m.le h) : ∃ es, RdE h d e s es := by
 obtain ⟨e1, e2, es, ma, mb, h0, rfl, h1, h2, h3, h4, h5⟩ := S
 have l1 : ma.le h := Hp.le_trans (Hp.le_trans Hp.le_joinl (Hp.le_joinr h1)) hl
 have l2 : mb.le h := Hp.le_trans (Hp.le_trans (Hp.le_joinr h2) (Hp.le_joinr h1)) hl
 exact ⟨es, e1, e2, h0, h3.rdh l1, h4, h5.rd l2 rfl⟩
def svOf (d : Nat → Nat) (e : StE) (s : SM) (es : List Value) : SV := ⟨e, es, (List.range (s.to + 1 - s.fr)).map fun k => vec (d (s.fr + k)) (s.v (s.fr + k))⟩
theorem svOf_vs (d : Nat → Nat) (e : StE) (s : SM) (es : List Value) {k : Nat} (hk : k < s.to + 1 - s.fr) : (svOf d e s es).vs.getD k [] = vec (d (s.fr + k)) (s.v (s.fr + k)) := by
 simp [svOf, List.getD, hk]
theorem svOf_len (d : Nat → Nat) (e : StE) (s : SM) (es : List Value) : (svOf d e s es).vs.length = s.to + 1 - s.fr := by simp [svOf]
theorem RdE.rdw {d : Nat → Nat} {e : StE} {s : SM} {es : List Value} (R : RdE h d e s es) : RdW h (svOf d e s es) := by
 obtain ⟨e1, e2, h0, h1, h2, h3⟩ := R
 refine ⟨by rw [svOf_len]; exact h2, h1, fun j hj => ?_⟩
 rw [svOf_len] at hj
 have hj' : j < es.length := by omega
 rw [svOf_vs d e s es hj]
 show RdL cI 1 h [] (es.getD j undef) _
 rw [es_getD hj']
 exact h3 j hj'
theorem strands_sv (hRt : Z.Rt) {N : Nat} {S : Nat → SM} {e : Nat → StE} {L : List Nat} {m mB : Hp} {r : Value} (hO : OwnL cS 3 64 m r (L.map e)) (hm : m.le h) (B : Bag N (fun l x => StV Z.zg.d (S l).g (e l) (S l).fr (S l).to (S l).v x) mB) (hmB : mB.le h) (hp : L.Perm (List.range N)) (V : Valid Z.zg (dcOf N S)) (hb : ∀ l, l < N → (S l).Bd Z.p Z.zg.d) :
  ∃ l : List SV, l.map SV.e = L.map e ∧ RdSs h r l ∧ ChkP Z l := by
 have hex : ∀ k, ∃ es, k < N → RdE h Z.zg.d (e k) (S k) es := fun k => by
  by_cases hk : k < N
  ·obtain ⟨x, hx, hS⟩ := B.all k hk
   obtain ⟨es, he⟩ := hS.rde (Hp.le_trans hx hmB)
   exact ⟨es, fun _ => he⟩
  ·exact ⟨[], fun h => absurd h hk⟩
 obtain ⟨es, hes⟩ := Classical.axiomOfChoice hex
 have hLN : ∀ k ∈ L, k < N := fun k hk => List.mem_range.1 (hp.mem_iff.1 hk)
 have hat : ∀ t, t < L.length → L.getD t 0 < N := fun t ht => hLN _ (by simp [List.getD, ht])
 have hget : ∀ t, t < L.length → (L.map fun k => svOf Z.zg.d (e k) (S k) (es k)).getD t default = svOf Z.zg.d (e (L.getD t 0)) (S (L.getD t 0)) (es (L.getD t 0)) := fun t ht => by
  have e1 : L.getD t 0 = L[t] := by simp [List.getD, ht]
  rw [sv_getD (by rw [List.length_map]; exact ht), List.getElem_map, e1]
 refine ⟨L.map fun k => svOf Z.zg.d (e k) (S k) (es k), by rw [List.map_map]; rfl, ⟨?_, fun s hs => ?_⟩, hRt, fun s hs => ?_, ?_⟩
 ·have h1 := (hO.rdh (ms := []) hm).rd
  refine ⟨?_, cSV_len⟩
  rw [List.length_map] at h1 ⊢
  rw [List.flatMap_map] at h1 ⊢
  exact h1
 ·obtain ⟨k, hk, rfl⟩ := List.mem_map.1 hs
  exact (hes k (hLN k hk)).rdw
 ·obtain ⟨k, hk, rfl⟩ := List.mem_map.1 hs
  have hkN := hLN k hk
  obtain ⟨e1, e2, h0, h1, h2, h3⟩ := hes k hkN
  have h4 := V.ends k hkN
  have h5 : (S k).to < Z.dims.length := h4.2
  refine ⟨?_, ?_, ?_, ?_, fun j hj => ?_⟩
  ·show 0 ≤ (e k).fr; omega
  ·show (e k).fr ≤ (e k).to; omega
  ·show (e k).to < _; omega
  ·rw [svOf_len]; show _ = (e k).to - (e k).fr + 1; omega
  ·rw [svOf_len] at hj
   rw [svOf_vs _ _ _ _ hj, vec_len]
   have e3 : (svOf Z.zg.d (e k) (S k) (es k)).e.fr.toNat = (S k).fr := by show (e k).fr.toNat = _; omega
   rw [e3]
   refine ⟨Z.zg_d hRt _, fun x hx => ?_⟩
   obtain ⟨i, hi, rfl⟩ := mem_vec.1 hx
   exact hb k hkN _ (by omega) (by omega) i hi
 ·refine valid_perm V hp (by show (L.map _).length = _; rw [List.length_map]) (fun t ht => ?_) fun t ht k ho i hi => ?_
  ·obtain ⟨e1, e2, _⟩ := hes _ (hat t ht)
   show ((L.map fun k => svOf Z.zg.d (e k) (S k) (es k)).getD t default).e.fr.toNat = (S (L.getD t 0)).fr ∧ ((L.map fun k => svOf Z.zg.d (e k) (S k) (es k)).getD t default).e.to.toNat = (S (L.getD t 0)).to
   rw [hget t ht]
   show (e (L.getD t 0)).fr.toNat = _ ∧ (e (L.getD t 0)).to.toNat = _
   omega
  ·obtain ⟨e1, e2, h0, _⟩ := hes _ (hat t ht)
   have ho := Dc.on_iff.1 ho
   have ho : ((L.map fun k => svOf Z.zg.d (e k) (S k) (es k)).getD t default).e.fr.toNat ≤ k ∧ k ≤ ((L.map fun k => svOf Z.zg.d (e k) (S k) (es k)).getD t default).e.to.toNat := ho
   show (((L.map fun k => svOf Z.zg.d (e k) (S k) (es k)).getD t default).at_ k).getD i 0 = _
   rw [hget t ht] at ho ⊢
   have ho : (e (L.getD t 0)).fr.toNat ≤ k ∧ k ≤ (e (L.getD t 0)).to.toNat := ho
   unfold SV.at_
   have e3 : (svOf Z.zg.d (e (L.getD t 0)) (S (L.getD t 0)) (es (L.getD t 0))).e.fr.toNat = (S (L.getD t 0)).fr := by show (e (L.getD t 0)).fr.toNat = _; omega
   rw [e3, svOf_vs _ _ _ _ (by omega), show (S (L.getD t 0)).fr + (k - (S (L.getD t 0)).fr) = k by omega, getD_I (by rw [vec_len]; exact hi), vec_get hi]
   rfl
def IsBars (Z : Zz) (bl : List Iv) : Prop := (¬ Z.Rt → bl = []) ∧ (Z.Rt → ∃ D, Valid Z.zg D ∧ BarsOf D.ct bl)
theorem bars_none (h : BarsOf (fun a => (([] : List StE).map StE.key).count a) bl) : bl = [] := by
 obtain ⟨ks, rfl, _, h2⟩ := h
 cases ks with
 | nil => rfl
 | cons a ks => exact absurd ((h2 a).1 (by simp)) (by simp)
theorem bars_is {l : List StE} (hS : SpecL Z l) (hB : BarsOf (fun a => (l.map StE.key).count a) bl) : IsBars Z bl := by
 refine ⟨fun h => ?_, fun h => ?_⟩
 ·rw [hS.1 h] at hB; exact bars_none hB
 ·obtain ⟨N, S, e, L, rfl, hp, V, he⟩ := hS.2 h
  refine ⟨_, V, ?_⟩
  have e1 : (fun a => ((L.map e).map StE.key).count a) = (dcOf N S).ct := funext fun a => by
   rw [List.map_map]
   exact ct_count (D := dcOf N S) hp (fun k hk => by
    obtain ⟨h1, h2⟩ := he k hk
    show ((e k).fr, (e k).to) = _
    rw [h1, h2]; rfl) a
  rw [← e1]; exact hB
theorem is_bars_uniq (hRt : Z.Rt) {D : Dc} (V : Valid Z.zg D) {bl' : List Iv} (h : IsBars Z bl) (h' : BarsOf D.ct bl') : bl = bl' := by
 obtain ⟨D0, V0, h0⟩ := h.2 hRt
 exact bars_uniq h0 h' fun a => ct_unique hRt.2.2.2.1.fld V0 V a
end Go.Proofs.YtdnelknieikbaaaGreat
namespace Go.Proofs.YtdnelknieikbaaaGreat
open Tryz
open Go.Eng Go.RowKit Go.Lin Go.Sort Go.Srt
def Ar.core (a : Ar) : Bool × FM := (a.b, a.M)
def oneA (n : Int) : Bool × FM := (decide (n < 0), ⟨5, 1, 1, [max n (-n) % 9]⟩)
theorem one_ar {x : Ar} (h : x.v.oneCell' = true) : ∀ a ∈ [x], ∀ c ∈ cA a, c.oneCell' = true := fun a ha c hc => by
 rw [List.mem_singleton.1 ha] at hc
 simp only [cA, List.mem_cons, List.not_mem_nil, or_false] at hc
 rcases hc with rfl | rfl | rfl | rfl | rfl
 ·rfl
 ·rfl
 ·rfl
 ·rfl
 ·exact h
theorem lone_ok (l : List Int) (vl : Value) (h : Hp) (hL : RdL cI 1 h [] vl l) (hl : l.length ≤ 100) (hb : ∀ x ∈ l, -9 ≤ x ∧ x ≤ 9) : FnT Tryz.prog 37 #[vl] h [] (fun r h' ms' => h.le h' ∧ ms' = [] ∧ ∃ (Z : Zz) (vd va : Value), r = .agg #[.int .i64 Z.p, vd, va] ∧ RdZ h' vd va Z ∧ Z.p = 5 ∧ Z.dims = List.replicate (l.length + 1) 1 ∧ Z.ars.map Ar.core = l.map oneA) := by
 refine fn_enter func37 ntmps37 rfl rfl (fun w0 hw0 => ?_)
 simp only [argS]
 refine RsQ (AlQ [.int .i64 0, .slice none 0 0, .slice none 0 0] rfl el30 rfl rfl (fun g2 => RtQ ?_))
 refine wl_buildSlice1 [_] rfl underlying24 el3 rfl (by rfl) rfl rfl (by omega) rfl rfl rfl (fun g7 => ?_)
 refine Qx (ox_buildS st30 [.int .i64 0, .slice none 0 0, .slice none 0 0] [(0, _), (1, _)] [_, _, _] rfl el30 rfl rfl (by repeat (first | exact trivial | refine ⟨⟨rfl, rfl, rfl⟩, ?_⟩)) rfl) rfl ?_
 refine AlQ [.int .i64 0, .slice none 0 0, .slice none 0 0] rfl el30 rfl rfl (fun g3 => ?_)
 refine wl_storeAll 0 [_, _, _] rfl el30 rfl rfl rfl (by (simp [Value.oneCell']; done)) rfl rfl rfl rfl rfl ?_
 refine RnQ (ws_seq (RsQ (Qm rfl (Qx (ox_lenR hL.rd.any rfl underlying24 rfl) rfl (Qm rfl (RnQ (ws_block (ws_emp ?_))))))))
 refine ws_loop (fun q sl hh ms' => ∃ (i : Nat) (vd va : Value) (ma md : Hp) (A : List Ar), q = l.length - i ∧ sl = [(2, .pointer (some ⟨g2, 0, none⟩)), (3, .pointer (some ⟨g3, 0, none⟩)), (9, vl), (10, .int .i64 l.length), (11, .int .i64 i)] ∧ h.le hh ∧ ms' = [ma, Blk g3 30 [.int .i64 5, vd, va], md, Blk g2 30 [.int .i64 0, .slice none 0 0, .slice none 0 0]] ∧ i ≤ l.length ∧ OwnL cA 5 45 ma va A ∧ OwnL cI 1 3 md vd (List.replicate (i + 1) 1) ∧ A.map Ar.core = (l.take i).map oneA ∧ ∀ a ∈ A, RdL cI 1 hh [] a.v a.M.e)
  (l.length - 0) _ ⟨0, _, _, _, _, [], rfl, rfl, Hp.le_refl _, rfl, by omega, OwnL.nil cA_len, OwnL.rep (g := g7) (el := 3) 1 1 (by omega), by simp, by simp⟩ Qs ?_
 rintro q sl hh ms' ⟨i, vd, va, ma, md, A, rfl, rfl, lh, rfl, hi, hOa, hOd, hA, hE⟩
 have hL := hL.up lh
 have hAl : A.length = i := by have := congrArg List.length hA; simp at this; omega
 refine RsQ (Qx (ox_lss rfl rfl rfl) rfl (RnQ (ws_seq ?_)))
 refine ws_if rfl (fun hlt => ?_) (fun hlt => ?_)
 ·have hil : i < l.length := nat_lt_of hlt
  have hbi := hb _ (List.getElem_mem hil)
  refine ws_skip (nx_then (ws_seq (ws_block (RsQ (Qx (ox_indexR (i) hL.rd.any rfl underlying24 el3 rfl rfl (by omega) (by omega)) rfl (Qx (ox_load rfl underlying3 rfl rfl (hL.any.cell0 hil rfl)) rfl (Qm rfl (RtQ (Qm rfl (Qx (ox_lss rfl rfl rfl) rfl ?_))))))))))
  refine Qx (ox_buildS st45 [.bool false, .int .i64 0, .int .i64 0, .int .i64 0, .slice none 0 0] [(0, _)] [_, _, _, _, _] rfl el45 rfl rfl (by repeat (first | exact trivial | refine ⟨⟨rfl, rfl, rfl⟩, ?_⟩)) rfl) rfl ?_
  refine AlQ [.bool false, .int .i64 0, .int .i64 0, .int .i64 0, .slice none 0 0] rfl el45 rfl rfl (fun g6 => ?_)
  refine wl_storeAll 0 [_, _, _, _, _] rfl el45 rfl rfl rfl (by (simp [Value.oneCell']; done)) rfl rfl rfl rfl rfl ?_
  refine RtQ (Qm rfl (Qm rfl (Qx (ox_neg rfl rfl (by omega)) rfl (Qx (ox_max rfl rfl rfl) rfl (Qx (ox_remP rfl rfl rfl (by omega) (by omega)) rfl ?_)))))
  refine wl_buildSlice1 [_] rfl underlying24 el3 rfl (by rfl) rfl rfl (by omega) rfl rfl rfl (fun g23 => ?_)
  refine Qx (ox_buildS st42 [.int .i64 0, .int .i64 0, .int .i64 0, .slice none 0 0] [(0, _), (1, _), (2, _), (3, _)] [_, _, _, _] rfl el42 rfl rfl (by repeat (first | exact trivial | refine ⟨⟨rfl, rfl, rfl⟩, ?_⟩)) rfl) rfl ?_
  refine Qx (ox_fieldF fd45_1 rfl rfl) rfl ?_
  refine wl_storeSeg 1 1 [.int .i64 5, .int .i64 1, .int .i64 1, .slice (some ⟨g23, 0, none⟩) 1 1] rfl el42 rfl rfl rfl rfl (by simp [Value.oneCell']) rfl (by simp) rfl rfl ?_
  refine RnQ (ws_freezeL (OwnL.blk (g := g23) (el := 3) (l := [max l[i] (-l[i]) % 9]) 1 cI_len rfl (by omega)) fun h3 l3 hRe => ?_)
  have o1 : vd.oneCell' = true := (hOd.rd (h := h) (ms := [md]) (List.Mem.head _)).rd.one
  refine RsQ (Qx (ox_fieldF fd30_1 rfl rfl) rfl (Qx (ox_load rfl underlying24 rfl rfl (Cell.blk 2 rfl rfl)) rfl ?_))
  refine wl_buildSlice1 [_] rfl underlying24 el3 rfl (by rfl) rfl rfl (by omega) rfl rfl rfl (fun g28 => ?_)
  refine wl_appendL 4 hOd (RdL.one cI_len (x := 1) (List.Mem.head _) rfl) rfl underlying24 el3 rfl (by omega) rfl rfl rfl cI_one (by simp only [List.length_singleton, List.length_replicate]; omega) (by simp only [List.length_singleton, List.length_replicate]; omega) rfl rfl rfl (fun vd2 md2 hOd2 => ?_)
  have o1 : vd2.oneCell' = true := (hOd2.rd (h := h) (ms := [md2]) (List.Mem.head _)).rd.one
  have hXE : RdL cI 1 h3 [] (Ar.mk (decide (l[i] < 0)) ⟨5, 1, 1, [max l[i] (-l[i]) % 9]⟩ (.slice (some ⟨g23, 0, none⟩) 1 1)).v (Ar.mk (decide (l[i] < 0)) ⟨5, 1, 1, [max l[i] (-l[i]) % 9]⟩ (.slice (some ⟨g23, 0, none⟩) 1 1)).M.e := hRe
  have o2 : va.oneCell' = true := (hOa.rd (h := h) (ms := [ma]) (List.Mem.head _)).rd.one
  refine Qx (ox_fieldF fd30_1 rfl rfl) rfl ?_
  refine wl_storeAt 3 _ rfl el24 rfl rfl (by assumption) rfl rfl (by (simp; done)) rfl rfl ?_
  refine RrQ (Qx (ox_fieldF fd30_2 rfl rfl) rfl (Qx (ox_load rfl underlying28 rfl rfl (Cell.blk 3 rfl rfl)) rfl (Qx (ox_loadG rfl underlying45 rfl el45 rfl rfl (Seg.blk 1 rfl)) rfl ?_)))
  refine wl_buildSlice1 [_, _, _, _, _] rfl underlying28 el45 rfl (by rfl) rfl rfl (by omega) rfl rfl rfl (fun g34 => ?_)
  refine wl_appendV 3 hOa (RdL.one cA_len (x := ⟨decide (l[i] < 0), ⟨5, 1, 1, [max l[i] (-l[i]) % 9]⟩, .slice (some ⟨g23, 0, none⟩) 1 1⟩) (List.Mem.head _) rfl) rfl underlying28 el45 rfl (by omega) rfl rfl rfl (one_ar rfl) (by simp only [List.length_singleton, List.length_replicate]; omega) (by simp only [List.length_singleton, List.length_replicate]; omega) rfl rfl rfl (fun va2 ma2 hOa2 => ?_)
  have o2 : va2.oneCell' = true := (hOa2.rd (h := h) (ms := [ma2]) (List.Mem.head _)).rd.one
  refine Qx (ox_fieldF fd30_2 rfl rfl) rfl ?_
  refine wl_storeAt 4 _ rfl el28 rfl rfl (by assumption) rfl rfl (by (simp; done)) rfl rfl ?_
  refine wl_nil (nx_block (nx_then (ws_region (Qx (ox_add rfl rfl rfl (by omega)) rfl (Qm rfl (wl_nil (nx_drop (nx_drop (nx_drop ?_)))))))))
  refine nx_round (l.length - (i + 1)) _ (by omega) ⟨i + 1, vd2, va2, ma2, md2, _, rfl, rfl, Hp.le_trans lh l3, rfl, by omega, hOa2, by rw [List.replicate_succ']; exact hOd2, ?_, fun a ha => ?_⟩ Qs
  ·rw [List.map_append, hA, List.take_succ_eq_append_getElem hil, List.map_append]; rfl
  ·rcases List.mem_append.1 ha with ha | ha
   ·exact (hE a ha).up l3
   ·rw [List.mem_singleton.1 ha]; exact hXE
 ·obtain rfl : i = l.length := by omega
  have o1 : vd.oneCell' = true := (hOd.rd (h := h) (ms := [md]) (List.Mem.head _)).rd.one
  have o2 : va.oneCell' = true := (hOa.rd (h := h) (ms := [ma]) (List.Mem.head _)).rd.one
  refine ws_freezeL hOa fun h3 l3 hRa => (ws_top 1 rfl (ws_freezeL hOd fun h4 l4 hRd => (ws_exit (nx_then_exit (nx_then_exit (nx_block_exit (nx_then (RsQ (Qx (ox_loadG rfl underlying30 rfl el30 rfl rfl (Seg.blk 0 rfl)) rfl ?_)))))))))
  refine wl_storeAll 1 [_, _, _] rfl el30 rfl rfl rfl (by (simp [o1, o2]; done)) rfl rfl rfl rfl rfl ?_
  refine RnQ (ws_ret (nx_dropAt 0 rfl ?_))
  exact nx_retD (vs := [_, _, _]) 0 rfl rfl underlying30 rfl el30 rfl rfl (⟨Hp.le_trans lh (Hp.le_trans l3 l4), rfl, ⟨5, List.replicate (l.length + 1) 1, A⟩, vd, va, rfl, ⟨hRd, hRa.up l4, fun a ha => (hE a ha).up (Hp.le_trans l3 l4)⟩, rfl, rfl, by rw [hA, List.take_length]⟩)
def wideL (n : Int) : List (Bool × FM) := [(false, ⟨5, 2, 1, [1, 1]⟩), (true, ⟨5, 2, 1, [max n 1, n]⟩)]
theorem wide_ok (n : Int) (h : Hp) (hn : 0 ≤ n ∧ n ≤ 9) : FnT Tryz.prog 38 #[.int .i64 n] h [] (fun r h' ms' => h.le h' ∧ ms' = [] ∧ ∃ (Z : Zz) (vd va : Value), r = .agg #[.int .i64 Z.p, vd, va] ∧ RdZ h' vd va Z ∧ Z.p = 5 ∧ Z.dims = [1, 2, 1] ∧ Z.ars.map Ar.core = wideL n) := by
 refine fn_enter func38 ntmps38 rfl rfl (fun w0 hw0 => ?_)
 simp only [argS]
 refine RsQ (AlQ [.int .i64 0, .slice none 0 0, .slice none 0 0] rfl el30 rfl rfl (fun g2 => RtQ ?_))
 refine wl_buildSlice [(0, _), (1, _), (2, _)] [.int .i64 0, .int .i64 0, .int .i64 0] [_, _, _] rfl underlying24 el3 rfl (by omega) (by kernel_rfl) (by repeat (first | exact trivial | refine ⟨⟨by rfl, rfl, rfl⟩, ?_⟩)) rfl rfl rfl rfl (fun g3 => ?_)
 refine wl_buildSlice [(0, _), (1, _)] [.int .i64 0, .int .i64 0] [_, _] rfl underlying24 el3 rfl (by omega) (by kernel_rfl) (by repeat (first | exact trivial | refine ⟨⟨by rfl, rfl, rfl⟩, ?_⟩)) rfl rfl rfl rfl (fun g4 => ?_)
 refine Qx (ox_buildS st42 [.int .i64 0, .int .i64 0, .int .i64 0, .slice none 0 0] [(0, _), (1, _), (2, _), (3, _)] [_, _, _, _] rfl el42 rfl rfl (by repeat (first | exact trivial | refine ⟨⟨rfl, rfl, rfl⟩, ?_⟩)) rfl) rfl ?_
 refine Qx (ox_buildS st45 [.bool false, .int .i64 0, .int .i64 0, .int .i64 0, .slice none 0 0] [(1, _)] [_, _, _, _, _] rfl el45 rfl rfl (by repeat (first | exact trivial | refine ⟨⟨rfl, rfl, rfl⟩, ?_⟩)) rfl) rfl ?_
 refine Qm rfl (Qx (ox_max rfl rfl rfl) rfl (Qm rfl ?_))
 refine wl_buildSlice [(0, _), (1, _)] [.int .i64 0, .int .i64 0] [_, _] rfl underlying24 el3 rfl (by omega) (by kernel_rfl) (by repeat (first | exact trivial | refine ⟨⟨by rfl, rfl, rfl⟩, ?_⟩)) rfl rfl rfl rfl (fun g10 => ?_)
 refine Qx (ox_buildS st42 [.int .i64 0, .int .i64 0, .int .i64 0, .slice none 0 0] [(0, _), (1, _), (2, _), (3, _)] [_, _, _, _] rfl el42 rfl rfl (by repeat (first | exact trivial | refine ⟨⟨rfl, rfl, rfl⟩, ?_⟩)) rfl) rfl ?_
 refine Qx (ox_buildS st45 [.bool false, .int .i64 0, .int .i64 0, .int .i64 0, .slice none 0 0] [(0, _), (1, _)] [_, _, _, _, _] rfl el45 rfl rfl (by repeat (first | exact trivial | refine ⟨⟨rfl, rfl, rfl⟩, ?_⟩)) rfl) rfl ?_
 refine wl_buildSlice [(0, _), (5, _)] [.bool false, .int .i64 0, .int .i64 0, .int .i64 0, .slice none 0 0, .bool false, .int .i64 0, .int .i64 0, .int .i64 0, .slice none 0 0] [_, _, _, _, _, _, _, _, _, _] rfl underlying28 el45 rfl (by omega) (by kernel_rfl) (by repeat (first | exact trivial | refine ⟨⟨by rfl, rfl, rfl⟩, ?_⟩)) rfl rfl rfl rfl (fun g13 => ?_)
 refine Qx (ox_buildS st30 [.int .i64 0, .slice none 0 0, .slice none 0 0] [(0, _), (1, _), (2, _)] [_, _, _] rfl el30 rfl rfl (by repeat (first | exact trivial | refine ⟨⟨rfl, rfl, rfl⟩, ?_⟩)) rfl) rfl ?_
 refine wl_freezeL (OwnL.blk (g := g13) (el := 45) (F := cA) (l := [⟨false, ⟨5, 2, 1, [1, 1]⟩, .slice (some ⟨g4, 0, none⟩) 2 2⟩, ⟨true, ⟨5, 2, 1, [max n 1, n]⟩, .slice (some ⟨g10, 0, none⟩) 2 2⟩]) 2 cA_len rfl (by omega)) fun h1 l1 hRa => (wl_freezeL (OwnL.blk (g := g10) (el := 3) (F := cI) (l := [max n 1, n]) 2 cI_len rfl (by omega)) fun h2 l2 hR2 => (wl_freezeL (OwnL.blk (g := g4) (el := 3) (F := cI) (l := [1, 1]) 2 cI_len rfl (by omega)) fun h3 l3 hR1 => (wl_freezeL (OwnL.blk (g := g3) (el := 3) (F := cI) (l := [1, 2, 1]) 3 cI_len rfl (by omega)) fun h4 l4 hRd => ?_)))
 have hE : ∀ a ∈ [(⟨false, ⟨5, 2, 1, [1, 1]⟩, .slice (some ⟨g4, 0, none⟩) 2 2⟩ : Ar), ⟨true, ⟨5, 2, 1, [max n 1, n]⟩, .slice (some ⟨g10, 0, none⟩) 2 2⟩], RdL cI 1 h4 [] a.v a.M.e := fun a ha => by
  simp only [List.mem_cons, List.not_mem_nil, or_false] at ha
  rcases ha with rfl | rfl
  ·exact hR1.up l4
  ·exact hR2.up (Hp.le_trans l3 l4)
 refine wl_storeAll 0 [_, _, _] rfl el30 rfl rfl rfl (by (simp [Value.oneCell']; done)) rfl rfl rfl rfl rfl ?_
 refine RnQ (ws_ret ?_)
 exact nx_retD (vs := [_, _, _]) 0 rfl rfl underlying30 rfl el30 rfl rfl (⟨Hp.le_trans l1 (Hp.le_trans l2 (Hp.le_trans l3 l4)), rfl, ⟨5, [1, 2, 1], [⟨false, ⟨5, 2, 1, [1, 1]⟩, .slice (some ⟨g4, 0, none⟩) 2 2⟩, ⟨true, ⟨5, 2, 1, [max n 1, n]⟩, .slice (some ⟨g10, 0, none⟩) 2 2⟩]⟩, _, _, rfl, ⟨hRd, hRa.up (Hp.le_trans l2 (Hp.le_trans l3 l4)), hE⟩, rfl, rfl, rfl⟩)
end Go.Proofs.YtdnelknieikbaaaGreat
namespace Go.Proofs.YtdnelknieikbaaaGreat
open Go.Eng Go.RowKit Go.Lin Go.Sort Go.Srt
variable {Z : Zz} {c : List (Bool × FM)}
def mkZz (p : Int) (dims : List Int) (c : List (Bool × FM)) : Zz := ⟨p, dims, c.map fun x => ⟨x.1, x.2, .slice none 0 0⟩⟩
theorem zg_core (h : Z.ars.map Ar.core = c) : Z.zg = (mkZz Z.p Z.dims c).zg := by
 subst h
 have e : ∀ k, ((Z.ars.map Ar.core).map fun x : Bool × FM => (⟨x.1, x.2, .slice none 0 0⟩ : Ar))[k]? = (Z.ars[k]?).map fun a : Ar => (⟨a.b, a.M, .slice none 0 0⟩ : Ar) := fun k => by rw [List.map_map, List.getElem?_map]; rfl
 unfold Zz.zg mkZz
 simp only [e]
 congr 1
 ·funext k; cases Z.ars[k]? <;> rfl
 ·funext k; cases Z.ars[k]? <;> rfl
theorem rt_core (h : Z.ars.map Ar.core = c) : Z.Rt ↔ (mkZz Z.p Z.dims c).Rt := by
 subst h
 unfold Zz.Rt mkZz
 simp only [List.length_map]
 refine and_congr_right fun _ => and_congr_right fun _ => and_congr_right fun _ => and_congr_right fun _ => and_congr_right fun _ => (forall_congr' fun k => forall_congr' fun hk => ?_)
 simp only [List.getElem_map]
 exact Iff.rfl
theorem Zz.Rt.ok (h : Z.Rt) : Z.Ok := by
 obtain ⟨h1, h2, h3, h4, h5, h6⟩ := h
 have hp1 := h4.1
 have hp2 := h4.2.1
 refine ⟨⟨by omega, by omega⟩, fun x hx => ?_, fun a ha => ?_⟩
 ·have := h5 x hx
  exact ⟨by omega, by omega⟩
 ·obtain ⟨k, hk, rfl⟩ := List.mem_iff_getElem.1 ha
  obtain ⟨⟨q1, ⟨q2, q3, q4, q5⟩, _⟩, _⟩ := h6 k hk
  have := q1.1
  have := q1.2.1
  exact ⟨⟨by omega, by omega⟩, ⟨by omega, by omega⟩, ⟨by omega, by omega⟩⟩
theorem barsOf_list {D : Dc} {ks : List (Int × Int)} (h : (List.range D.N).map (fun l => ((D.fr l : Int), (D.to l : Int))) = ks) (hs : ks.Pairwise fun a b => cmp2 a b < 0) : BarsOf D.ct (ks.map fun a => ⟨a.1, a.2, 1⟩) := by
 have hc : ∀ a, D.ct a = ks.count a := fun a => by rw [← h]; exact (ct_count (List.Perm.refl _) (fun _ _ => rfl) a).symm
 have hn : ks.Nodup := hs.imp fun {a b} h e => by
  subst e
  rw [cmp2_lt] at h
  omega
 refine ⟨ks, List.map_congr_left fun a ha => ?_, hs, fun a => ?_⟩
 ·rw [hc, hn.count, if_pos ha]; rfl
 ·rw [hc, List.count_pos_iff]
def Ex (Z : Zz) (ks : List (Int × Int)) : Prop := Z.Rt ∧ ∃ D, Valid Z.zg D ∧ BarsOf D.ct (ks.map fun a => ⟨a.1, a.2, 1⟩)
theorem ex_of {p : Int} {dims : List Int} {ks : List (Int × Int)} (h1 : Z.p = p) (h2 : Z.dims = dims) (h3 : Z.ars.map Ar.core = c) (D : Dc) (U : Nat → Nat → Nat → Int) (hr : decide (mkZz p dims c).Rt = true) (hv : validB (mkZz p dims c).zg D U = true) (hk : (List.range D.N).map (fun l => ((D.fr l : Int), (D.to l : Int))) = ks) (hs : ks.Pairwise fun a b => cmp2 a b < 0) : Ex Z ks := by
 subst h1 h2
 refine ⟨(rt_core h3).2 (of_decide_eq_true hr), D, ?_, barsOf_list hk hs⟩
 rw [zg_core h3]
 exact validB_ok U hv
def two (l a b : Nat) : Nat := if l = 0 then a else b
theorem ex1 (h1 : Z.p = 5) (h2 : Z.dims = [1, 1, 1]) (h3 : Z.ars.map Ar.core = [1, 1].map oneA) : Ex Z [(0, 2)] :=
 ex_of h1 h2 h3 ⟨1, fun _ => 0, fun _ => 2, fun _ _ _ => 1⟩ (fun _ _ _ => 1) (by decide) (by decide) rfl (by decide)
theorem ex2 (h1 : Z.p = 5) (h2 : Z.dims = [1, 1, 1]) (h3 : Z.ars.map Ar.core = [1, 9].map oneA) : Ex Z [(0, 1), (2, 2)] :=
 ex_of h1 h2 h3 ⟨2, fun l => two l 0 2, fun l => two l 1 2, fun _ _ _ => 1⟩ (fun _ _ _ => 1) (by decide) (by decide) rfl (by decide)
theorem ex3 (h1 : Z.p = 5) (h2 : Z.dims = [1, 1, 1]) (h3 : Z.ars.map Ar.core = [1, -2].map oneA) : Ex Z [(0, 2)] :=
 ex_of h1 h2 h3 ⟨1, fun _ => 0, fun _ => 2, fun _ k _ => if k = 2 then 3 else 1⟩ (fun k _ _ => if k = 2 then 2 else 1) (by decide) (by decide) rfl (by decide)
theorem ex4 (h1 : Z.p = 5) (h2 : Z.dims = [1, 1, 1]) (h3 : Z.ars.map Ar.core = [9, -1].map oneA) : Ex Z [(0, 0), (1, 2)] :=
 ex_of h1 h2 h3 ⟨2, fun l => two l 0 1, fun l => two l 0 2, fun _ _ _ => 1⟩ (fun _ _ _ => 1) (by decide) (by decide) rfl (by decide)
theorem ex5 (h1 : Z.p = 5) (h2 : Z.dims = [1, 1, 1]) (h3 : Z.ars.map Ar.core = [-9, 3].map oneA) : Ex Z [(0, 0), (1, 2)] :=
 ex_of h1 h2 h3 ⟨2, fun l => two l 0 1, fun l => two l 0 2, fun _ k _ => if k = 2 then 3 else 1⟩ (fun k _ _ => if k = 2 then 2 else 1) (by decide) (by decide) rfl (by decide)
theorem ex6 (h1 : Z.p = 5) (h2 : Z.dims = [1, 2, 1]) (h3 : Z.ars.map Ar.core = wideL 0) : Ex Z [(0, 1), (1, 2)] :=
 ex_of h1 h2 h3 ⟨2, fun l => two l 0 1, fun l => two l 1 2, fun l k i => if k = 1 ∧ l = 1 ∧ i = 1 then 0 else 1⟩ (fun k l i => if k = 1 then (if l = 0 then (if i = 0 then 0 else 1) else (if i = 0 then 1 else 4)) else 1) (by decide) (by decide) rfl (by decide)
theorem ex7 (h1 : Z.p = 5) (h2 : Z.dims = [1, 2, 1]) (h3 : Z.ars.map Ar.core = wideL 2) : Ex Z [(0, 2), (1, 1)] :=
 ex_of h1 h2 h3 ⟨2, fun l => two l 0 1, fun l => two l 2 1, fun l k i => if k = 1 ∧ l = 1 ∧ i = 1 then 0 else if k = 2 then 3 else 1⟩ (fun k l i => if k = 1 then (if l = 0 then (if i = 0 then 0 else 1) else (if i = 0 then 1 else 4)) else if k = 2 then 2 else 1) (by decide) (by decide) rfl (by decide)
end Go.Proofs.YtdnelknieikbaaaGreat
namespace Go.Eng
open Go.RowKit Go.Sort
variable {w : World}
theorem Ext.grown {w' : World} (e : Ext w w') : ∃ q os', w' = grow (w.drewN q) os' := by
  refine ⟨w'.drawn - w.drawn, w'.heap.extract w.heap.size w'.heap.size, ?_⟩
  have hh : w'.heap = w.heap ++ w'.heap.extract w.heap.size w'.heap.size := by
    apply Array.ext_getElem?
    intro i
    rcases Nat.lt_or_ge i w.heap.size with h | h
    · rw [Array.getElem?_append_left h, e.block i h]
    · rw [Array.getElem?_append_right h]
      rcases Nat.lt_or_ge i w'.heap.size with h2 | h2
      · simp [Array.getElem?_extract]
        rw [if_pos (by omega)]
        congr 1; omega
      · rw [Array.getElem?_eq_none h2]
        symm
        apply Array.getElem?_eq_none
        simp; omega
  have hd : w'.drawn = w.drawn + (w'.drawn - w.drawn) := by have := e.tape.drawn; omega
  have h1 := e.os
  have h2 := e.tape.tape
  have h3 := e.output
  obtain ⟨heap, tape, drawn, os, output⟩ := w'
  obtain ⟨heap', tape', drawn', os', output'⟩ := w
  simp only at *
  subst h1 h2 h3
  simp only [grow, World.drewN, World.mk.injEq, true_and, and_true]
  exact ⟨hh, hd⟩
section
variable {α : Type} [Inhabited α] {enc : α → List Value} {k : Nat}
theorem flatK_get (hk : ∀ x, (enc x).length = k) (hk0 : 0 < k) (d : Array α) {t : Nat} (ht : t < d.size * k) : (d.toList.flatMap enc)[t]? = some (flatK enc k d)[t]! := by
  have hj : t / k < d.size := Nat.div_lt_of_lt_mul (by rw [Nat.mul_comm]; exact ht)
  have hm := Nat.mod_lt t hk0
  rw [get_flatK enc k d t ht]
  have h1 := flatMap_get hk d.toList (t / k) (by simpa using hj) (t % k) ((enc d[t / k]!)[t % k]!) (by
    have e : d.toList[t / k]'(by simpa using hj) = d[t / k]! := by simp [hj]
    rw [e]
    have : t % k < (enc d[t / k]!).length := by rw [hk]; exact hm
    simp [this])
  rwa [Nat.mul_comm, Nat.div_add_mod] at h1
theorem put_flat (hk : ∀ x, (enc x).length = k) (hk0 : 0 < k) (d d' : Array α) (hs : d'.size = d.size) (spare : List Value) : putCells id 0 (flatK enc k d') (d.toList.flatMap enc ++ spare).toArray = (d'.toList.flatMap enc ++ spare).toArray := by
  have l1 : (d.toList.flatMap enc).length = d.size * k := by rw [flatMap_len hk]; simp
  have l2 : (d'.toList.flatMap enc).length = d.size * k := by rw [flatMap_len hk]; simp [hs]
  apply Array.ext_getElem?
  intro t
  unfold putCells
  rw [Array.getElem?_mapIdx, List.getElem?_toArray, List.getElem?_toArray]
  rcases Nat.lt_or_ge t (d.size * k) with h | h
  · rw [List.getElem?_append_left (by omega), List.getElem?_append_left (by omega), flatK_get hk hk0 d h, flatK_get hk hk0 d' (by rw [hs]; exact h)]
    simp only [Option.map_some]
    rw [if_pos ⟨Nat.zero_le _, by rw [size_flatK, hs]; omega⟩]
    rfl
  · rw [List.getElem?_append_right (by omega), List.getElem?_append_right (by omega), l1, l2]
    cases spare[t - d.size * k]? with
    | none => rfl
    | some u =>
      simp only [Option.map_some]
      rw [if_neg]
      rw [size_flatK, hs]; omega
theorem holds_own {g : Nat} {el : TypeId} (hk : ∀ x, (enc x).length = k) (hk0 : 0 < k) (d : Array α) (spare : List Value) (hg : w.heap[g]? = some (.cells (d.toList.flatMap enc ++ spare).toArray el (0, 0))) : HoldsK enc k w g 0 d := by
  intro j hj
  rw [size_flatK] at hj
  have l1 : (d.toList.flatMap enc).length = d.size * k := by rw [flatMap_len hk]; simp
  have h1 := flatK_get hk hk0 d hj
  constructor
  · have : (d.toList.flatMap enc ++ spare)[j]? = some (flatK enc k d)[j]! := by rw [List.getElem?_append_left (by omega)]; exact h1
    simp [World.cell?, hg, this]
  · simp [World.frozen?, hg]
end
theorem ends_sort {α : Type} [Inhabited α] {enc : α → List Value} {k : Nat} {h : Hp} {g n : Nat} {el : TypeId} (hk : ∀ x, (enc x).length = k) (hk0 : 0 < k) (d d' : Array α) (hs : d'.size = d.size) (spare : List Value) (os : Array Obj) (hS : St w h [Blk g el (d.toList.flatMap enc ++ spare)]) :
    Ends w h [Blk g el (d.toList.flatMap enc ++ spare)] (Go.Proofs.sortWorldK enc k w g 0 n d' os) h [Blk g el (d'.toList.flatMap enc ++ spare)] := by
  have hg : w.heap[g]? = some (.cells (d.toList.flatMap enc ++ spare).toArray el (0, 0)) := hS.own _ (List.mem_singleton.2 rfl) g _ (Hp.one_self _ _)
  have hlt := (Array.getElem?_eq_some_iff.1 hg).1
  have hv := (Array.getElem?_eq_some_iff.1 hg).2
  have hsz : (putRowK enc k (Go.Sort.ahead w n) g 0 d').heap.size = w.heap.size := by simp [putRowK, putRow, mapBlock, ahead]
  have hg' : (putRowK enc k (Go.Sort.ahead w n) g 0 d').heap[g]? = some (.cells (d'.toList.flatMap enc ++ spare).toArray el (0, 0)) := by
    show (w.heap.modify g (onCells (putCells id 0 (flatK enc k d'))))[g]? = _
    rw [Array.getElem?_eq_getElem (by simpa using hlt), Array.getElem_modify]
    simp [hv, onCells, put_flat hk hk0 d d' hs spare]
  have ho' : ∀ j, j < w.heap.size → j ≠ g → (putRowK enc k (Go.Sort.ahead w n) g 0 d').heap[j]? = w.heap[j]? := fun j _ hne => by
    show (w.heap.modify g (onCells (putCells id 0 (flatK enc k d'))))[j]? = _
    simp [Array.getElem?_modify, Ne.symm hne]
  refine Ends.change (Ends.refl hS) rfl ⟨rfl, ?_⟩ rfl ?_ ?_ ?_
  · show w.drawn ≤ w.drawn + n
    omega
  · show w.heap.size ≤ ((putRowK enc k (Go.Sort.ahead w n) g 0 d').heap ++ os).size
    rw [Array.size_append, hsz]; omega
  · show ((putRowK enc k (Go.Sort.ahead w n) g 0 d').heap ++ os)[g]? = _
    rw [Array.getElem?_append_left (by rw [hsz]; exact hlt), hg']
  · intro j hj hne
    show ((putRowK enc k (Go.Sort.ahead w n) g 0 d').heap ++ os)[j]? = _
    rw [Array.getElem?_append_left (by rw [hsz]; exact hj), ho' j hj hne]
end Go.Eng
namespace Go.Proofs
open Go.Shelf
def Tryz.laysSlF06_f76_ren : Go.Shelf.Ren := ⟨fun | 6 => 76 | 15 => 104 | 14 => 103 | 28 => 130 | 29 => 131 | 20 => 122 | 21 => 123 | 22 => 124 | 23 => 125 | 24 => 126 | 25 => 127 | 26 => 128 | 27 => 129 | 46 => 140 | 47 => 141 | 48 => 142 | 49 => 143 | 50 => 144 | 57 => 153 | n => n, fun | 22 => 81 | 24 => 53 | 25 => 86 | 3 => 3 | 39 => 143 | 0 => 0 | 53 => 167 | 55 => 169 | 4 => 4 | 46 => 160 | 45 => 159 | 50 => 164 | 5 => 5 | 9 => 9 | 66 => 174 | 70 => 178 | 76 => 191 | 77 => 116 | n => n, fun | n => n⟩
theorem Tryz.laysSlF06_f76 : Go.Proofs.SlLaysF0.n6 Tryz.prog Tryz.laysSlF06_f76_ren := {
  mixed := by kernel_rfl
  f6 := ⟨Tryz.f76.name, by decide, Tryz.func76.trans (congrArg some (by kernel_rfl))⟩
  f14 := ⟨Tryz.f103.name, by decide, Tryz.func103.trans (congrArg some (by kernel_rfl))⟩
  f15 := Tryz.func104.trans (congrArg some (by kernel_rfl))
  f20 := ⟨Tryz.f122.name, by decide, Tryz.func122.trans (congrArg some (by kernel_rfl))⟩
  f21 := ⟨Tryz.f123.name, by decide, Tryz.func123.trans (congrArg some (by kernel_rfl))⟩
  f22 := ⟨Tryz.f124.name, by decide, Tryz.func124.trans (congrArg some (by kernel_rfl))⟩
  f23 := ⟨Tryz.f125.name, by decide, Tryz.func125.trans (congrArg some (by kernel_rfl))⟩
  f24 := ⟨Tryz.f126.name, by decide, Tryz.func126.trans (congrArg some (by kernel_rfl))⟩
  f25 := ⟨Tryz.f127.name, by decide, Tryz.func127.trans (congrArg some (by kernel_rfl))⟩
  f26 := ⟨Tryz.f128.name, by decide, Tryz.func128.trans (congrArg some (by kernel_rfl))⟩
  f27 := ⟨Tryz.f129.name, by decide, Tryz.func129.trans (congrArg some (by kernel_rfl))⟩
  f28 := Tryz.func130.trans (congrArg some (by kernel_rfl))
  f29 := Tryz.func131.trans (congrArg some (by kernel_rfl))
  f46 := ⟨Tryz.f140.name, by decide, Tryz.func140.trans (congrArg some (by kernel_rfl))⟩
  f47 := Tryz.func141.trans (congrArg some (by kernel_rfl))
  f48 := Tryz.func142.trans (congrArg some (by kernel_rfl))
  f49 := ⟨Tryz.f143.name, by decide, Tryz.func143.trans (congrArg some (by kernel_rfl))⟩
  f50 := ⟨Tryz.f144.name, by decide, Tryz.func144.trans (congrArg some (by kernel_rfl))⟩
  f57 := ⟨Tryz.f153.name, by decide, Tryz.func153.trans (congrArg some (by kernel_rfl))⟩
  t0 := Tryz.underlying0
  a0 := Tryz.isAgg0
  z0 := Tryz.sizeOf0
  v0 := Tryz.zeroValue0
  t3 := Tryz.underlying3
  a3 := Tryz.isAgg3
  z3 := Tryz.sizeOf3
  v3 := Tryz.zeroValue3
  t4 := Tryz.underlying4
  a4 := Tryz.isAgg4
  z4 := Tryz.sizeOf4
  v4 := Tryz.zeroValue4
  t5 := Tryz.underlying5
  a5 := Tryz.isAgg5
  z5 := Tryz.sizeOf5
  v5 := Tryz.zeroValue5
  t9 := Tryz.underlying9
  a9 := Tryz.isAgg9
  z9 := Tryz.sizeOf9
  v9 := Tryz.zeroValue9
  t22 := Tryz.underlying81
  a22 := Tryz.isAgg81
  z22 := Tryz.sizeOf81
  v22 := Tryz.zeroValue81
  t25 := Tryz.underlying86
  a25 := Tryz.isAgg86
  z25 := Tryz.sizeOf86
  v25 := Tryz.zeroValue86
  t39 := Tryz.underlying143
  a39 := Tryz.isAgg143
  z39 := Tryz.sizeOf143
  v39 := Tryz.zeroValue143
  t45 := Tryz.underlying159
  a45 := Tryz.isAgg159
  z45 := Tryz.sizeOf159
  v45 := Tryz.zeroValue159
  t46 := Tryz.underlying160
  a46 := Tryz.isAgg160
  z46 := Tryz.sizeOf160
  v46 := Tryz.zeroValue160
  t50 := Tryz.underlying164
  a50 := Tryz.isAgg164
  z50 := Tryz.sizeOf164
  v50 := Tryz.zeroValue164
  t53 := Tryz.underlying167
  a53 := Tryz.isAgg167
  z53 := Tryz.sizeOf167
  v53 := Tryz.zeroValue167
  t55 := Tryz.underlying169
  a55 := Tryz.isAgg169
  z55 := Tryz.sizeOf169
  v55 := Tryz.zeroValue169
  t66 := Tryz.underlying174
  a66 := Tryz.isAgg174
  z66 := Tryz.sizeOf174
  v66 := Tryz.zeroValue174
  t70 := Tryz.underlying178
  a70 := Tryz.isAgg178
  z70 := Tryz.sizeOf178
  v70 := Tryz.zeroValue178
  t76 := Tryz.underlying191
  a76 := Tryz.isAgg191
  z76 := Tryz.sizeOf191
  v76 := Tryz.zeroValue191
  t77 := Tryz.underlying116
  a77 := Tryz.isAgg116
  z77 := Tryz.sizeOf116
  v77 := Tryz.zeroValue116 }
end Go.Proofs
namespace Go.Proofs.YtdnelknieikbaaaGreat
open Tryz
open Go.Eng Go.RowKit Go.Lin Go.Sort Go.Srt
instance : Inhabited (Int × Int) := ⟨(0, 0)⟩
theorem ltP_swo : SWO (ltOf cmp2) := by
 refine ⟨fun x => ?_, fun x y z h1 h2 => ?_, fun x y z h1 h2 => ?_⟩
 ·unfold ltOf; rw [decide_eq_false_iff_not, cmp2_lt]; omega
 ·unfold ltOf at *; rw [decide_eq_true_iff, cmp2_lt] at *; omega
 ·unfold ltOf at *; rw [decide_eq_false_iff_not, cmp2_lt] at *; omega
theorem st_emp (w : World) : St w Hp.emp [] := ⟨fun g o e => (by cases e), fun m hm => (by simp at hm), fun m hm => (by simp at hm), List.Pairwise.nil⟩
theorem cmpLays (blk off size : Nat) (w : World) : CmpLays Tryz.prog 43 #[] cP 2 cmp2 blk off size w := fun m os dk _ x y =>
 (fnv (cmp_v x y Hp.emp) [] _ (st_emp _)).mono fun _ _ ⟨e, h⟩ => ⟨e, h.grown⟩
theorem sortFunc_ok (l : List (Int × Int)) (v : Value) (m h : Hp) (O : OwnL cP 2 53 m v l) (hl : l.length ≤ 1000000) :
  FnT Tryz.prog 76 #[v, .func (.func 43) #[] #[]] h [m] (fun _ h' ms' => h = h' ∧ ∃ (l' : List (Int × Int)) (m' : Hp), ms' = [m'] ∧ OwnL cP 2 53 m' v l' ∧ l'.Perm l ∧ l'.Pairwise fun a b => ¬ cmp2 b a < 0) := by
 intro w hw
 obtain ⟨⟨h1, h2⟩, hF⟩ := O
 rcases h2 with ⟨rfl, h4, rfl⟩ | ⟨g, cap, spare, rfl, rfl, e1, e2, e3⟩
 ·obtain rfl : l = [] := List.length_eq_zero_iff.1 h4
  refine (AnyF.slices_SortFunc_none Tryz.laysSlF06_f76 none 0 (.func (.func 43) #[] #[]) w).mono fun x w' ⟨e, ew⟩ => ?_
  subst ew
  exact ⟨_, h, [Hp.emp], e, Ends.refl hw, rfl, [], Hp.emp, rfl, OwnL.nil cP_len, List.Perm.refl _, List.Pairwise.nil⟩
 ·have hg : w.heap[g]? = some (.cells (l.toArray.toList.flatMap cP ++ spare).toArray 53 (0, 0)) := hw.own _ (List.mem_singleton.2 rfl) g _ (Hp.one_self _ _)
  have hlt := (Array.getElem?_eq_some_iff.1 hg).1
  refine (AnyQ.slices_SortFunc Tryz.laysSlF06_f76 2 Tryz.isAgg53 Tryz.sizeOf53 cP cP_len cP_one cmp2 ltP_swo 43 #[] g 0 cap l.toArray w call43 (cmpLays _ _ _ _) (holds_own cP_len (by omega) l.toArray spare hg) hlt (by simp; omega)).mono fun x w' ⟨e, d', n, os, P, S, ew⟩ => ?_
  subst ew
  have hsz : d'.size = l.length := by have := P.1; simpa using this
  have hE := ends_sort (enc := cP) (n := n) (el := 53) cP_len (by omega) l.toArray d' (by simpa using hsz) spare os hw
  refine ⟨_, h, _, e, hE, rfl, d'.toList, _, rfl, ⟨⟨?_, .inr ⟨g, cap, spare, ?_, rfl, ?_, ?_, e3⟩⟩, cP_len⟩, ?_, ?_⟩
  ·exact flatMap_len cP_len _
  ·have : d'.toList.length = l.length := by rw [Array.length_toList, hsz]
   rw [this]
  ·rw [List.length_append, flatMap_len cP_len, Array.length_toList, hsz, ← flatMap_len cP_len l, ← List.length_append]; exact e1
  ·rw [Array.length_toList, hsz]; exact e2
  ·have h := P.2.2
   have q1 : d'.extract 0 l.toArray.size = d' := by rw [← P.1]; simp
   have q2 : l.toArray.extract 0 l.toArray.size = l.toArray := by simp
   rw [q1, q2] at h
   exact h
  ·rw [List.pairwise_iff_getElem]
   intro i j hi hj hij
   have hi' : i < d'.size := by simpa using hi
   have hj' : j < d'.size := by simpa using hj
   have h := S i j (by omega) hij (by simp; omega)
   have q1 : d'[i]! = d'[i] := by simp [hi']
   have q2 : d'[j]! = d'[j] := by simp [hj']
   rw [q1, q2] at h
   exact of_decide_eq_false h
theorem sortedFunc_ok (g1 gT : Nat) (m : Hp) (T : List ((Int × Int) × Int)) (bs : List Nat) (h : Hp) (hG : Seg h [] ⟨g1, 0, none⟩ [.map (some gT)]) (O : OwnM kP kI gT POk m T bs) (hm : m.le h) (hT : T.length ≤ 1000000) :
  FnT Tryz.prog 41 #[.func (.func 77) #[] #[.pointer (some ⟨g1, 0, none⟩)], .func (.func 43) #[] #[]] h [] (fun r h' ms' => h.le h' ∧ ∃ (ks : List (Int × Int)) (mo : Hp), ms' = [mo] ∧ OwnL cP 2 53 mo r ks ∧ ks.Perm (T.map Prod.fst) ∧ ks.Pairwise fun a b => ¬ cmp2 b a < 0) := by
 refine fn_enter func41 ntmps41 rfl rfl (fun w0 hw0 => ?_)
 simp only [argS]
 refine RsQ (Qm rfl (RtQ (Qm rfl (wl_call rfl call75 rfl (collect_ok g1 gT m T bs h hG O hm hT) rfl rfl rfl (fun x h2 ms2 l2 hF => ?_)))))
 obtain ⟨l2', vis, mo, rfl, hp, hO⟩ := hF
 have hlen : (vis.map (keyAt T)).length ≤ 1000000 := by rw [List.length_map, hp.length_eq, List.length_range]; exact hT
 refine Qm rfl (RtQ (Qm rfl (Qm rfl (wl_call_ (pre := [mo]) rfl call76 rfl (sortFunc_ok (vis.map (keyAt T)) x mo h2 hO hlen) rfl rfl rfl rfl (fun y h3 ms3 l3 hF => ?_)))))
 obtain ⟨rfl, ks, mo2, rfl, hO2, hp2, hs⟩ := hF
 have ov : x.oneCell' = true := (hO2.rd (h := h) (ms := [mo2]) (List.Mem.head _)).rd.one
 refine RtQ (Qm rfl (Qm rfl (RnQ (ws_ret ?_))))
 exact nx_ret1 rfl rfl (⟨l2, ks, mo2, rfl, hO2, hp2.trans (by rw [← keyAt_map]; exact hp.map _), hs⟩)
end Go.Proofs.YtdnelknieikbaaaGreat
namespace Go.Proofs.YtdnelknieikbaaaGreat
open Tryz
open Go.Eng Go.RowKit Go.Lin Go.Sort Go.Srt
theorem bars_ok (Z : Zz) (vd va : Value) (h : Hp) (hO : Z.Ok) (hR : RdZ h vd va Z) :
  FnT Tryz.prog 17 #[.agg #[.int .i64 Z.p, vd, va]] h [] (fun r h' ms' => h.le h' ∧ ∃ (bl : List Iv) (m : Hp) (l : List StE), ms' = [m] ∧ OwnL cIv 3 37 m r bl ∧ l.length ≤ 20400 ∧ SpecL Z l ∧ BarsOf (fun a => (l.map StE.key).count a) bl) := by
 have o1 := hR.d.rd.one
 have o2 := hR.a.rd.one
 refine fn_enter func17 ntmps17 rfl rfl (fun w0 hw0 => ?_)
 simp only [argS]
 refine RsQ ?_
 refine wl_box [_, _, _] rfl rfl (by rfl) rfl rfl rfl (fun g1 => ?_)
 refine Qm rfl (RnQ (ws_freezeB fun h1 l1 hG1 => ?_))
 have hR := hR.up l1
 refine ws_cut (fun s hh ms' => ∃ (l : List StE) (gT : Nat) (m : Hp) (T : List ((Int × Int) × Int)) (bs : List Nat), s = [(3, .map (some gT))] ∧ h1.le hh ∧ ms' = [m] ∧ SpecL Z l ∧ l.length ≤ 20400 ∧ OwnM kP kI gT POk m T bs ∧ TC T (l.map StE.key)) ?_ (fun s h ms hI => ?_)
 ·refine ws_region (Qx (ox_loadG rfl underlying30 rfl el30 rfl rfl (Seg.any hG1)) rfl ?_)
  by_cases hRt : Z.Rt
  ·refine wl_call rfl call30 rfl (strands_ok Z vd va h1 hO hRt hR) rfl rfl rfl (fun r h2 ms2 l2 hF => ?_)
   obtain ⟨l2', N, S, e, L, m0, mB, rfl, hN, hO0, B, hp, hV, hbd, hsrt⟩ := hF
   have he : ∀ k, k < N → (e k).fr = (S k).fr ∧ (e k).to = (S k).to := fun k hk => by
    obtain ⟨x, _, h1, h2, _⟩ := B.all k hk
    exact ⟨h1, h2⟩
   have hlen := hp.length_eq
   rw [List.length_range] at hlen
   refine wl_freezeL hO0 fun h3 l3 hRr => ?_
   have hRd : Rd h3 [] r 3 N ((L.map e).flatMap cS) := by have := hRr.rd; rwa [List.length_map, hlen] at this
   have orr := hRr.rd.one
   refine wl_call rfl call40 rfl (values_v r N _ h3 hRd) rfl rfl rfl (fun q h4 ms4 l4 hF => ?_)
   obtain ⟨rfl, gv, rfl, rfl⟩ := hF
   refine wl_freezeB fun h5 l5 hGv => ?_
   refine wl_call rfl call39 rfl (counts_ok gv N r (L.map e) h5 hGv (hRr.up l5) (by rw [List.length_map, hlen]) (by omega) (key_ok hV hRt hp he)) rfl rfl rfl (fun c h6 ms6 l6 hF => ?_)
   obtain ⟨l6', gT, m, T, bs, rfl, rfl, O, C⟩ := hF
   refine Qm rfl (wl_nil (nx_top 1 rfl (nx_drop ?_)))
   exact nx_meet _ ⟨L.map e, gT, m, T, bs, rfl, Hp.le_trans l2 (Hp.le_trans l3 (Hp.le_trans l5 l6)), rfl, ⟨fun h => absurd hRt h, fun _ => ⟨N, S, e, L, rfl, hp, hV, he⟩⟩, by rw [List.length_map, hlen]; exact hN, O, C⟩ Qs
  ·refine wl_call rfl call30 rfl (strands_not Z vd va h1 hO hRt hR) rfl rfl rfl (fun r h2 ms2 l2 hF => ?_)
   obtain ⟨rfl, rfl⟩ := hF
   have hRr : RdL cS 3 h2 [] (.slice none 0 0) [] := (OwnL.nil cS_len (el := 64)).rdh (fun g o e => by cases e)
   refine wl_call rfl call40 rfl (values_v (.slice none 0 0) 0 _ h2 hRr.rd) rfl rfl rfl (fun q h4 ms4 l4 hF => ?_)
   obtain ⟨rfl, gv, rfl, rfl⟩ := hF
   refine wl_freezeB fun h5 l5 hGv => ?_
   refine wl_call rfl call39 rfl (counts_ok gv 0 (.slice none 0 0) [] h5 hGv (hRr.up l5) rfl (by omega) (fun s hs => by simp at hs)) rfl rfl rfl (fun c h6 ms6 l6 hF => ?_)
   obtain ⟨l6', gT, m, T, bs, rfl, rfl, O, C⟩ := hF
   refine Qm rfl (wl_nil ?_)
   exact nx_meet _ ⟨[], gT, m, T, bs, rfl, Hp.le_trans l2 (Hp.le_trans l5 l6), rfl, ⟨fun _ => rfl, fun h => absurd h hRt⟩, by simp, O, C⟩ Qs
 ·obtain ⟨l, gT, m, T, bs, rfl, l2, rfl, hSp, hl, O, C⟩ := hI
  obtain ⟨hc1, hc2⟩ := tc_len C O.keys
  rw [List.length_map] at hc2
  refine RsQ (Qm rfl (RnQ (ws_lend fun h3 l3 lm _ _ => (ws_seq (RsQ (Qm rfl (wl_call rfl call42 rfl (keys_v (some gT) h3) rfl rfl rfl (fun q h4 ms4 l4 hF => ?_))))))))
  obtain ⟨rfl, gk, rfl, rfl⟩ := hF
  refine wl_freezeB fun h5 l5 hGk => ?_
  have lm := Hp.le_trans lm l5
  refine wl_call rfl call41 rfl (sortedFunc_ok gk gT m T bs h5 hGk O lm (by omega)) rfl rfl rfl (fun ks0 h6 ms6 l6 hF => ?_)
  obtain ⟨l6', ks, mk, rfl, hOk, hpk, hsk⟩ := hF
  have hklen : ks.length = T.length := by rw [hpk.length_eq, List.length_map]
  have hRdk : ∀ h' (ms : List Hp), mk ∈ ms → Rd h' ms ks0 2 ks.length (ks.flatMap cP) := fun h' ms hm => (hOk.rd (h := h') hm).rd
  refine Qx (ox_lenR (hRdk _ _ (List.Mem.head _)) rfl underlying81 rfl) rfl (Qm rfl (RnQ (ws_block (ws_freezeL hOk fun h7 l7 hRk => ?_))))
  have lm := Hp.le_trans lm (Hp.le_trans l6 l7)
  refine ws_emp ?_
  refine ws_loop (fun n s hh ms' => ∃ (i : Nat) (vo : Value) (mo : Hp), n = ks.length - i ∧ s = [(3, .map (some gT)), (4, vo), (13, ks0), (14, .int .i64 ks.length), (15, .int .i64 i)] ∧ h7.le hh ∧ ms' = [mo] ∧ i ≤ ks.length ∧ OwnL cIv 3 37 mo vo ((ks.take i).map fun a => ⟨a.1, a.2, (((l.map StE.key).count a : Nat) : Int)⟩))
   (ks.length - 0) _ ⟨0, _, _, rfl, rfl, Hp.le_refl _, rfl, by omega, OwnL.nil cIv_len⟩ Qs ?_
  rintro n s hh ms' ⟨i, vo, mo, rfl, rfl, lh, rfl, hi, hO⟩
  have hRk := hRk.up lh
  have lm := Hp.le_trans lm lh
  refine RsQ (Qx (ox_lss rfl rfl rfl) rfl (RnQ (ws_seq ?_)))
  refine ws_if rfl (fun hlt => ?_) (fun hlt => ?_)
  ·have hil : i < ks.length := nat_lt_of hlt
   refine ws_skip (nx_then ?_)
   refine ws_cut (fun s hh2 ms' => ∃ (vo : Value) (mo : Hp), s = [(3, .map (some gT)), (4, vo), (13, ks0), (14, .int .i64 ks.length), (15, .int .i64 i)] ∧ hh.le hh2 ∧ ms' = [mo] ∧ OwnL cIv 3 37 mo vo ((ks.take (i + 1)).map fun a => ⟨a.1, a.2, (((l.map StE.key).count a : Nat) : Int)⟩)) ?_ (fun s h ms hI => ?_)
   ·have hseg : ∀ ms, Seg hh ms ((vbase ks0).add (i * 2)) (cP ks[i]) := fun ms => (hRk.any (ms := ms)).seg hil
    have hmem : ks[i] ∈ T.map Prod.fst := hpk.mem_iff.1 (List.getElem_mem hil)
    have hpo : POk ks[i] := by
     obtain ⟨p, hp, e⟩ := List.mem_map.1 hmem
     rw [← e]; exact O.ok p hp
    have hll : ((ks.take i).map fun a => (⟨a.1, a.2, (((l.map StE.key).count a : Nat) : Int)⟩ : Iv)).length ≤ 100000 := by rw [List.length_map, List.length_take]; omega
    refine ws_block (RsQ (Qx (ox_indexR _ hRk.rd.any rfl underlying81 el53 rfl rfl rfl (by omega)) rfl (Qx (ox_loadG rfl underlying53 rfl el53 rfl rfl (hseg _)) rfl (AlQ [.int .i64 0, .int .i64 0] rfl el53 rfl rfl (fun g6 => ?_)))))
    refine wl_storeAll 0 [_, _] rfl el53 rfl rfl rfl (by (simp [Value.oneCell']; done)) rfl rfl rfl rfl rfl ?_
    refine RnQ (ws_freezeB fun h8 l8 hG6 => ?_)
    have hA6 := Seg.all hG6
    have lm := Hp.le_trans lm l8
    have hcnt := C.cnt ks[i]
    refine ws_stab (n := 12) (bs := [true, true, true, true, true, true, true, true, true, false, false, false]) [true, true, true, true, true, true, true, true, true] fol (by kernel_rfl) (by kernel_rfl) rfl rfl (Qp rfl (ox_move rfl rfl) (Qp rfl (ox_indexA 0 rfl underlying53 el3 rfl rfl rfl (by omega)) (Qp rfl (ox_load rfl underlying3 rfl rfl (hA6 0 _ rfl _)) (Qp rfl (ox_indexA 1 rfl underlying53 el3 rfl rfl rfl (by omega)) (Qp rfl (ox_load rfl underlying3 rfl rfl (hA6 1 _ rfl _)) (Qp rfl (ox_move rfl rfl) (Qp rfl (ox_loadG rfl underlying53 rfl el53 rfl rfl (Seg.any hG6)) (Qp rfl (ox_lookupF (V := kI) (z := (0 : Int)) ks[i] pairKeys O lm rfl underlying51 zero3P rfl rfl hpo) ?_))))))))
    refine Qp rfl (ox_buildS st37 [.int .i64 0, .int .i64 0, .int .i64 0] [(0, _), (1, _), (2, _)] [_, _, _] rfl el37 rfl rfl (by repeat (first | exact trivial | refine ⟨⟨rfl, rfl, rfl⟩, ?_⟩)) rfl) ?_
    unfold PZs
    simp only [List.cons_append, List.nil_append]
    refine Qo 9 rfl ?_
    refine wl_buildSlice1 [_, _, _] rfl underlying33 el37 rfl (by rfl) rfl rfl (by omega) rfl rfl rfl (fun g28 => ?_)
    refine Qw (Qo 10 rfl ?_)
    refine wl_appendL 1 hO (RdL.one cIv_len (x := ⟨ks[i].1, ks[i].2, (getK T ks[i]).getD 0⟩) (List.Mem.head _) rfl) rfl underlying33 el37 rfl (by omega) rfl rfl rfl cIv_one (by simp only [List.length_singleton]; omega) (by simp only [List.length_singleton]; omega) rfl rfl rfl (fun vo2 mo2 hO2 => ?_)
    refine Qw (Qo 11 rfl (Qm rfl (Qw (Qe (nx_block (nx_drop ?_))))))
    exact nx_meet _ ⟨vo2, mo2, rfl, l8, rfl, by rw [hcnt] at hO2; rw [List.take_succ_eq_append_getElem hil, List.map_append]; exact hO2⟩ Qs
   ·obtain ⟨vo2, mo2, rfl, l8, rfl, hO2⟩ := hI
    refine ws_region (Qx (ox_add rfl rfl rfl (by omega)) rfl (Qm rfl (wl_nil ?_)))
    exact nx_round (ks.length - (i + 1)) _ (by omega) ⟨i + 1, vo2, mo2, rfl, rfl, Hp.le_trans lh l8, rfl, by omega, hO2⟩ Qs
  ·obtain rfl : i = ks.length := by omega
   rw [List.take_length] at hO
   have ov : vo.oneCell' = true := (hO.rd (h := h) (ms := [mo]) (List.Mem.head _)).rd.one
   refine ws_exit (nx_then_exit (nx_then_exit (nx_block_exit (nx_then (RsQ (Qm rfl (Qm rfl (RnQ (ws_ret ?_)))))))))
   have hnd : ks.Nodup := hpk.nodup_iff.2 O.keys
   have hstr : ks.Pairwise fun a b => cmp2 a b < 0 := (hsk.and hnd).imp fun {a b} ⟨h1, h2⟩ => by
    rw [cmp2_lt] at h1 ⊢
    refine Classical.byContradiction fun h3 => h2 (Prod.ext ?_ ?_) <;> omega
   exact nx_ret1 rfl rfl (⟨Hp.le_trans l1 (Hp.le_trans l2 (Hp.le_trans l3 (Hp.le_trans l5 (Hp.le_trans l6 (Hp.le_trans l7 lh))))), _, mo, l, rfl, hO, hl, hSp, ks, rfl, hstr, fun a => by rw [hpk.mem_iff, hc1]⟩)
end Go.Proofs.YtdnelknieikbaaaGreat
namespace Go.Proofs.YtdnelknieikbaaaGreat
open Tryz
open Go.Eng Go.RowKit Go.Lin Go.Sort Go.Srt
theorem eqf_ints {P : Program} {d : Nat} (hu : P.underlying 3 = some (.int .i64)) (hp : P.plainKey 3 = true) (X Y : Array Value) (x y : Nat → Int) (w : World) : ∀ (fs : List Field) (os : List Nat), fs.map (fun f => (decide (f.name ≠ "_"), f.type, f.offset)) = os.map (fun o => (true, 3, o)) → (∀ o ∈ os, X[o]? = some (.int .i64 (x o)) ∧ Y[o]? = some (.int .i64 (y o))) → (Op.eqFields (d + 1) X Y fs).run P w = .ok (os.all fun o => x o == y o) w
 | [], [], _, _ => by simp [Op.eqFields]
 | [], o :: os, h, _ => by simp at h
 | f :: fs, [], h, _ => by simp at h
 | f :: fs, o :: os, h, hc => by
  simp only [List.map_cons, List.cons.injEq, Prod.mk.injEq] at h
  obtain ⟨⟨h1, h2, h3⟩, h4⟩ := h
  have ih := eqf_ints (d := d) hu hp X Y x y w fs os h4 fun a ha => hc a (List.mem_cons_of_mem _ ha)
  obtain ⟨c1, c2⟩ := hc o (List.Mem.head _)
  unfold Op.eqFields
  rw [if_pos (of_decide_eq_true h1), h2, h3]
  simp only [Sem.run_bind, run_part_plain w hp c1, run_part_plain w hp c2, Result.andThen_ok, run_equalIn_int w d 3 .i64 .i64 _ _ hu]
  cases e : x o == y o
  ·simp [e]
  ·simp [e, ih]
theorem flds37 : (Tryz.prog.fieldsOf 37).toList.map (fun f => (decide (f.name ≠ "_"), f.type, f.offset)) = [0, 1, 2].map (fun o => (true, 3, o)) := by kernel_rfl
theorem pk3 : Tryz.prog.plainKey 3 = true := by kernel_rfl
theorem eg37 : Tryz.prog.eqGuardType Tryz.prog.depth 37 = false := by kernel_rfl
theorem und37 : Tryz.prog.underlying 37 = some (.struct (Tryz.prog.fieldsOf 37)) := by kernel_rfl
theorem sih37 : Tryz.prog.stoodInHeld 37 = false := by kernel_rfl
theorem ox_neIv {o : Oper} {s : Slots} {h : Hp} {ms : List Hp} {x y : Operand} {u : TypeId} (a b : Iv) (ho : o.op = .binOp .neq 37 x y u) (hx : ev s x = some (.agg (cIv a).toArray)) (hy : ev s y = some (.agg (cIv b).toArray)) : OX Tryz.prog o s h ms (.bool (decide (a ≠ b))) :=
 ox_of fun ρ w hρ _ => by
  have h1 : (Op.equalIn 10000 37 (.agg (cIv a).toArray) (.agg (cIv b).toArray)).run Tryz.prog w = .ok (decide (a = b)) w := by
   have h2 : (Op.eqFields (9998 + 1) (cIv a).toArray (cIv b).toArray (Tryz.prog.fieldsOf 37).toList).run Tryz.prog w = _ := eqf_ints (d := 9998) underlying3 pk3 (cIv a).toArray (cIv b).toArray (fun o => match o with | 0 => a.fr | 1 => a.to | _ => a.n) (fun o => match o with | 0 => b.fr | 1 => b.to | _ => b.n) w _ _ flds37 fun o ho => by
    simp only [List.mem_cons, List.not_mem_nil, or_false] at ho
    rcases ho with rfl | rfl | rfl <;> exact ⟨rfl, rfl⟩
   rw [run_equalIn_agg w 9999 37 _ _ und37 sih37, h2]
   congr 1
   obtain ⟨a1, a2, a3⟩ := a
   obtain ⟨b1, b2, b3⟩ := b
   rw [Bool.eq_iff_iff, decide_eq_true_iff, Iv.mk.injEq]
   show ((a1 == b1) && ((a2 == b2) && ((a3 == b3) && true))) = true ↔ _
   simp only [Bool.and_true, Bool.and_eq_true, beq_iff_eq]
  have e : (!decide (a = b)) = decide (a ≠ b) := by simp
  simp only [execOp, ho, hρ _ _ hx, hρ _ _ hy]
  simp only [Sem.run_bind, run_eqGuard_agg w _ _ _ _ _ _ eg37, run_neq_struct, h1, e, Result.andThen_ok, Sem.run_pure]
theorem sameI_v (a b : List Iv) (va vb : Value) (h : Hp) (hA : RdL cIv 3 h [] va a) (hB : RdL cIv 3 h [] vb b) (ms : List Hp) : FnV Tryz.prog 16 #[va, vb] h ms (.bool (decide (a = b))) := by
 refine fnv ?_ ms
 have la := hA.len_le
 have lb := hB.len_le
 refine fn_enter func16 ntmps16 rfl rfl (fun w0 hw0 => ?_)
 simp only [argS]
 refine RsQ (Qm rfl (RnQ (ws_seq (RsQ (Qm rfl (Qx (ox_lenR hA.rd.any rfl underlying33 rfl) rfl (Qm rfl (Qx (ox_lenR hB.rd.any rfl underlying33 rfl) rfl (Qx (ox_nei rfl rfl rfl) rfl (RnQ ?_))))))))))
 refine ws_if rfl (fun hne => ?_) (fun hne => ?_)
 ·refine ws_seq (ws_region (Qm rfl (RnQ (ws_ret (nx_then_ret ?_)))))
  exact nx_ret1 rfl rfl (by rw [decide_eq_false]; intro e; rw [e] at hne; exact hne rfl)
 ·have hl : a.length = b.length := by omega
  refine ws_skip (nx_then (ws_seq (RsQ (Qm rfl (RnQ (ws_block ?_))))))
  refine ws_loop (fun q s h' ms' => ∃ (k : Nat), q = a.length - k ∧ s = [(0, va), (1, vb), (5, .int .i64 k)] ∧ h = h' ∧ ms' = [] ∧ k ≤ a.length ∧ a.take k = b.take k)
   (a.length - 0) _ ⟨0, rfl, rfl, rfl, rfl, by omega, rfl⟩ Qs ?_
  rintro q s h' ms' ⟨k, rfl, rfl, rfl, rfl, hk, he⟩
  refine ws_seq (RsQ (Qm rfl (Qm rfl (Qx (ox_lenR hA.rd.any rfl underlying33 rfl) rfl (Qx (ox_lss rfl rfl rfl) rfl (RnQ ?_))))))
  refine ws_if rfl (fun hlt => ?_) (fun hlt => ?_)
  ·have hka : k < a.length := nat_lt_of hlt
   have hkb : k < b.length := by omega
   have ca : ∀ ms, Seg h ms ((vbase va).add (k * 3)) (cIv a[k]) := fun ms => (hA.any (ms := ms)).seg hka
   have cb : ∀ ms, Seg h ms ((vbase vb).add (k * 3)) (cIv b[k]) := fun ms => (hB.any (ms := ms)).seg hkb
   refine ws_skip (nx_then (ws_seq (ws_block (ws_seq (ws_draw 8 fol (by kernel_rfl) rfl (wr_x (ox_move rfl rfl) rfl rfl (wr_x (ox_move rfl rfl) rfl rfl (wr_x (ox_indexR (k) hA.rd.any rfl underlying33 el37 rfl rfl (by omega) (by omega)) rfl rfl (wr_x (ox_loadG rfl underlying37 rfl el37 rfl rfl (ca _)) rfl rfl (wr_x (ox_move rfl rfl) rfl rfl (wr_x (ox_move rfl rfl) rfl rfl (wr_x (ox_indexR (k) hB.rd.any rfl underlying33 el37 rfl rfl (by omega) (by omega)) rfl rfl (wr_x (ox_loadG rfl underlying37 rfl el37 rfl rfl (cb _)) rfl rfl (wr_nil (Qx (ox_neIv a[k] b[k] rfl rfl rfl) rfl (RnQ ?_))))))))))))))))
   refine ws_if rfl (fun hne => ?_) (fun hne => ?_)
   ·refine ws_seq (ws_region (Qm rfl (RnQ (ws_ret (nx_block_ret (nx_then_ret (nx_then_ret (nx_block_ret (nx_then_ret ?_)))))))))
    exact nx_ret1 rfl rfl (by rw [decide_eq_false]; rintro rfl; exact hne rfl)
   ·refine ws_skip (nx_block (nx_then (ws_region (Qm rfl (Qx (ox_add rfl rfl rfl (by omega)) rfl (Qm rfl (wl_nil ?_)))))))
    refine nx_round (a.length - (k + 1)) _ (by omega) ⟨k + 1, rfl, rfl, rfl, rfl, by omega, ?_⟩ Qs
    rw [List.take_add_one, List.take_add_one, he, List.getElem?_eq_getElem hka, List.getElem?_eq_getElem hkb, Decidable.not_not.1 hne]
  ·obtain rfl : k = a.length := by omega
   refine ws_exit (nx_then_exit (nx_then_exit (nx_block_exit (nx_then (RsQ (Qm rfl (RnQ (ws_ret ?_))))))))
   exact nx_ret1 rfl rfl (by rw [List.take_length, hl, List.take_length] at he; rw [decide_eq_true he])
end Go.Proofs.YtdnelknieikbaaaGreat
set_option maxHeartbeats 2000000
namespace Go.Proofs.YtdnelknieikbaaaGreat
open Tryz
open Go.Eng Go.RowKit Go.Lin Go.Sort Go.Srt
def wantL (l : List Int) (m : Nat) : List Iv := (List.range m).map fun i => ⟨l.getD (2 * i) 0, l.getD (2 * i + 1) 0, 1⟩
theorem same_t {a b : List Iv} {va vb : Value} {h : Hp} (hA : RdL cIv 3 h [] va a) (hB : RdL cIv 3 h [] vb b) (e : a = b) (ms : List Hp) : FnV Tryz.prog 16 #[va, vb] h ms (.bool true) := by
 have := sameI_v a b va vb h hA hB ms
 rwa [decide_eq_true e] at this
theorem rcheck_t {Z : Zz} {vd va vl : Value} {l : List SV} {h : Hp} (hR : RdZ h vd va Z) (hL : RdSs h vl l) (hN : l.length ≤ 1000000) (hC : ChkP Z l) (ms : List Hp) : FnV Tryz.prog 31 #[.agg #[.int .i64 Z.p, vd, va], vl] h ms (.bool true) := by
 have := fnv (rcheck_ok Z vd va l vl h hC.1.ok hR hL hN) ms
 rwa [bl_t hC] at this
theorem is_ok (Z : Zz) (vd va : Value) (l : List Int) (vl : Value) (m : Nat) (D : Dc) (h : Hp) (hRt : Z.Rt) (hR : RdZ h vd va Z) (hL : RdL cI 1 h [] vl l) (hl : l.length = 2 * m) (hm : m ≤ 100) (V : Valid Z.zg D) (hB : BarsOf D.ct (wantL l m)) : FnT Tryz.prog 36 #[.agg #[.int .i64 Z.p, vd, va], vl] h [] (fun r h' ms' => r = .bool true ∧ ms' = []) := by
 have o1 := hR.d.rd.one
 have o2 := hR.a.rd.one
 have hO := hRt.ok
 refine fn_enter func36 ntmps36 rfl rfl (fun w0 hw0 => ?_)
 simp only [argS]
 refine RsQ ?_
 refine wl_box [_, _, _] rfl rfl (by rfl) rfl rfl rfl (fun g2 => ?_)
 refine Qm rfl (RnQ (ws_freezeB fun h1 l1 hS => ?_))
 have hR := hR.up l1
 have hL := hL.up l1
 refine RsQ (Qm rfl (RnQ (ws_seq (RsQ (Qm rfl (RnQ (ws_block (ws_emp ?_))))))))
 refine ws_loop (fun q sl hh ms' => ∃ (i : Nat) (vo : Value) (mo : Hp), q = m - i ∧ sl = [(1, vl), (2, .pointer (some ⟨g2, 0, none⟩)), (5, vo), (6, .int .i64 ((2 * i + 1 : Nat) : Int))] ∧ h1 = hh ∧ ms' = [mo] ∧ i ≤ m ∧ OwnL cIv 3 37 mo vo (wantL l i))
  (m - 0) _ ⟨0, _, _, rfl, rfl, rfl, rfl, by omega, OwnL.nil cIv_len⟩ Qs ?_
 rintro q sl hh ms' ⟨i, vo, mo, rfl, rfl, rfl, rfl, hi, hOw⟩
 refine ws_seq (RsQ (Qm rfl (Qm rfl (Qx (ox_lenR hL.rd.any rfl underlying24 rfl) rfl (Qx (ox_lss rfl rfl rfl) rfl (RnQ ?_))))))
 refine ws_if rfl (fun hlt => ?_) (fun hlt => ?_)
 ·have him : i < m := by omega
  have h0 : 2 * i < l.length := by omega
  have hk1 : 2 * i + 1 < l.length := by omega
  have hwl : (wantL l i).length ≤ 100 := by simp [wantL]; omega
  have hw : wantL l (i + 1) = wantL l i ++ [⟨l[2 * i], l[2 * i + 1], 1⟩] := by
   unfold wantL
   rw [List.range_succ, List.map_append, List.map_singleton, getD_I h0, getD_I hk1]
  refine ws_skip (nx_then ?_)
  refine ws_cut (fun sl hh ms' => ∃ (vo : Value) (mo : Hp), sl = [(1, vl), (2, .pointer (some ⟨g2, 0, none⟩)), (5, vo), (6, .int .i64 ((2 * i + 1 : Nat) : Int))] ∧ h1 = hh ∧ ms' = [mo] ∧ OwnL cIv 3 37 mo vo (wantL l (i + 1))) ?_ (fun s h ms hI => ?_)
  ·refine ws_block (ws_stab (n := 14) (bs := [true, true, true, true, true, true, true, true, true, true, true, false, false, false]) [true, true, true, true, true, true, true, true, true, true, true] fol (by kernel_rfl) (by kernel_rfl) rfl rfl (Qp rfl (ox_move rfl rfl) (Qp rfl (ox_move rfl rfl) (Qp rfl (ox_move rfl rfl) (Qp rfl (ox_sub rfl rfl rfl (by omega)) (Qp rfl (ox_indexR (2 * i) hL.rd.any rfl underlying24 el3 rfl rfl (by omega) (by omega)) (Qp rfl (ox_load rfl underlying3 rfl rfl (hL.any.cell0 h0 rfl)) (Qp rfl (ox_move rfl rfl) (Qp rfl (ox_move rfl rfl) (Qp rfl (ox_indexR (2 * i + 1) hL.rd.any rfl underlying24 el3 rfl rfl (by omega) (by omega)) (Qp rfl (ox_load rfl underlying3 rfl rfl (hL.any.cell0 hk1 rfl)) ?_)))))))))))
   refine Qp rfl (ox_buildS st37 [.int .i64 0, .int .i64 0, .int .i64 0] [(0, _), (1, _), (2, _)] [_, _, _] rfl el37 rfl rfl (by repeat (first | exact trivial | refine ⟨⟨rfl, rfl, rfl⟩, ?_⟩)) rfl) ?_
   unfold PZs
   simp only [List.cons_append, List.nil_append]
   refine Qo 11 rfl ?_
   refine wl_buildSlice1 [_, _, _] rfl underlying33 el37 rfl (by rfl) rfl rfl (by omega) rfl rfl rfl (fun g24 => ?_)
   refine Qw (Qo 12 rfl ?_)
   refine wl_appendL 1 hOw (RdL.one cIv_len (x := ⟨l[2 * i], l[2 * i + 1], 1⟩) (List.Mem.head _) rfl) rfl underlying33 el37 rfl (by omega) rfl rfl rfl cIv_one (by simp only [List.length_singleton]; omega) (by simp only [List.length_singleton]; omega) rfl rfl rfl (fun vo2 mo2 hO2 => ?_)
   refine Qw (Qo 13 rfl (Qm rfl (Qw (Qe (nx_block (nx_drop ?_))))))
   exact nx_meet _ ⟨vo2, mo2, rfl, rfl, rfl, by rw [hw]; exact hO2⟩ Qs
  ·obtain ⟨vo2, mo2, rfl, rfl, rfl, hO2⟩ := hI
   refine ws_region (Qm rfl (Qx (ox_add rfl rfl rfl (by omega)) rfl (Qm rfl (wl_nil ?_))))
   exact nx_round (m - (i + 1)) _ (by omega) ⟨i + 1, vo2, mo2, rfl, rfl, rfl, rfl, by omega, hO2⟩ Qs
 ·obtain rfl : i = m := by omega
  have ovo : vo.oneCell' = true := (hOw.rd (h := h) (ms := [mo]) (List.Mem.head _)).rd.one
  refine ws_exit (nx_then_exit (nx_then_exit (nx_block_exit (nx_then (ws_freezeL hOw fun h3 l3 hRw => ?_)))))
  have hR := hR.up l3
  have hS := hS.le l3
  refine ws_seq (ws_stab (n := 11) (bs := [true, false, true, false, false, false, false, false, false, false, false]) [true, false, true] fol (by kernel_rfl) (by kernel_rfl) rfl rfl (Qp rfl (ox_loadG rfl underlying30 rfl el30 rfl rfl (Seg.any hS)) (Qp rfl (ox_move rfl rfl) ?_)))
  unfold PZs
  simp only [List.cons_append, List.nil_append]
  refine Qo 1 rfl (wl_call rfl call17 rfl (bars_ok Z vd va h3 hO hR) rfl rfl rfl (fun rb h4 ms4 l4 hF => ?_))
  obtain ⟨l4', bl, mb, lst, rfl, hOb, hlb, hSp, hBs⟩ := hF
  refine wl_freezeL hOb fun h5 l5 hRb => ?_
  have l35 := Hp.le_trans l4 l5
  have hRw5 := hRw.up l35
  have hR5 := hR.up l35
  refine Qa (Qo 3 rfl (Qx (ox_call rfl call16 rfl (same_t hRb hRw5 (is_bars_uniq hRt V (bars_is hSp hBs) hB) _)) rfl (Qa (wb_float 4 30 (by kernel_rfl) rfl (by assumption) rfl (ox_move rfl rfl) (wb_step [5, 6] (by kernel_rfl) rfl ?_)))))
  refine wbl_cons rfl ?_ ?_
  ·refine Qg (ox_loadG rfl underlying30 rfl el30 rfl rfl (Seg.any (hS.le l35))) rfl (Qa (Qo 6 rfl (Qg (ox_loadG rfl underlying30 rfl el30 rfl rfl (Seg.any (hS.le l35))) rfl (Qa (Qo 7 rfl (wl_yes rfl rfl rfl rfl (wl_call rfl call30 rfl (strands_ok Z vd va h5 hO hRt hR5) rfl rfl rfl (fun rs h6 ms6 l6 hF => ?_))))))))
   obtain ⟨l6', N, S, e, L, ml, mB, rfl, hN, hOl, hBg, hp, hV2, hbd, _⟩ := hF
   refine wl_freezeM fun h7 l7 k7 => (wl_freezeM fun h8 l8 k8 => ?_)
   have l58 := Hp.le_trans l6 (Hp.le_trans l7 l8)
   have l38 := Hp.le_trans l35 l58
   have hR8 := hR5.up l58
   obtain ⟨ls, hle, hRs, hCk⟩ := strands_sv hRt hOl (Hp.le_trans k7 l8) hBg k8 hp hV2 hbd
   have hlen : ls.length ≤ 1000000 := by (have := congrArg List.length hle; have := hp.length_eq; simp at *; omega)
   refine Qa (Qo 8 rfl (Qg (ox_call rfl call31 rfl (rcheck_t hR8 hRs hlen hCk _)) rfl (Qa (Qo 9 rfl (Qx (ox_pick_t rfl rfl rfl) rfl (Qa (Qo 10 rfl (Qm rfl (Qa (Qe (nx_then (ws_ret ?_))))))))))))
   exact nx_ret1 rfl rfl ⟨rfl, rfl⟩
  refine wbl_cons rfl ?_ ?_
  ·refine Qg (ox_loadG rfl underlying30 rfl el30 rfl rfl (Seg.any (hS.le l35))) rfl (Qa (wb_step [5, 7] (by kernel_rfl) rfl ?_))
   refine wbl_cons rfl ?_ ?_
   ·refine Qg (ox_loadG rfl underlying30 rfl el30 rfl rfl (Seg.any (hS.le l35))) rfl (Qa (Qo 7 rfl (wl_yes rfl rfl rfl rfl (wl_call rfl call30 rfl (strands_ok Z vd va h5 hO hRt hR5) rfl rfl rfl (fun rs h6 ms6 l6 hF => ?_)))))
    obtain ⟨l6', N, S, e, L, ml, mB, rfl, hN, hOl, hBg, hp, hV2, hbd, _⟩ := hF
    refine wl_freezeM fun h7 l7 k7 => (wl_freezeM fun h8 l8 k8 => ?_)
    have l58 := Hp.le_trans l6 (Hp.le_trans l7 l8)
    have l38 := Hp.le_trans l35 l58
    have hR8 := hR5.up l58
    obtain ⟨ls, hle, hRs, hCk⟩ := strands_sv hRt hOl (Hp.le_trans k7 l8) hBg k8 hp hV2 hbd
    have hlen : ls.length ≤ 1000000 := by (have := congrArg List.length hle; have := hp.length_eq; simp at *; omega)
    refine Qa (Qo 8 rfl (Qg (ox_call rfl call31 rfl (rcheck_t hR8 hRs hlen hCk _)) rfl (Qa (Qo 9 rfl (Qx (ox_pick_t rfl rfl rfl) rfl (Qa (Qo 10 rfl (Qm rfl (Qa (Qe (nx_then (ws_ret ?_))))))))))))
    exact nx_ret1 rfl rfl ⟨rfl, rfl⟩
   refine wbl_cons rfl ?_ ?_
   ·refine wl_yes rfl rfl rfl rfl (wl_call rfl call30 rfl (strands_ok Z vd va h5 hO hRt hR5) rfl rfl rfl (fun rs h6 ms6 l6 hF => ?_))
    obtain ⟨l6', N, S, e, L, ml, mB, rfl, hN, hOl, hBg, hp, hV2, hbd, _⟩ := hF
    refine wl_freezeM fun h7 l7 k7 => (wl_freezeM fun h8 l8 k8 => ?_)
    have l58 := Hp.le_trans l6 (Hp.le_trans l7 l8)
    have l38 := Hp.le_trans l35 l58
    have hR8 := hR5.up l58
    obtain ⟨ls, hle, hRs, hCk⟩ := strands_sv hRt hOl (Hp.le_trans k7 l8) hBg k8 hp hV2 hbd
    have hlen : ls.length ≤ 1000000 := by (have := congrArg List.length hle; have := hp.length_eq; simp at *; omega)
    refine Qa (Qo 5 rfl (Qg (ox_loadG rfl underlying30 rfl el30 rfl rfl (Seg.any (hS.le l38))) rfl (Qa (Qo 8 rfl (Qg (ox_call rfl call31 rfl (rcheck_t hR8 hRs hlen hCk _)) rfl (Qa (Qo 9 rfl (Qx (ox_pick_t rfl rfl rfl) rfl (Qa (Qo 10 rfl (Qm rfl (Qa (Qe (nx_then (ws_ret ?_)))))))))))))))
    exact nx_ret1 rfl rfl ⟨rfl, rfl⟩
   exact wbl_nil
  exact wbl_nil
end Go.Proofs.YtdnelknieikbaaaGreat
namespace Go.Proofs.YtdnelknieikbaaaGreat
open Tryz
open Go.Eng Go.RowKit Go.Lin Go.Sort Go.Srt
theorem is_t {Z : Zz} {vd va : Value} {l : List Int} {vl : Value} (m : Nat) {ks : List (Int × Int)} {h : Hp} (E : Ex Z ks) (hR : RdZ h vd va Z) (hL : RdL cI 1 h [] vl l) (hl : l.length = 2 * m) (hm : m ≤ 100) (hw : ks.map (fun a => (⟨a.1, a.2, 1⟩ : Iv)) = wantL l m) (ms : List Hp) : FnV Tryz.prog 36 #[.agg #[.int .i64 Z.p, vd, va], vl] h ms (.bool true) := by
 obtain ⟨hRt, D, V, hB⟩ := E
 rw [hw] at hB
 exact fnv ((is_ok Z vd va l vl m D h hRt hR hL hl hm V hB).mono fun r h' ms' e => e.1) ms
theorem sanity_ok (h : Hp) : FnT Tryz.prog 14 #[] h [] (fun r h' ms' => r = .bool true) := by
 refine fn_enter func14 ntmps14 rfl rfl (fun w0 hw0 => ?_)
 simp only [argS]
 refine RsQ (Qm rfl (RtQ ?_))
 refine wl_buildSlice [(0, _), (1, _)] [.int .i64 0, .int .i64 0] [_, _] rfl underlying24 el3 rfl (by omega) (by kernel_rfl) (by repeat (first | exact trivial | refine ⟨⟨by rfl, rfl, rfl⟩, ?_⟩)) rfl rfl rfl rfl (fun g1 => ?_)
 refine wl_freezeL (OwnL.blk (g := g1) (el := 3) (F := cI) (l := [1, 1]) 2 cI_len rfl (by omega)) fun h1 l1 hL1 => (wl_call rfl call37 rfl (lone_ok [1, 1] _ h1 hL1 (by decide) (by decide)) rfl rfl rfl (fun r2 h2 ms2 l2 hF => ?_))
 obtain ⟨l2', rfl, Z, vd, va, rfl, hRZ, e1, e2, e3⟩ := hF
 refine wl_buildSlice [(0, _), (1, _)] [.int .i64 0, .int .i64 0] [_, _] rfl underlying24 el3 rfl (by omega) (by kernel_rfl) (by repeat (first | exact trivial | refine ⟨⟨by rfl, rfl, rfl⟩, ?_⟩)) rfl rfl rfl rfl (fun g3 => ?_)
 refine wl_freezeL (OwnL.blk (g := g3) (el := 3) (F := cI) (l := [0, 2]) (2 * 1) cI_len rfl (by omega)) fun h3 l3 hL3 => (Qx (ox_call rfl call36 rfl (is_t 1 (ex1 e1 e2 e3) (hRZ.up l3) hL3 rfl (by omega) rfl _)) rfl (Qm rfl (wl_yes rfl rfl rfl rfl ?_)))
 refine wl_buildSlice [(0, _), (1, _)] [.int .i64 0, .int .i64 0] [_, _] rfl underlying24 el3 rfl (by omega) (by kernel_rfl) (by repeat (first | exact trivial | refine ⟨⟨by rfl, rfl, rfl⟩, ?_⟩)) rfl rfl rfl rfl (fun g6 => ?_)
 refine wl_freezeL (OwnL.blk (g := g6) (el := 3) (F := cI) (l := [1, 9]) 2 cI_len rfl (by omega)) fun h1 l1 hL1 => (wl_yes rfl rfl rfl rfl (wl_call rfl call37 rfl (lone_ok [1, 9] _ h1 hL1 (by decide) (by decide)) rfl rfl rfl (fun r2 h2 ms2 l2 hF => ?_)))
 obtain ⟨l2', rfl, Z, vd, va, rfl, hRZ, e1, e2, e3⟩ := hF
 refine wl_yes rfl rfl rfl rfl ?_
 refine wl_buildSlice [(0, _), (1, _), (2, _), (3, _)] [.int .i64 0, .int .i64 0, .int .i64 0, .int .i64 0] [_, _, _, _] rfl underlying24 el3 rfl (by omega) (by kernel_rfl) (by repeat (first | exact trivial | refine ⟨⟨by rfl, rfl, rfl⟩, ?_⟩)) rfl rfl rfl rfl (fun g8 => ?_)
 refine wl_freezeL (OwnL.blk (g := g8) (el := 3) (F := cI) (l := [0, 1, 2, 2]) (2 * 2) cI_len rfl (by omega)) fun h3 l3 hL3 => (Qg (ox_call rfl call36 rfl (is_t 2 (ex2 e1 e2 e3) (hRZ.up l3) hL3 rfl (by omega) rfl _)) rfl (Qx (ox_pick_t rfl rfl rfl) rfl (Qm rfl (wl_yes rfl rfl rfl rfl ?_))))
 refine wl_buildSlice [(0, _), (1, _)] [.int .i64 0, .int .i64 0] [_, _] rfl underlying24 el3 rfl (by omega) (by kernel_rfl) (by repeat (first | exact trivial | refine ⟨⟨by rfl, rfl, rfl⟩, ?_⟩)) rfl rfl rfl rfl (fun g12 => ?_)
 refine wl_freezeL (OwnL.blk (g := g12) (el := 3) (F := cI) (l := [1, -2]) 2 cI_len rfl (by omega)) fun h1 l1 hL1 => (wl_yes rfl rfl rfl rfl (wl_call rfl call37 rfl (lone_ok [1, -2] _ h1 hL1 (by decide) (by decide)) rfl rfl rfl (fun r2 h2 ms2 l2 hF => ?_)))
 obtain ⟨l2', rfl, Z, vd, va, rfl, hRZ, e1, e2, e3⟩ := hF
 refine wl_yes rfl rfl rfl rfl ?_
 refine wl_buildSlice [(0, _), (1, _)] [.int .i64 0, .int .i64 0] [_, _] rfl underlying24 el3 rfl (by omega) (by kernel_rfl) (by repeat (first | exact trivial | refine ⟨⟨by rfl, rfl, rfl⟩, ?_⟩)) rfl rfl rfl rfl (fun g14 => ?_)
 refine wl_freezeL (OwnL.blk (g := g14) (el := 3) (F := cI) (l := [0, 2]) (2 * 1) cI_len rfl (by omega)) fun h3 l3 hL3 => (Qg (ox_call rfl call36 rfl (is_t 1 (ex3 e1 e2 e3) (hRZ.up l3) hL3 rfl (by omega) rfl _)) rfl (Qx (ox_pick_t rfl rfl rfl) rfl (Qm rfl (wl_yes rfl rfl rfl rfl ?_))))
 refine wl_buildSlice [(0, _), (1, _)] [.int .i64 0, .int .i64 0] [_, _] rfl underlying24 el3 rfl (by omega) (by kernel_rfl) (by repeat (first | exact trivial | refine ⟨⟨by rfl, rfl, rfl⟩, ?_⟩)) rfl rfl rfl rfl (fun g18 => ?_)
 refine wl_freezeL (OwnL.blk (g := g18) (el := 3) (F := cI) (l := [9, -1]) 2 cI_len rfl (by omega)) fun h1 l1 hL1 => (wl_yes rfl rfl rfl rfl (wl_call rfl call37 rfl (lone_ok [9, -1] _ h1 hL1 (by decide) (by decide)) rfl rfl rfl (fun r2 h2 ms2 l2 hF => ?_)))
 obtain ⟨l2', rfl, Z, vd, va, rfl, hRZ, e1, e2, e3⟩ := hF
 refine wl_yes rfl rfl rfl rfl ?_
 refine wl_buildSlice [(0, _), (1, _), (2, _), (3, _)] [.int .i64 0, .int .i64 0, .int .i64 0, .int .i64 0] [_, _, _, _] rfl underlying24 el3 rfl (by omega) (by kernel_rfl) (by repeat (first | exact trivial | refine ⟨⟨by rfl, rfl, rfl⟩, ?_⟩)) rfl rfl rfl rfl (fun g20 => ?_)
 refine wl_freezeL (OwnL.blk (g := g20) (el := 3) (F := cI) (l := [0, 0, 1, 2]) (2 * 2) cI_len rfl (by omega)) fun h3 l3 hL3 => (Qg (ox_call rfl call36 rfl (is_t 2 (ex4 e1 e2 e3) (hRZ.up l3) hL3 rfl (by omega) rfl _)) rfl (Qx (ox_pick_t rfl rfl rfl) rfl (Qm rfl (wl_yes rfl rfl rfl rfl ?_))))
 refine wl_buildSlice [(0, _), (1, _)] [.int .i64 0, .int .i64 0] [_, _] rfl underlying24 el3 rfl (by omega) (by kernel_rfl) (by repeat (first | exact trivial | refine ⟨⟨by rfl, rfl, rfl⟩, ?_⟩)) rfl rfl rfl rfl (fun g24 => ?_)
 refine wl_freezeL (OwnL.blk (g := g24) (el := 3) (F := cI) (l := [-9, 3]) 2 cI_len rfl (by omega)) fun h1 l1 hL1 => (wl_yes rfl rfl rfl rfl (wl_call rfl call37 rfl (lone_ok [-9, 3] _ h1 hL1 (by decide) (by decide)) rfl rfl rfl (fun r2 h2 ms2 l2 hF => ?_)))
 obtain ⟨l2', rfl, Z, vd, va, rfl, hRZ, e1, e2, e3⟩ := hF
 refine wl_yes rfl rfl rfl rfl ?_
 refine wl_buildSlice [(0, _), (1, _), (2, _), (3, _)] [.int .i64 0, .int .i64 0, .int .i64 0, .int .i64 0] [_, _, _, _] rfl underlying24 el3 rfl (by omega) (by kernel_rfl) (by repeat (first | exact trivial | refine ⟨⟨by rfl, rfl, rfl⟩, ?_⟩)) rfl rfl rfl rfl (fun g26 => ?_)
 refine wl_freezeL (OwnL.blk (g := g26) (el := 3) (F := cI) (l := [0, 0, 1, 2]) (2 * 2) cI_len rfl (by omega)) fun h3 l3 hL3 => (Qg (ox_call rfl call36 rfl (is_t 2 (ex5 e1 e2 e3) (hRZ.up l3) hL3 rfl (by omega) rfl _)) rfl (Qx (ox_pick_t rfl rfl rfl) rfl (Qm rfl (wl_yes rfl rfl rfl rfl (wl_call rfl call38 rfl (wide_ok 0 _ (by decide)) rfl rfl rfl (fun r2 h2 ms2 l2 hF => ?_))))))
 obtain ⟨l2', rfl, Z, vd, va, rfl, hRZ, e1, e2, e3⟩ := hF
 refine wl_yes rfl rfl rfl rfl ?_
 refine wl_buildSlice [(0, _), (1, _), (2, _), (3, _)] [.int .i64 0, .int .i64 0, .int .i64 0, .int .i64 0] [_, _, _, _] rfl underlying24 el3 rfl (by omega) (by kernel_rfl) (by repeat (first | exact trivial | refine ⟨⟨by rfl, rfl, rfl⟩, ?_⟩)) rfl rfl rfl rfl (fun g31 => ?_)
 refine wl_freezeL (OwnL.blk (g := g31) (el := 3) (F := cI) (l := [0, 1, 1, 2]) (2 * 2) cI_len rfl (by omega)) fun h3 l3 hL3 => (Qg (ox_call rfl call36 rfl (is_t 2 (ex6 e1 e2 e3) (hRZ.up l3) hL3 rfl (by omega) rfl _)) rfl (Qx (ox_pick_t rfl rfl rfl) rfl (Qm rfl (wl_yes rfl rfl rfl rfl (wl_call rfl call38 rfl (wide_ok 2 _ (by decide)) rfl rfl rfl (fun r2 h2 ms2 l2 hF => ?_))))))
 obtain ⟨l2', rfl, Z, vd, va, rfl, hRZ, e1, e2, e3⟩ := hF
 refine wl_yes rfl rfl rfl rfl ?_
 refine wl_buildSlice [(0, _), (1, _), (2, _), (3, _)] [.int .i64 0, .int .i64 0, .int .i64 0, .int .i64 0] [_, _, _, _] rfl underlying24 el3 rfl (by omega) (by kernel_rfl) (by repeat (first | exact trivial | refine ⟨⟨by rfl, rfl, rfl⟩, ?_⟩)) rfl rfl rfl rfl (fun g36 => ?_)
 refine wl_freezeL (OwnL.blk (g := g36) (el := 3) (F := cI) (l := [0, 2, 1, 1]) (2 * 2) cI_len rfl (by omega)) fun h3 l3 hL3 => (Qg (ox_call rfl call36 rfl (is_t 2 (ex7 e1 e2 e3) (hRZ.up l3) hL3 rfl (by omega) rfl _)) rfl (Qx (ox_pick_t rfl rfl rfl) rfl (Qm rfl (RnQ (ws_ret ?_)))))
 exact nx_ret1 rfl rfl (rfl)
theorem sanity_v (h : Hp) (ms : List Hp) : FnV Tryz.prog 14 #[] h ms (.bool true) := fnv (sanity_ok h) ms
end Go.Proofs.YtdnelknieikbaaaGreat
