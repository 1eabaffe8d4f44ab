/- Parts of the proof: Yx Xj Xk Ye Lm Xl Xm Xn Xo Xp Yy Yz Xa Xb Xc Xd Xe. -/
import Derived.Test.YtdnelknieikbaaaGreatTH
import Derived.DeepKeys4
set_option linter.unusedSimpArgs false
set_option linter.unusedVariables false
set_option maxRecDepth 100000
set_option maxHeartbeats 4000000
namespace Go.Proofs.YtdnelknieikbaaaGreat
open Tryz
open Go.Eng Go.RowKit Go.Lin Go.Sort Go.Srt
variable {m h : Hp} {v : Value} {ms : List Hp}
structure StE where
 fr : Int
 to : Int
 v : Value
 one : v.oneCell' = true
instance : Inhabited StE := ⟨⟨0, 0, .slice none 0 0, rfl⟩⟩
def StE.key (s : StE) : Int × Int := (s.fr, s.to)
def cS (s : StE) : List Value := [.int .i64 s.fr, .int .i64 s.to, s.v]
theorem cS_len : ∀ s, (cS s).length = 3 := fun _ => rfl
theorem cS_one (s : StE) : ∀ c ∈ cS s, c.oneCell' = true := fun c hc => by
 simp only [cS, List.mem_cons, List.not_mem_nil, or_false] at hc
 rcases hc with rfl | rfl | rfl
 ·rfl
 ·rfl
 ·exact s.one
def ltS (x y : StE) : Bool := decide (cmp2 x.key y.key < 0)
theorem ltS_swo : SWO ltS := by
 refine ⟨fun x => ?_, fun x y z h1 h2 => ?_, fun x y z h1 h2 => ?_⟩
 ·unfold ltS; rw [decide_eq_false_iff_not, cmp2_lt]; omega
 ·unfold ltS at *; rw [decide_eq_true_iff, cmp2_lt] at *; omega
 ·unfold ltS at *; rw [decide_eq_false_iff_not, cmp2_lt] at *; omega
theorem cmpS_v (x y : StE) (h : Hp) (ms : List Hp) : FnV Tryz.prog 59 #[.agg (cS x).toArray, .agg (cS y).toArray] h ms (.int .i64 (cmp2 x.key y.key)) := by
 refine fnv ?_ ms
 have o1 := x.one
 have o2 := y.one
 show FnT _ _ #[.agg #[.int .i64 x.fr, .int .i64 x.to, x.v], .agg #[.int .i64 y.fr, .int .i64 y.to, y.v]] _ _ _
 refine fn_enter func59 ntmps59 rfl rfl (fun w0 hw0 => ?_)
 simp only [argS]
 refine RsQ ?_
 refine wl_box [_, _, _] rfl rfl (by rfl) rfl rfl rfl (fun g2 => ?_)
 refine wl_box [_, _, _] rfl rfl (by rfl) rfl rfl rfl (fun g3 => ?_)
 refine Qm rfl (RnQ (ws_freezeB fun h1 l1 hG3 => (ws_freezeB fun h2 l2 hG2 => ?_)))
 have hG3 := hG3.le l2
 have hA2 := Seg.all hG2
 have hA3 := Seg.all hG3
 refine RsQ (Qx (ox_fieldF fd64_0 rfl rfl) rfl (Qx (ox_load rfl underlying3 rfl rfl (hA2 0 _ rfl _)) rfl (Qx (ox_fieldF fd64_1 rfl rfl) rfl (Qx (ox_load rfl underlying3 rfl rfl (hA2 1 _ rfl _)) rfl ?_))))
 refine Qx (ox_buildA [.int .i64 0, .int .i64 0] [(0, [_]), (1, [_])] [_, _] rfl underlying53 el53 rfl el3 rfl (by repeat (first | exact trivial | refine ⟨⟨by rfl, rfl, rfl⟩, ?_⟩)) rfl) rfl ?_
 refine Qx (ox_fieldF fd64_0 rfl rfl) rfl (Qx (ox_load rfl underlying3 rfl rfl (hA3 0 _ rfl _)) rfl (Qx (ox_fieldF fd64_1 rfl rfl) rfl (Qx (ox_load rfl underlying3 rfl rfl (hA3 1 _ rfl _)) rfl ?_)))
 refine Qx (ox_buildA [.int .i64 0, .int .i64 0] [(0, [_]), (1, [_])] [_, _] rfl underlying53 el53 rfl el3 rfl (by repeat (first | exact trivial | refine ⟨⟨by rfl, rfl, rfl⟩, ?_⟩)) rfl) rfl ?_
 refine Qx (ox_call rfl call43 rfl (fnv (cmp_v x.key y.key _) _)) rfl (Qm rfl (RnQ (ws_ret ?_)))
 exact nx_ret1 rfl rfl (rfl)
abbrev OS (m : Hp) (v : Value) (d : Array StE) : Prop := OwnL cS 3 64 m v d.toList
theorem OS.rd {d : Array StE} (O : OS m v d) (hm : m ∈ ms) : Rd h ms v 3 d.size (d.toList.flatMap cS) := by
 have := (OwnL.rd O hm (h := h)).rd; rwa [Array.length_toList] at this
theorem OS.get {d : Array StE} (O : OS m v d) (hm : m ∈ ms) {j : Nat} (hj : j < d.size) : Seg h ms ((vbase v).add (j * 3)) (cS d[j]!) := by
 have := (OwnL.rd O hm (h := h)).seg (j := j) (by simpa using hj)
 simpa [hj] using this
theorem wl_storeS {e : Entry} {Q : Exit → Act → World → Prop} {ops : Array Oper} {rest : List Oper} {o : Oper} {s : Slots} {t : TypeId} {x y : Operand} {z : Value} {bytes : Nat} {a : StE} {d : Array StE} (i j : Nat) (O : OS m v d) (ho : o.op = .store t x y) (hs : Elem e.P t 3 z bytes) (hx : ev s x = some (.pointer (some ((vbase v).add (j * 3))))) (hy : ev s y = some (.agg (cS a).toArray))
  (hm : ms[i]? = some m) (hj : j < d.size) (hd : o.dst = none) (hg : o.guard = none)
  (K : ∀ m', (d.setIfInBounds j a).size = d.size → OS m' v (d.setIfInBounds j a) → WL e ops Q rest s h (ms.set i m')) : WL e ops Q (o :: rest) s h ms :=
 wl_storeEl i j a O ho hs hx hy rfl (cS_one a) hm (by simpa using hj) hd hg fun m' O' => K m' (by simp) (by
  show OwnL cS 3 64 m' v (d.setIfInBounds j a).toList
  rw [Array.toList_setIfInBounds]; exact O')
theorem swapRange_ok (d : Array StE) (v cv : Value) (m : Hp) (hO : OS m v d) (a b n lo hi : Nat) (hab : a + n ≤ b) (hb : b + n ≤ d.size) (hsz : d.size ≤ 1000000) (hlo : lo ≤ a) (hhi : b + n ≤ hi) (hhs : hi ≤ d.size) (h : Hp) {a' b' n' : Int} (ea : a' = a) (eb : b' = b) (en : n' = n) :
  FnT Tryz.prog 152 #[v, .int .i64 a', .int .i64 b', .int .i64 n', cv] h [m] (fun _ h' ms' => h = h' ∧ ∃ m' d', ms' = [m'] ∧ OS m' v d' ∧ SwR d d' a b n ∧ PermIn lo hi d d') := by
 subst ea eb en
 refine fn_enter func152 ntmps152 rfl rfl (fun w0 hw0 => ?_)
 simp only [argS]
 refine RsQ (Qm rfl (RnQ (ws_block ?_)))
 refine ws_loop (fun q s h' ms' => ∃ (i : Nat) (d0 : Array StE) (m : Hp), q = n - i ∧ s = [(0, v), (1, .int .i64 a), (2, .int .i64 b), (3, .int .i64 n), (10, .int .i64 i)] ∧ h = h' ∧ ms' = [m] ∧ i ≤ n ∧ OS m v d0 ∧ SwR d d0 a b i ∧ PermIn lo hi d d0)
  (n - 0) _ ⟨0, d, m, rfl, rfl, rfl, rfl, by omega, hO, SwR.start d a b, permIn_refl d lo hi⟩ Qs ?_
 rintro q s h' ms' ⟨i, d0, m0, rfl, rfl, rfl, rfl, hi2, hO0, S, P⟩
 have hds := S.1
 refine ws_seq (RsQ (Qm rfl (Qm rfl (Qx (ox_lss rfl rfl rfl) rfl (RnQ ?_)))))
 refine ws_if rfl (fun hlt => ?_) (fun hlt => ?_)
 ·refine ws_skip (nx_then (ws_seq (ws_block (ws_drawP 20 [false, false, false, false, true, true, true, true] fol (by kernel_rfl) (by kernel_rfl) (by kernel_rfl) (pz_x rfl rfl rfl rfl (px_move rfl rfl) (pz_x rfl rfl rfl rfl (px_move rfl rfl) (pz_x rfl rfl rfl rfl (px_move rfl rfl) (pz_x rfl rfl rfl rfl (px_add rfl rfl rfl (by omega)) ?_))))))))
  refine ⟨rfl, ?_⟩
  simp only [zapL, zap, List.cons_append, List.nil_append, List.take_succ_cons, List.take_zero, List.drop_succ_cons, List.drop_zero, List.take_nil, List.drop_nil]
  refine wr_x (ox_move rfl rfl) rfl rfl (wr_x (ox_move rfl rfl) rfl rfl (wr_x (ox_move rfl rfl) rfl rfl (wr_x (ox_add rfl rfl rfl (by omega)) rfl rfl (wr_z rfl rfl rfl (wr_z rfl rfl rfl (wr_z rfl rfl rfl (wr_z rfl rfl rfl (wr_x (ox_move rfl rfl) rfl rfl (wr_x (ox_move rfl rfl) rfl rfl (wr_x (ox_move rfl rfl) rfl rfl (wr_x (ox_add rfl rfl rfl (by omega)) rfl rfl (wr_x (ox_indexR (b + i) (hO0.rd (.head _)) rfl underlying60 el64 rfl rfl (by omega) (by omega)) rfl rfl (wr_x (ox_loadG rfl underlying64 rfl el64 rfl rfl (hO0.get (.head _) (by omega))) rfl rfl (wr_x (ox_move rfl rfl) rfl rfl (wr_x (ox_move rfl rfl) rfl rfl (wr_x (ox_move rfl rfl) rfl rfl (wr_x (ox_add rfl rfl rfl (by omega)) rfl rfl (wr_x (ox_indexR (a + i) (hO0.rd (.head _)) rfl underlying60 el64 rfl rfl (by omega) (by omega)) rfl rfl (wr_x (ox_loadG rfl underlying64 rfl el64 rfl rfl (hO0.get (.head _) (by omega))) rfl rfl (wr_nil (Qx (ox_indexR (a + i) (hO0.rd (.head _)) rfl underlying60 el64 rfl rfl (by omega) (by omega)) rfl (wl_storeS 0 _ hO0 rfl el64 rfl rfl rfl (by omega) rfl rfl (fun mhO1 hzhO1 hO1 => Qx (ox_indexR (b + i) (hO1.rd (.head _)) rfl underlying60 el64 rfl rfl (by omega) (by omega)) rfl (wl_storeS 0 _ hO1 rfl el64 rfl rfl rfl (by omega) rfl rfl (fun mhO2 hzhO2 hO2 => wl_nil (nx_q0 (nx_block (nx_then (ws_region (Qm rfl (Qx (ox_add rfl rfl rfl (by omega)) rfl (Qm rfl (wl_nil ?_)))))))))))))))))))))))))))))))))
  refine nx_round (n - (i + 1)) _ (by omega) ⟨i + 1, _, mhO2, rfl, rfl, rfl, rfl, by omega, hO2, S.step (by omega) (by omega), permIn_trans _ _ _ _ _ P (swp_permIn d0 lo hi (a + i) (b + i) (by omega) (by omega) (by omega) (by omega) (by omega))⟩ Qs
 ·obtain rfl : i = n := by omega
  refine ws_exit (nx_then_exit (nx_then_exit (nx_block_exit ?_)))
  exact nx_end0 rfl (⟨rfl, m0, d0, rfl, hO0, S, P⟩)
theorem rotate_ok (d : Array StE) (v cv : Value) (m : Hp) (hO : OS m v d) (a t b lo hi : Nat) (hat : a < t) (htb : t < b) (hb : b ≤ d.size) (hsz : d.size ≤ 1000000) (hlo : lo ≤ a) (hhi : b ≤ hi) (hhs : hi ≤ d.size) (h : Hp) {a' t' b' : Int} (ea : a' = a) (et : t' = t) (eb : b' = b) :
  FnT Tryz.prog 139 #[v, .int .i64 a', .int .i64 t', .int .i64 b', cv] h [m] (fun _ h' ms' => h = h' ∧ ∃ m' d', ms' = [m'] ∧ OS m' v d' ∧ (∀ k, d'[k]! = rotv d a t b k) ∧ PermIn lo hi d d') := by
 subst ea et eb
 refine fn_enter func139 ntmps139 rfl rfl (fun w0 hw0 => ?_)
 simp only [argS]
 refine RsQ (Qm rfl (Qm rfl (Qx (ox_sub rfl rfl rfl (by omega)) rfl (Qm rfl (RtQ (Qm rfl (Qm rfl (Qx (ox_sub rfl rfl rfl (by omega)) rfl (Qm rfl (RnQ (ws_seq (ws_block ?_))))))))))))
 refine ws_loop (fun q s h' ms' => ∃ (i j : Nat) (x y : Int) (d0 : Array StE) (m : Hp), q = i + j ∧ s = [(0, v), (2, .int .i64 t), (4, cv), (10, .int .i64 x), (11, .int .i64 y)] ∧ h = h' ∧ ms' = [m] ∧ x = i ∧ y = j ∧ 0 < i ∧ 0 < j ∧ a + i ≤ t ∧ t + j ≤ b ∧ OS m v d0 ∧ (∀ k, rotv d0 (t - i) t (t + j) k = rotv d a t b k) ∧ PermIn lo hi d d0)
  ((t - a) + (b - t)) _ ⟨t - a, b - t, (t : Int) - a, (b : Int) - t, d, m, rfl, rfl, rfl, rfl, by omega, by omega, by omega, by omega, by omega, by omega, hO, fun k => by rw [show t - (t - a) = a by omega, show t + (b - t) = b by omega], permIn_refl d lo hi⟩ Qs ?_
 rintro q s h' ms' ⟨i, j, x, y, d0, m0, rfl, rfl, rfl, rfl, rfl, rfl, hi0, hj0, hai, hjb, hO0, hR, P⟩
 have hds := P.1
 refine ws_seq (RsQ (Qm rfl (Qm rfl (Qx (ox_nei rfl rfl rfl) rfl (RnQ ?_)))))
 refine ws_if rfl (fun hne => ?_) (fun hne => ?_)
 ·refine ws_skip (nx_then (ws_block (RsQ (Qm rfl (Qm rfl (Qx (ox_gtr rfl rfl rfl) rfl (RnQ ?_)))))))
  refine ws_if rfl (fun hgt => ?_) (fun hgt => ?_)
  ·refine ws_seq (ws_region (Qm rfl (Qm rfl (Qm rfl (Qx (ox_sub rfl rfl rfl (by omega)) rfl (Qm rfl (Qm rfl (Qm rfl (wl_call_ (pre := [m0]) rfl call152 rfl (swapRange_ok d0 v cv m0 hO0 (t - i) t j lo hi (by omega) (by omega) (by omega) (by omega) (by omega) (by omega) h (by omega) rfl rfl) rfl rfl rfl rfl (fun r h1 ms1 l1 hF => ?_))))))))))
   obtain ⟨rfl, m1, d1, rfl, hO1, S, P1⟩ := hF
   refine RrQ (Qm rfl (Qm rfl (Qx (ox_sub rfl rfl rfl (by omega)) rfl (Qm rfl (wl_nil (nx_block ?_))))))
   refine nx_round ((i - j) + j) _ (by omega) ⟨i - j, j, (i : Int) - j, j, d1, m1, rfl, rfl, rfl, rfl, by omega, rfl, by omega, by omega, by omega, by omega, hO1, fun k => (rotv_big (by omega) (by omega) S k).trans (hR k), permIn_trans _ _ _ _ _ P P1⟩ Qs
  ·refine ws_seq (ws_region (Qm rfl (Qm rfl (Qm rfl (Qx (ox_sub rfl rfl rfl (by omega)) rfl (Qm rfl (Qm rfl (Qx (ox_add rfl rfl rfl (by omega)) rfl (Qm rfl (Qx (ox_sub rfl rfl rfl (by omega)) rfl (Qm rfl (Qm rfl (wl_call_ (pre := [m0]) rfl call152 rfl (swapRange_ok d0 v cv m0 hO0 (t - i) (t + j - i) i lo hi (by omega) (by omega) (by omega) (by omega) (by omega) (by omega) h (by omega) (by omega) rfl) rfl rfl rfl rfl (fun r h1 ms1 l1 hF => ?_))))))))))))))
   obtain ⟨rfl, m1, d1, rfl, hO1, S, P1⟩ := hF
   refine RrQ (Qm rfl (Qm rfl (Qx (ox_sub rfl rfl rfl (by omega)) rfl (Qm rfl (wl_nil (nx_block ?_))))))
   refine nx_round (i + (j - i)) _ (by omega) ⟨i, j - i, i, (j : Int) - i, d1, m1, rfl, rfl, rfl, rfl, rfl, by omega, by omega, by omega, by omega, by omega, hO1, fun k => (rotv_small (by omega) (by omega) S k).trans (hR k), permIn_trans _ _ _ _ _ P P1⟩ Qs
 ·obtain rfl : i = j := by omega
  refine ws_exit (nx_then_exit (nx_then_exit (nx_block_exit (nx_then (ws_region (Qm rfl (Qm rfl (Qm rfl (Qx (ox_sub rfl rfl rfl (by omega)) rfl (Qm rfl (Qm rfl (Qm rfl (wl_call_ (pre := [m0]) rfl call152 rfl (swapRange_ok d0 v cv m0 hO0 (t - i) t i lo hi (by omega) (by omega) (by omega) (by omega) (by omega) (by omega) h (by omega) rfl rfl) rfl rfl rfl rfl (fun r h1 ms1 l1 hF => ?_))))))))))))))
  obtain ⟨rfl, m1, d1, rfl, hO1, S, P1⟩ := hF
  refine wl_nil ?_
  exact nx_end0 rfl (⟨rfl, m1, d1, rfl, hO1, fun k => (rotv_end (by omega) S k).trans (hR k), permIn_trans _ _ _ _ _ P P1⟩)
end Go.Proofs.YtdnelknieikbaaaGreat
namespace Go.Proofs.YtdnelknieikbaaaGreat
open Tryz
open Go.Eng Go.RowKit Go.Lin Go.Sort Go.Srt
variable {h : Hp} {P : Prop}
noncomputable def bl (P : Prop) : Bool := @decide P (Classical.propDecidable P)
theorem bl_t (h : P) : bl P = true := @decide_eq_true P (Classical.propDecidable P) h
theorem bl_f (h : ¬ P) : bl P = false := @decide_eq_false P (Classical.propDecidable P) h
theorem bl_iff : bl P = true ↔ P := @decide_eq_true_iff P (Classical.propDecidable P)
structure SV where
 e : StE
 es : List Value
 vs : List (List Int)
instance : Inhabited SV := ⟨⟨default, [], []⟩⟩
def cSV (s : SV) : List Value := [.int .i64 s.e.fr, .int .i64 s.e.to, s.e.v]
theorem cSV_len : ∀ s, (cSV s).length = 3 := fun _ => rfl
structure RdW (h : Hp) (s : SV) : Prop where
 len : s.es.length = s.vs.length
 l : RdL cV 1 h [] s.e.v s.es
 r : ∀ j, j < s.vs.length → RdL cI 1 h [] (s.es.getD j undef) (s.vs.getD j [])
theorem RdW.up {h' : Hp} {s : SV} (R : RdW h s) (hl : h.le h') : RdW h' s := ⟨R.len, R.l.up hl, fun j hj => (R.r j hj).up hl⟩
theorem RdW.cell {s : SV} (R : RdW h s) {j : Nat} (hj : j < s.vs.length) (ms : List Hp) : Cell h ms ((vbase s.e.v).add (j * 1)) (s.es.getD j undef) := by
 have hj' : j < s.es.length := by rw [R.len]; exact hj
 rw [es_getD hj']
 exact R.l.any.cell0 hj' rfl
structure RdSs (h : Hp) (v : Value) (l : List SV) : Prop where
 q : RdL cSV 3 h [] v l
 w : ∀ s ∈ l, RdW h s
theorem RdSs.up {h' : Hp} {v : Value} {l : List SV} (R : RdSs h v l) (hl : h.le h') : RdSs h' v l := ⟨R.q.up hl, fun s hs => (R.w s hs).up hl⟩
def SV.on (s : SV) (k : Nat) : Prop := s.e.fr ≤ k ∧ (k : Int) ≤ s.e.to
instance (s : SV) (k : Nat) : Decidable (s.on k) := by unfold SV.on; infer_instance
def SV.at_ (s : SV) (k : Nat) : List Int := s.vs.getD (k - s.e.fr.toNat) []
def SV.vv (s : SV) (k : Nat) : Value := if s.on k then s.es.getD (k - s.e.fr.toNat) undef else .slice none 0 0
def SV.Long (s : SV) : Prop := 0 ≤ s.e.fr ∧ (s.vs.length : Int) = s.e.to - s.e.fr + 1
theorem SV.ix {s : SV} (hL : s.Long) {k : Nat} (h : s.on k) : k - s.e.fr.toNat < s.vs.length := by
 obtain ⟨h1, h2⟩ := hL
 obtain ⟨h3, h4⟩ := h
 omega
theorem RdW.vv {s : SV} (R : RdW h s) (hL : s.Long) {k : Nat} (ho : s.on k) : RdL cI 1 h [] (s.vv k) (s.at_ k) := by
 unfold SV.vv SV.at_
 rw [if_pos ho]
 exact R.r _ (SV.ix hL ho)
theorem RdW.vv_one {s : SV} (R : RdW h s) (hL : s.Long) (k : Nat) : (s.vv k).oneCell' = true := by
 by_cases ho : s.on k
 ·exact (R.vv hL ho).rd.one
 ·unfold SV.vv; rw [if_neg ho]; rfl
def SV.Shp (Z : Zz) (s : SV) : Prop := 0 ≤ s.e.fr ∧ s.e.fr ≤ s.e.to ∧ s.e.to < Z.dims.length ∧ (s.vs.length : Int) = s.e.to - s.e.fr + 1 ∧ ∀ j, j < s.vs.length → ((s.vs.getD j []).length : Int) = Z.dim (s.e.fr.toNat + j) ∧ ∀ x ∈ s.vs.getD j [], 0 ≤ x ∧ x < Z.p
theorem SV.Shp.long {Z : Zz} {s : SV} (h : s.Shp Z) : s.Long := ⟨h.1, h.2.2.2.1⟩
theorem rvector_v (s : SV) (k : Nat) (h : Hp) (hW : RdW h s) (hL : s.Long) (hk : k ≤ 1000) (ms : List Hp) : FnV Tryz.prog 93 #[.agg #[.int .i64 s.e.fr, .int .i64 s.e.to, s.e.v], .int .i64 k] h ms (.tuple #[s.vv k, .bool (decide (s.on k))]) := by
 refine fnv ?_ ms
 have ov := s.e.one
 have hl := hW.l.len_le
 have hL1 := hL.1
 have hL2 := hL.2
 have hle := hW.len
 refine fn_enter func93 ntmps93 rfl rfl (fun w0 hw0 => ?_)
 simp only [argS]
 refine RsQ ?_
 refine wl_box [_, _, _] rfl rfl (by rfl) rfl rfl rfl (fun g2 => ?_)
 refine Qm rfl (Qm rfl (RnQ (ws_freezeB fun h1 l1 hS => ?_)))
 have hW := hW.up l1
 have hA := Seg.all hS
 have hA0 := hA 0 _ rfl
 refine ws_seq (RsQ (Qm rfl (Qx (ox_fieldF fd64_0 rfl rfl) rfl (Qx (ox_load rfl underlying3 rfl rfl (hA0 _)) rfl (Qx (ox_lss rfl rfl rfl) rfl (Qm rfl ?_))))))
 refine wl_split (t := 10) rfl (fun h1 => ?_) (fun h1 => ?_)
 ·refine Qk rfl (Qk rfl (Qk rfl (Qk rfl (Qx (ox_pick_t rfl rfl rfl) rfl (RnQ (ws_cond_t rfl (RsQ (Qm rfl (Qm rfl (RnQ (ws_ret (nx_then_ret ?_))))))))))))
  exact nx_ret2 rfl rfl rfl (by rw [show s.vv k = .slice none 0 0 from if_neg (fun ho => by have := ho.1; omega), decide_eq_false (fun ho : s.on k => by have := ho.1; omega)])
 ·refine Qg (ox_move rfl rfl) rfl (Qg (ox_fieldF fd64_1 rfl rfl) rfl (Qg (ox_load rfl underlying3 rfl rfl (hA _ _ rfl _)) rfl (Qg (ox_gtr rfl rfl rfl) rfl (Qx (ox_pick_f rfl rfl rfl) rfl (RnQ ?_)))))
  refine ws_if rfl (fun h2 => ?_) (fun h2 => ?_)
  ·refine ws_seq (ws_region (Qm rfl (Qm rfl (RnQ (ws_ret (nx_then_ret ?_))))))
   exact nx_ret2 rfl rfl rfl (by rw [show s.vv k = .slice none 0 0 from if_neg (fun ho => by have := ho.2; omega), decide_eq_false (fun ho : s.on k => by have := ho.2; omega)])
  ·have ho : s.on k := ⟨by omega, by omega⟩
   have hix := SV.ix hL ho
   have hc := hW.cell hix
   refine ws_skip (nx_then (RsQ (Qx (ox_fieldF fd64_2 rfl rfl) rfl (Qx (ox_load rfl underlying62 rfl rfl (hA _ _ rfl _)) rfl (Qm rfl (Qx (ox_fieldF fd64_0 rfl rfl) rfl (Qx (ox_load rfl underlying3 rfl rfl (hA0 _)) rfl (Qx (ox_sub rfl rfl rfl (by omega)) rfl (Qx (ox_indexR (k - s.e.fr.toNat) hW.l.rd.any rfl underlying62 el24 rfl rfl (by omega) (by omega)) rfl (Qx (ox_load rfl underlying24 rfl rfl (hc _)) rfl (Qm rfl (Qm rfl (RnQ (ws_ret ?_))))))))))))))
   exact nx_ret2 rfl rfl rfl (by rw [show s.vv k = s.es.getD (k - s.e.fr.toNat) undef from if_pos ho, decide_eq_true ho])
end Go.Proofs.YtdnelknieikbaaaGreat
namespace Go.Proofs.YtdnelknieikbaaaGreat
open Tryz
open Go.Eng Go.RowKit Go.Lin Go.Sort Go.Srt
theorem rshaped_v (Z : Zz) (vd va : Value) (s : SV) (h : Hp) (hRt : Z.Rt) (hR : RdZ h vd va Z) (hW : RdW h s) (ms : List Hp) : FnV Tryz.prog 60 #[.agg #[.int .i64 Z.p, vd, va], .agg #[.int .i64 s.e.fr, .int .i64 s.e.to, s.e.v]] h ms (.bool (bl (s.Shp Z))) := by
 refine fnv ?_ ms
 have o1 := hR.d.rd.one
 have o2 := hR.a.rd.one
 have ov := s.e.one
 have n1 := hRt.2.1
 have hl := hW.l.len_le
 have hle := hW.len
 refine fn_enter func60 ntmps60 rfl rfl (fun w0 hw0 => ?_)
 simp only [argS]
 refine RsQ ?_
 refine wl_box [_, _, _] rfl rfl (by rfl) rfl rfl rfl (fun g2 => ?_)
 refine wl_box [_, _, _] rfl rfl (by rfl) rfl rfl rfl (fun g3 => ?_)
 refine Qm rfl (RnQ (ws_freezeB fun h1 l1 hS3 => (ws_freezeB fun h2 l2 hS2 => ?_)))
 have hS3 := hS3.le l2
 have hR := hR.up (Hp.le_trans l1 l2)
 have hW := hW.up (Hp.le_trans l1 l2)
 have hA := Seg.all hS2
 have hA0 := hA 0 _ rfl
 have hB := Seg.all hS3
 have hB0 := hB 0 _ rfl
 refine ws_seq (RsQ (Qx (ox_fieldF fd64_0 rfl rfl) rfl (Qx (ox_load rfl underlying3 rfl rfl (hB0 _)) rfl (Qx (ox_lss rfl rfl rfl) rfl (Qm rfl ?_)))))
 refine wl_split (t := 10) rfl (fun hs1 => ?_) (fun hs1 => ?_)
 ·refine Qk rfl (Qk rfl (Qk rfl (Qk rfl (Qk rfl (Qx (ox_pick_t rfl rfl rfl) rfl (Qm rfl (Qk rfl (Qk rfl (Qk rfl (Qk rfl (Qk rfl (Qk rfl (Qx (ox_pick_t rfl rfl rfl) rfl (Qm rfl (Qk rfl (Qk rfl (Qk rfl (Qk rfl (Qk rfl (Qk rfl (Qk rfl (Qk rfl (Qk rfl (Qk rfl (Qx (ox_pick_t rfl rfl rfl) rfl (RnQ (ws_cond_t rfl (RsQ (Qm rfl (RnQ (ws_ret (nx_then_ret ?_))))))))))))))))))))))))))))))))
  exact nx_ret1 rfl rfl (by rw [bl_f]; rintro ⟨h, _⟩; omega)
 ·refine Qg (ox_fieldF fd64_0 rfl rfl) rfl (Qg (ox_load rfl underlying3 rfl rfl (hB0 _)) rfl (Qg (ox_fieldF fd64_1 rfl rfl) rfl (Qg (ox_load rfl underlying3 rfl rfl (hB _ _ rfl _)) rfl (Qg (ox_gtr rfl rfl rfl) rfl (Qx (ox_pick_f rfl rfl rfl) rfl (Qm rfl ?_))))))
  refine wl_split (t := 17) rfl (fun hs2 => ?_) (fun hs2 => ?_)
  ·refine Qk rfl (Qk rfl (Qk rfl (Qk rfl (Qk rfl (Qk rfl (Qx (ox_pick_t rfl rfl rfl) rfl (Qm rfl (Qk rfl (Qk rfl (Qk rfl (Qk rfl (Qk rfl (Qk rfl (Qk rfl (Qk rfl (Qk rfl (Qk rfl (Qx (ox_pick_t rfl rfl rfl) rfl (RnQ (ws_cond_t rfl (RsQ (Qm rfl (RnQ (ws_ret (nx_then_ret ?_)))))))))))))))))))))))))
   exact nx_ret1 rfl rfl (by rw [bl_f]; rintro ⟨_, h, _⟩; omega)
  ·refine Qg (ox_fieldF fd64_1 rfl rfl) rfl (Qg (ox_load rfl underlying3 rfl rfl (hB _ _ rfl _)) rfl (Qg (ox_fieldF fd30_1 rfl rfl) rfl (Qg (ox_load rfl underlying24 rfl rfl (hA _ _ rfl _)) rfl (Qg (ox_lenR hR.d.rd.any rfl underlying24 rfl) rfl (Qg (ox_geq rfl rfl rfl) rfl (Qx (ox_pick_f rfl rfl rfl) rfl (Qm rfl ?_)))))))
   refine wl_split (t := 25) rfl (fun hs3 => ?_) (fun hs3 => ?_)
   ·refine Qk rfl (Qk rfl (Qk rfl (Qk rfl (Qk rfl (Qk rfl (Qk rfl (Qk rfl (Qk rfl (Qk rfl (Qx (ox_pick_t rfl rfl rfl) rfl (RnQ (ws_cond_t rfl (RsQ (Qm rfl (RnQ (ws_ret (nx_then_ret ?_)))))))))))))))))
    exact nx_ret1 rfl rfl (by rw [bl_f]; rintro ⟨_, _, h, _⟩; omega)
   ·refine Qg (ox_fieldF fd64_2 rfl rfl) rfl (Qg (ox_load rfl underlying62 rfl rfl (hB _ _ rfl _)) rfl (Qg (ox_lenR hW.l.rd.any rfl underlying62 rfl) rfl (Qg (ox_fieldF fd64_1 rfl rfl) rfl (Qg (ox_load rfl underlying3 rfl rfl (hB _ _ rfl _)) rfl (Qg (ox_fieldF fd64_0 rfl rfl) rfl (Qg (ox_load rfl underlying3 rfl rfl (hB0 _)) rfl (Qg (ox_sub rfl rfl rfl (by omega)) rfl (Qg (ox_add rfl rfl rfl (by omega)) rfl (Qg (ox_nei rfl rfl rfl) rfl (Qx (ox_pick_f rfl rfl rfl) rfl (RnQ ?_)))))))))))
    refine ws_if rfl (fun hs4 => ?_) (fun hs4 => ?_)
    ·refine ws_seq (ws_region (Qm rfl (RnQ (ws_ret (nx_then_ret ?_)))))
     exact nx_ret1 rfl rfl (by rw [bl_f]; rintro ⟨_, _, _, h, _⟩; omega)
    ·have hlen : (s.vs.length : Int) = s.e.to - s.e.fr + 1 := by omega
     refine ws_skip (nx_then (ws_seq (RsQ (Qm rfl (RnQ (ws_block ?_))))))
     refine ws_loop (fun q sl hh ms' => ∃ (j : Nat), q = s.es.length - j ∧ sl = [(2, .pointer (some ⟨g2, 0, none⟩)), (3, .pointer (some ⟨g3, 0, none⟩)), (5, .int .i64 j)] ∧ h2 = hh ∧ ms' = [] ∧ j ≤ s.es.length ∧ ∀ j', j' < j → ((s.vs.getD j' []).length : Int) = Z.dim (s.e.fr.toNat + j') ∧ ∀ x ∈ s.vs.getD j' [], 0 ≤ x ∧ x < Z.p)
      (s.es.length - 0) _ ⟨0, rfl, rfl, rfl, rfl, by omega, fun j' h => by omega⟩ Qs ?_
     rintro q sl hh ms' ⟨j, rfl, rfl, rfl, rfl, hj, hno⟩
     refine ws_seq (RsQ (Qm rfl (Qx (ox_fieldF fd64_2 rfl rfl) rfl (Qx (ox_load rfl underlying62 rfl rfl (hB _ _ rfl _)) rfl (Qx (ox_lenR hW.l.rd.any rfl underlying62 rfl) rfl (Qx (ox_lss rfl rfl rfl) rfl (RnQ ?_)))))))
     refine ws_if rfl (fun hlt => ?_) (fun hlt => ?_)
     ·have hjl : j < s.vs.length := by omega
      have hc := hW.cell hjl
      have hRj := hW.r j hjl
      have hk : s.e.fr.toNat + j < Z.dims.length := by omega
      refine ws_skip (nx_then (ws_seq (ws_block (ws_seq (ws_seq (ws_draw 14 fol (by kernel_rfl) rfl (wr_x (ox_fieldF fd64_2 rfl rfl) rfl rfl (wr_x (ox_load rfl underlying62 rfl rfl (hB _ _ rfl _)) rfl rfl (wr_x (ox_move rfl rfl) rfl rfl (wr_x (ox_indexR (j) hW.l.rd.any rfl underlying62 el24 rfl rfl (by omega) (by omega)) rfl rfl (wr_x (ox_load rfl underlying24 rfl rfl (hc _)) rfl rfl (wr_x (ox_lenR hRj.rd.any rfl underlying24 rfl) rfl rfl (wr_x (ox_fieldF fd30_1 rfl rfl) rfl rfl (wr_x (ox_load rfl underlying24 rfl rfl (hA _ _ rfl _)) rfl rfl (wr_x (ox_fieldF fd64_0 rfl rfl) rfl rfl (wr_x (ox_load rfl underlying3 rfl rfl (hB0 _)) rfl rfl (wr_x (ox_move rfl rfl) rfl rfl (wr_x (ox_add rfl rfl rfl (by omega)) rfl rfl (wr_x (ox_indexR (s.e.fr.toNat + j) hR.d.rd.any rfl underlying24 el3 rfl rfl (by omega) (by omega)) rfl rfl (wr_x (ox_load rfl underlying3 rfl rfl (zdim hR hk)) rfl rfl (wr_nil (Qx (ox_nei rfl rfl rfl) rfl (RnQ ?_)))))))))))))))))))))))
      refine ws_if rfl (fun h5 => ?_) (fun h5 => ?_)
      ·refine ws_seq (ws_region (Qm rfl (RnQ (ws_ret (nx_then_ret (nx_block_ret (nx_then_ret (nx_then_ret (nx_block_ret (nx_then_ret ?_))))))))))
       exact nx_ret1 rfl rfl (by rw [bl_f]; rintro ⟨_, _, _, _, h⟩; exact h5 (h j hjl).1)
      ·refine ws_skip (nx_then (RsQ (Qm rfl (RnQ (ws_block ?_)))))
       have hll := hRj.len_le
       refine ws_loop (fun q sl hh ms' => ∃ (i : Nat), q = (s.vs.getD j []).length - i ∧ sl = [(2, .pointer (some ⟨g2, 0, none⟩)), (3, .pointer (some ⟨g3, 0, none⟩)), (5, .int .i64 j), (6, .int .i64 i)] ∧ h2 = hh ∧ ms' = [] ∧ i ≤ (s.vs.getD j []).length ∧ ∀ x ∈ (s.vs.getD j []).take i, 0 ≤ x ∧ x < Z.p)
        ((s.vs.getD j []).length - 0) _ ⟨0, rfl, rfl, rfl, rfl, by omega, fun x h => by simp at h⟩ Qs ?_
       rintro q sl hh ms' ⟨i, rfl, rfl, rfl, rfl, hi, hin⟩
       refine ws_seq (RsQ (Qm rfl (Qx (ox_fieldF fd64_2 rfl rfl) rfl (Qx (ox_load rfl underlying62 rfl rfl (hB _ _ rfl _)) rfl (Qm rfl (Qx (ox_indexR (j) hW.l.rd.any rfl underlying62 el24 rfl rfl (by omega) (by omega)) rfl (Qx (ox_load rfl underlying24 rfl rfl (hc _)) rfl (Qx (ox_lenR hRj.rd.any rfl underlying24 rfl) rfl (Qx (ox_lss rfl rfl rfl) rfl (RnQ ?_))))))))))
       refine ws_if rfl (fun hlt2 => ?_) (fun hlt2 => ?_)
       ·have hil : i < (s.vs.getD j []).length := nat_lt_of hlt2
        refine ws_skip (nx_then (ws_seq (ws_block (ws_seq (ws_draw 20 fol (by kernel_rfl) rfl (wr_x (ox_fieldF fd64_2 rfl rfl) rfl rfl (wr_x (ox_load rfl underlying62 rfl rfl (hB _ _ rfl _)) rfl rfl (wr_x (ox_move rfl rfl) rfl rfl (wr_x (ox_indexR (j) hW.l.rd.any rfl underlying62 el24 rfl rfl (by omega) (by omega)) rfl rfl (wr_x (ox_load rfl underlying24 rfl rfl (hc _)) rfl rfl (wr_x (ox_move rfl rfl) rfl rfl (wr_x (ox_indexR (i) hRj.rd.any rfl underlying24 el3 rfl rfl (by omega) (by omega)) rfl rfl (wr_x (ox_load rfl underlying3 rfl rfl (hRj.any.cell0 hil rfl)) rfl rfl (wr_x (ox_lss rfl rfl rfl) rfl rfl (wr_x (ox_move rfl rfl) rfl rfl ?_)))))))))))))))
        refine wr_split (t := 78) rfl (fun h6 => ?_) (fun h6 => ?_)
        ·refine wr_skip rfl rfl rfl rfl rfl (wr_skip rfl rfl rfl rfl rfl (wr_skip rfl rfl rfl rfl rfl (wr_skip rfl rfl rfl rfl rfl (wr_skip rfl rfl rfl rfl rfl (wr_skip rfl rfl rfl rfl rfl (wr_skip rfl rfl rfl rfl rfl (wr_skip rfl rfl rfl rfl rfl (wr_skip rfl rfl rfl rfl rfl (wr_skip rfl rfl rfl rfl rfl (wr_nil (Qk rfl (Qx (ox_pick_t rfl rfl rfl) rfl (RnQ (ws_cond_t rfl (RsQ (Qm rfl (RnQ (ws_ret (nx_block_ret (nx_then_ret (nx_then_ret (nx_block_ret (nx_block_ret (nx_then_ret (nx_then_ret (nx_block_ret (nx_then_ret ?_)))))))))))))))))))))))))))
         exact nx_ret1 rfl rfl (by rw [bl_f]; rintro ⟨_, _, _, _, h⟩; have := (h j hjl).2 _ (List.getElem_mem hil); omega)
        ·refine wr_gx (ox_fieldF fd64_2 rfl rfl) rfl rfl rfl rfl (wr_gx (ox_load rfl underlying62 rfl rfl (hB _ _ rfl _)) rfl rfl rfl rfl (wr_gx (ox_move rfl rfl) rfl rfl rfl rfl (wr_gx (ox_indexR (j) hW.l.rd.any rfl underlying62 el24 rfl rfl (by omega) (by omega)) rfl rfl rfl rfl (wr_gx (ox_load rfl underlying24 rfl rfl (hc _)) rfl rfl rfl rfl (wr_gx (ox_move rfl rfl) rfl rfl rfl rfl (wr_gx (ox_indexR (i) hRj.rd.any rfl underlying24 el3 rfl rfl (by omega) (by omega)) rfl rfl rfl rfl (wr_gx (ox_load rfl underlying3 rfl rfl (hRj.any.cell0 hil rfl)) rfl rfl rfl rfl (wr_gx (ox_fieldF fd30_0 rfl rfl) rfl rfl rfl rfl (wr_gx (ox_load rfl underlying3 rfl rfl (hA0 _)) rfl rfl rfl rfl (wr_nil (Qg (ox_geq rfl rfl rfl) rfl (Qx (ox_pick_f rfl rfl rfl) rfl (RnQ ?_)))))))))))))
         refine ws_if rfl (fun h7 => ?_) (fun h7 => ?_)
         ·refine ws_seq (ws_region (Qm rfl (RnQ (ws_ret (nx_block_ret (nx_then_ret (nx_then_ret (nx_block_ret (nx_block_ret (nx_then_ret (nx_then_ret (nx_block_ret (nx_then_ret ?_)))))))))))))
          exact nx_ret1 rfl rfl (by rw [bl_f]; rintro ⟨_, _, _, _, h⟩; have := (h j hjl).2 _ (List.getElem_mem hil); omega)
         ·refine ws_skip (nx_block (nx_then (ws_region (Qm rfl (Qx (ox_add rfl rfl rfl (by omega)) rfl (Qm rfl (wl_nil ?_)))))))
          refine nx_round ((s.vs.getD j []).length - (i + 1)) _ (by omega) ⟨i + 1, rfl, rfl, rfl, rfl, by omega, fun x hx => ?_⟩ Qs
          rw [List.take_succ_eq_append_getElem hil] at hx
          rcases List.mem_append.1 hx with hx | hx
          ·exact hin x hx
          ·have := List.mem_singleton.1 hx
           subst this
           omega
       ·obtain rfl : i = (s.vs.getD j []).length := by omega
        rw [List.take_length] at hin
        refine ws_exit (nx_then_exit (nx_then_exit (nx_block_exit (nx_block (nx_then (ws_region (Qm rfl (Qx (ox_add rfl rfl rfl (by omega)) rfl (Qm rfl (wl_nil ?_))))))))))
        refine nx_round (s.es.length - (j + 1)) _ (by omega) ⟨j + 1, rfl, rfl, rfl, rfl, by omega, fun j' hj' => ?_⟩ Qs
        rcases (by omega : j' < j ∨ j' = j) with h | rfl
        ·exact hno j' h
        ·exact ⟨Decidable.not_not.1 h5, hin⟩
     ·refine ws_exit (nx_then_exit (nx_then_exit (nx_block_exit (nx_then (RsQ (Qm rfl (RnQ (ws_ret ?_))))))))
      exact nx_ret1 rfl rfl (by rw [bl_t]; exact ⟨by omega, by omega, by omega, hlen, fun j' hj' => hno j' (by omega)⟩)
end Go.Proofs.YtdnelknieikbaaaGreat
namespace Go.Proofs.YtdnelknieikbaaaGreat
open Tryz
open Go.Eng Go.RowKit Go.Lin
theorem rechelon_ok (p : Int) (r c : Nat) (f : Nat → Nat → Int) (ev : Value) (h : Hp) (R : RtM p r c f) (hR : RdL cI 1 h [] ev (mat r c f)) :
  FnT Tryz.prog 56 #[.agg #[.int .i64 p, .int .i64 r, .int .i64 c, ev]] h [] (fun x h' ms' => h.le h' ∧ ∃ (F : Nat → Nat → Int) (pv : List Nat) (eu vp : Value) (m m2 : Hp), x = .tuple #[.agg #[.int .i64 p, .int .i64 r, .int .i64 c, eu], vp] ∧ ms' = [m, m2] ∧ OwnL cI 1 3 m eu (mat r c F) ∧ OwnL cI 1 3 m2 vp (pvI pv) ∧ Ech p r c f F pv) := by
 refine fn_enter func56 ntmps56 rfl rfl (fun w0 hw0 => ?_)
 simp only [argS]
 refine RsQ ?_
 refine wl_box [_, _, _, _] rfl rfl (by rfl) rfl rfl rfl (fun g1 => ?_)
 refine AlQ [.int .i64 0, .int .i64 0, .int .i64 0, .slice none 0 0] rfl el42 rfl rfl (fun g2 => Qm rfl (RtQ (Qx (ox_loadG rfl underlying42 rfl el42 rfl rfl (Seg.blk 1 rfl)) rfl (Qx (ox_call rfl call46 rfl (rright_t R hR _)) rfl (Qm rfl (RnQ (ws_seq (RsQ (Qm rfl (Qx (ox_not rfl rfl) rfl (RnQ (ws_cond_f rfl (ws_skip (nx_then (RsQ (Qx (ox_loadG rfl underlying42 rfl el42 rfl rfl (Seg.blk 1 rfl)) rfl ?_))))))))))))))))
 refine wl_call rfl call86 rfl (rreduce_ok p r c f ev h R.pr R.rl (by have := R.cl; omega) R.en hR) rfl rfl rfl (fun x h1 ms1 l1 hF => ?_)
 obtain ⟨l2, F, pv, eu, vp, m, m2, rfl, rfl, hO, hO2, hE⟩ := hF
 have oe : eu.oneCell' = true := (hO.rd (h := h) (ms := [m]) (List.Mem.head _)).rd.one
 refine Qx (ox_extract rfl rfl rfl) rfl (Qx (ox_extract rfl rfl rfl) rfl ?_)
 refine wl_storeAll 2 [_, _, _, _] rfl el42 rfl rfl rfl (by (simp [oe]; done)) rfl rfl rfl rfl rfl ?_
 refine Qm rfl (RnQ (ws_ret (nx_dropAt 3 rfl ?_)))
 exact nx_retD2 (vs := [_, _, _, _]) 2 rfl rfl rfl underlying42 rfl el42 rfl rfl (⟨l1, F, pv, eu, vp, m, m2, rfl, rfl, hO, hO2, hE⟩)
theorem rrank_ok (p : Int) (r c : Nat) (f : Nat → Nat → Int) (ev : Value) (h : Hp) (R : RtM p r c f) (hR : RdL cI 1 h [] ev (mat r c f)) :
  FnT Tryz.prog 29 #[.agg #[.int .i64 p, .int .i64 r, .int .i64 c, ev]] h [] (fun x h' ms' => h.le h' ∧ ms' = [] ∧ ∃ (F : Nat → Nat → Int) (pv : List Nat), x = .int .i64 pv.length ∧ Ech p r c f F pv) := by
 refine fn_enter func29 ntmps29 rfl rfl (fun w0 hw0 => ?_)
 simp only [argS]
 refine RsQ ?_
 refine wl_box [_, _, _, _] rfl rfl (by rfl) rfl rfl rfl (fun g1 => ?_)
 refine Qm rfl (RtQ (Qx (ox_loadG rfl underlying42 rfl el42 rfl rfl (Seg.blk 0 rfl)) rfl (wl_call rfl call56 rfl (rechelon_ok p r c f ev h R hR) rfl rfl rfl (fun x h1 ms1 l1 hF => ?_))))
 obtain ⟨l2, F, pv, eu, vp, m, m2, rfl, rfl, hO, hO2, hE⟩ := hF
 have oe : eu.oneCell' = true := (hO.rd (h := h) (ms := [m]) (List.Mem.head _)).rd.one
 refine Qm rfl (Qx (ox_extract rfl rfl rfl) rfl (Qx (ox_extract rfl rfl rfl) rfl (AlQ [.int .i64 0, .int .i64 0, .int .i64 0, .slice none 0 0] rfl el42 rfl rfl (fun g3 => ?_))))
 refine wl_storeAll 0 [_, _, _, _] rfl el42 rfl rfl rfl (by (simp [oe]; done)) rfl rfl rfl rfl rfl ?_
 refine Qm rfl (RtQ (Qm rfl (Qx (ox_lenS (pvI_rd (h := h) (ms := [m2]) hO2 (List.Mem.head _)) rfl underlying24 rfl) rfl (Qm rfl (RnQ (ws_ret (nx_dropAt 3 rfl (nx_dropAt 2 rfl (nx_dropAt 1 rfl (nx_dropAt 0 rfl ?_))))))))))
 exact nx_ret1 rfl rfl (⟨l1, rfl, F, pv, rfl, hE⟩)
end Go.Proofs.YtdnelknieikbaaaGreat
namespace Go.Lin
variable {Z : Zg} {n : Nat} {b : Nat → Bool}
def Dc.cv (D : Dc) (a b l : Nat) : Bool := decide (D.fr l < a) && decide (b ≤ D.to l)
def Dc.en (D : Dc) (i j l : Nat) : Bool := decide (D.fr l = i) && decide (D.to l = j)
theorem cv_id (D : Dc) (i j : Nat) (hij : i ≤ j) : cnt D.N (D.en i j) + cnt D.N (D.cv i j) + cnt D.N (D.cv (i + 1) (j + 1)) = cnt D.N (D.cv (i + 1) j) + cnt D.N (D.cv i (j + 1)) := by
  have key : ∀ n, cnt n (D.en i j) + cnt n (D.cv i j) + cnt n (D.cv (i + 1) (j + 1)) = cnt n (D.cv (i + 1) j) + cnt n (D.cv i (j + 1)) := fun n => by
    induction n with
    | zero => rfl
    | succ n ih =>
      rw [cnt_succ, cnt_succ, cnt_succ, cnt_succ, cnt_succ]
      have : (if D.en i j n then 1 else 0) + (if D.cv i j n then 1 else 0) + (if D.cv (i + 1) (j + 1) n then 1 else 0) = (if D.cv (i + 1) j n then 1 else 0) + (if D.cv i (j + 1) n then 1 else 0) := by
        unfold Dc.en Dc.cv
        simp only [Bool.and_eq_true, decide_eq_true_eq]
        split <;> split <;> split <;> split <;> split <;> omega
      omega
  exact key D.N
theorem cnt_none (h : ∀ l, l < n → b l = false) : cnt n b = 0 := by
  induction n with
  | zero => rfl
  | succ n ih => rw [cnt_succ, ih fun l hl => h l (by omega), h n (by omega)]; rfl
theorem cv_unique (F : Fld Z.p) {D D' : Dc} (V : Valid Z D) (V' : Valid Z D') {a b : Nat} (hab : a ≤ b + 1) : cnt D.N (D.cv a b) = cnt D'.N (D'.cv a b) := by
  rcases Nat.eq_zero_or_pos a with rfl | ha
  · rw [cnt_none fun l _ => by simp [Dc.cv], cnt_none fun l _ => by simp [Dc.cv]]
  · by_cases hb : b < Z.n
    · have e : ∀ D : Dc, D.cv a b = D.cov (a - 1) b := fun D => funext fun l => by
        unfold Dc.cv Dc.cov
        congr 1
        exact decide_eq_decide.2 (by omega)
      rw [e, e]
      exact cover_unique F V V' (by omega) hb
    · have e : ∀ D : Dc, Valid Z D → cnt D.N (D.cv a b) = 0 := fun D V => cnt_none fun l hl => by
        have := (V.ends l hl).2
        unfold Dc.cv
        rw [decide_eq_false (show ¬ b ≤ D.to l by omega)]; simp
      rw [e D V, e D' V']
theorem en_unique (F : Fld Z.p) {D D' : Dc} (V : Valid Z D) (V' : Valid Z D') (i j : Nat) : cnt D.N (D.en i j) = cnt D'.N (D'.en i j) := by
  by_cases hij : i ≤ j
  · have h := cv_id D i j hij
    have h' := cv_id D' i j hij
    rw [cv_unique F V V' (by omega), cv_unique F V V' (by omega), cv_unique F V V' (by omega), cv_unique F V V' (by omega)] at h
    omega
  · have e : ∀ D : Dc, Valid Z D → cnt D.N (D.en i j) = 0 := fun D V => cnt_none fun l hl => by
      have := (V.ends l hl).1
      unfold Dc.en
      rw [Bool.and_eq_false_iff, decide_eq_false_iff_not, decide_eq_false_iff_not]; omega
    rw [e D V, e D' V']
def Dc.ct (D : Dc) (a : Int × Int) : Nat := cnt D.N fun l => decide (((D.fr l : Int), (D.to l : Int)) = a)
theorem ct_nat (D : Dc) (i j : Nat) : D.ct (i, j) = cnt D.N (D.en i j) := cnt_congr fun l _ => by
  unfold Dc.en
  rw [← Bool.decide_and]
  refine decide_eq_decide.2 ?_
  rw [Prod.mk.injEq]
  omega
theorem ct_neg {D : Dc} {a : Int × Int} (h : a.1 < 0 ∨ a.2 < 0) : D.ct a = 0 := cnt_none fun l _ => decide_eq_false fun e => by
  subst e
  simp only at h
  omega
theorem ct_unique (F : Fld Z.p) {D D' : Dc} (V : Valid Z D) (V' : Valid Z D') (a : Int × Int) : D.ct a = D'.ct a := by
  by_cases h : a.1 < 0 ∨ a.2 < 0
  · rw [ct_neg h, ct_neg h]
  · obtain ⟨x, y⟩ := a
    simp only at h
    obtain ⟨i, rfl⟩ := Int.eq_ofNat_of_zero_le (show 0 ≤ x by omega)
    obtain ⟨j, rfl⟩ := Int.eq_ofNat_of_zero_le (show 0 ≤ y by omega)
    have := en_unique F V V' i j
    rw [← ct_nat, ← ct_nat] at this
    exact this
theorem ct_count {D : Dc} {L : List Nat} {f : Nat → Int × Int} (hp : L.Perm (List.range D.N)) (hf : ∀ k, k < D.N → f k = ((D.fr k : Int), (D.to k : Int))) (a : Int × Int) : (L.map f).count a = D.ct a := by
  rw [(hp.map f).count_eq]
  unfold Dc.ct
  have key : ∀ n, n ≤ D.N → ((List.range n).map f).count a = cnt n fun l => decide (((D.fr l : Int), (D.to l : Int)) = a) := fun n => by
    induction n with
    | zero => intro _; rfl
    | succ n ih =>
      intro hn
      rw [List.range_succ, List.map_append, List.count_append, ih (by omega), cnt_succ]
      congr 1
      rw [← hf n (by omega)]
      by_cases h : f n = a
      · simp [h]
      · simp [h]
  exact key D.N (Nat.le_refl _)
theorem ind_of_dual {p : Int} {d : Nat} {v : Nat → Nat → Int} (u : Nat → Nat → Int) (h : ∀ l, l < n → b l = true → ∀ l', l' < n → b l' = true → Cg p (sm d fun i => u l i * v l' i) (if l' = l then 1 else 0)) : Ind p n b d v := by
  intro c hc l hl hb
  have h1 : Cg p (sm d fun i => u l i * comb n b c v i) (sm d fun i => u l i * 0) := Cg.sm fun i hi => (Cg.refl p _).mul (hc i hi)
  rw [sm_zero' (f := fun i => u l i * 0) fun i _ => Int.mul_zero _] at h1
  have e : (sm d fun i => u l i * comb n b c v i) = sm n fun l' => if b l' then c l' * sm d (fun i => u l i * v l' i) else 0 := by
    unfold comb
    rw [sm_congr (g := fun i => sm n fun l' => u l i * (if b l' then c l' * v l' i else 0)) fun i _ => (sm_mul _ _ _).symm, sm_comm]
    refine sm_congr fun l' _ => ?_
    cases b l' with
    | false => simp [sm_zero]
    | true =>
      simp only [if_true]
      rw [← sm_mul]
      exact sm_congr fun i _ => by rw [← Int.mul_assoc, Int.mul_comm (u l i), Int.mul_assoc]
  rw [e] at h1
  have h2 : Cg p (sm n fun l' => if b l' then c l' * sm d (fun i => u l i * v l' i) else 0) (sm n fun l' => if l' = l then c l' else 0) := Cg.sm fun l' hl' => by
    cases hb' : b l' with
    | false =>
      have : l' ≠ l := fun e => by subst e; rw [hb] at hb'; cases hb'
      simp [this, Cg.refl]
    | true =>
      have := (Cg.refl p (c l')).mul (h l hl hb l' hl' hb')
      by_cases e : l' = l
      · subst e; simpa using this
      · simpa [e] using this
  rw [sm_delta n l c hl] at h2
  have := h2.symm.trans h1
  unfold Cg at this
  rwa [Int.sub_zero] at this
def all (n : Nat) (b : Nat → Bool) : Bool := (List.range n).all b
theorem all_iff : all n b = true ↔ ∀ i, i < n → b i = true := by simp [all]
def validB (Z : Zg) (D : Dc) (U : Nat → Nat → Nat → Int) : Bool :=
  all D.N (fun l => decide (D.fr l ≤ D.to l) && decide (D.to l < Z.n)) &&
  all Z.n (fun k => all D.N (fun l => !D.on k l || all D.N fun l' => !D.on k l' || decide ((sm (Z.d k) fun i => U k l i * D.vec l' k i) % Z.p = (if l' = l then 1 else 0) % Z.p))) &&
  all Z.n (fun k => decide (cnt D.N (D.on k) = Z.d k)) &&
  all (Z.n - 1) (fun k => all D.N fun l => !D.on (Z.src k) l || all (Z.d (Z.tgt k)) fun i => decide (ap (Z.mat k) (Z.d (Z.src k)) (D.vec l (Z.src k)) i % Z.p = (if D.on (Z.tgt k) l then D.vec l (Z.tgt k) i else 0) % Z.p))
theorem validB_ok {D : Dc} (U : Nat → Nat → Nat → Int) (h : validB Z D U = true) : Valid Z D := by
  unfold validB at h
  simp only [Bool.and_eq_true, all_iff, Bool.or_eq_true, Bool.not_eq_true', decide_eq_true_eq] at h
  obtain ⟨⟨⟨h1, h2⟩, h3⟩, h4⟩ := h
  refine ⟨h1, fun k hk => ind_of_dual (U k) fun l hl hb l' hl' hb' => Cg.iff_mod.2 ?_, h3, fun k hk l hl ho i hi => Cg.iff_mod.2 ?_⟩
  · rcases h2 k hk l hl with e | e
    · rw [hb] at e; cases e
    · rcases e l' hl' with e | e
      · rw [hb'] at e; cases e
      · exact e
  · rcases h4 k (by omega) l hl with e | e
    · rw [ho] at e; cases e
    · exact e i hi
end Go.Lin
namespace Go.Proofs.YtdnelknieikbaaaGreat
open Tryz
open Go.Eng Go.RowKit Go.Lin Go.Sort Go.Srt
variable {k r c n t : Nat} {p : Int} {f : Nat → Nat → Int}
theorem ech_uniq (Fp : Lin.Fld p) {F F' : Nat → Nat → Int} {pv pv' : List Nat} (E : Ech p r c f F pv) (E' : Ech p r c f F' pv') : pv.length = pv'.length := by
 have go : ∀ {F F' : Nat → Nat → Int} {pv pv' : List Nat}, Red p r c f F pv c → Red p r c f F' pv' c → pv.length ≤ pv'.length := fun {F F' pv pv'} R R' => by
  have := exchange Fp (piv_ind R) fun l hl _ => piv_spn R' hl
  rwa [piv_cnt R, piv_cnt R'] at this
 exact Nat.le_antisymm (go E.red E'.red) (go E'.red E.red)
open Classical in
noncomputable def rkf (p : Int) (r c : Nat) (f : Nat → Nat → Int) : Nat := if h : ∃ (F : Nat → Nat → Int) (pv : List Nat), Ech p r c f F pv then (Classical.choose (Classical.choose_spec h)).length else 0
theorem rkf_eq (Fp : Lin.Fld p) {F : Nat → Nat → Int} {pv : List Nat} (E : Ech p r c f F pv) : rkf p r c f = pv.length := by
 unfold rkf
 rw [dif_pos ⟨F, pv, E⟩]
 exact ech_uniq Fp (Classical.choose_spec (Classical.choose_spec (⟨F, pv, E⟩ : ∃ (F : Nat → Nat → Int) (pv : List Nat), Ech p r c f F pv))) E
theorem rrank_v (p : Int) (r c : Nat) (f : Nat → Nat → Int) (ev : Value) (h : Hp) (R : RtM p r c f) (hR : RdL cI 1 h [] ev (mat r c f)) (ms : List Hp) : FnV Tryz.prog 29 #[.agg #[.int .i64 p, .int .i64 r, .int .i64 c, ev]] h ms (.int .i64 (rkf p r c f)) :=
 fnv ((rrank_ok p r c f ev h R hR).mono fun x h' ms' ⟨_, _, F, pv, e, hE⟩ => by rw [e, rkf_eq R.pr.fld hE]) ms
theorem ech_ex (Fp : Lin.Fld p) (hf : InP p r c f) : ∃ (F : Nat → Nat → Int) (pv : List Nat), Ech p r c f F pv := by
 have key : ∀ j, j ≤ c → ∃ (F : Nat → Nat → Int) (pv : List Nat), Red p r c f F pv j := fun j => by
  induction j with
  | zero => exact fun _ => ⟨f, [], Red.start hf⟩
  | succ j ih =>
   intro hj
   obtain ⟨F, pv, R⟩ := ih (by omega)
   by_cases hz : ∃ i, i < r ∧ pv.length ≤ i ∧ F i j ≠ 0
   ·obtain ⟨i, hi, hl, hne⟩ := hz
    have hb := R.bd i hi j (by omega)
    obtain ⟨v, hv⟩ := Fp.inv (F i j) fun hd => by
     have := Int.le_of_dvd (by omega) hd
     omega
    have h1 := Cg.iff_mod.1 hv
    have h2 := Fp.two
    rw [Int.emod_eq_of_lt (show (0 : Int) ≤ 1 by omega) (by omega)] at h1
    exact ⟨_, _, R.step Fp.two hi hl (by omega) h1⟩
   ·exact ⟨F, pv, R.skip fun i hi hl => Classical.byContradiction fun hn => hz ⟨i, hi, hl, hn⟩⟩
 obtain ⟨F, pv, R⟩ := key c (Nat.le_refl _)
 exact ⟨F, pv, ⟨R⟩⟩
theorem rkf_full (Fp : Lin.Fld p) (hf : InP p r c f) : rkf p r c f = c ↔ Ind p c tt r (fun l i => f i l) := by
 obtain ⟨F, pv, E⟩ := ech_ex Fp hf
 rw [rkf_eq Fp E]
 exact full_ind Fp E.red
theorem getD_I {l : List Int} {j : Nat} (h : j < l.length) : l.getD j 0 = l[j] := by simp [List.getD, h]
def dcL (l : List SV) : Dc := ⟨l.length, fun t => (l.getD t default).e.fr.toNat, fun t => (l.getD t default).e.to.toNat, fun t k i => ((l.getD t default).at_ k).getD i 0⟩
theorem sv_getD {l : List SV} (ht : t < l.length) : l.getD t default = l[t] := by simp [List.getD, ht]
theorem dcL_on {Z : Zz} {l : List SV} (hS : ∀ s ∈ l, s.Shp Z) (ht : t < l.length) (k : Nat) : (dcL l).on k t = decide (l[t].on k) := by
 have h := hS _ (List.getElem_mem ht)
 have h1 := h.1
 have h2 := h.2.1
 rw [Bool.eq_iff_iff, Dc.on_iff, decide_eq_true_iff]
 show (l.getD t default).e.fr.toNat ≤ k ∧ k ≤ (l.getD t default).e.to.toNat ↔ l[t].e.fr ≤ k ∧ (k : Int) ≤ l[t].e.to
 rw [sv_getD ht]
 omega
theorem SV.Shp.row {Z : Zz} (hRt : Z.Rt) {s : SV} (h : s.Shp Z) (ho : s.on k) : (s.at_ k).length = Z.zg.d k ∧ ∀ x ∈ s.at_ k, 0 ≤ x ∧ x < Z.p := by
 have h1 := h.2.2.2.2 _ (SV.ix h.long ho)
 have h2 := h.1
 have h3 := ho.1
 rw [show s.e.fr.toNat + (k - s.e.fr.toNat) = k by omega, ← Z.zg_d hRt k] at h1
 exact ⟨by have := h1.1; unfold SV.at_; omega, h1.2⟩
def rowsL (l : List SV) (k n : Nat) : List Int := (sel n ((dcL l).on k)).flatMap fun t => (l.getD t default).at_ k
theorem rowsL_yes {l : List SV} (h : (dcL l).on k n = true) : rowsL l k (n + 1) = rowsL l k n ++ (l.getD n default).at_ k ∧ cnt (n + 1) ((dcL l).on k) = cnt n ((dcL l).on k) + 1 := by
 unfold rowsL
 rw [sel_succ, h, cnt_succ, h]
 simp
theorem rowsL_no {l : List SV} (h : (dcL l).on k n = false) : rowsL l k (n + 1) = rowsL l k n ∧ cnt (n + 1) ((dcL l).on k) = cnt n ((dcL l).on k) := by
 unfold rowsL
 rw [sel_succ, h, cnt_succ, h]
 simp
theorem flat_mat {d : Nat} (f : Nat → List Int) : ∀ (L : List Nat), (∀ t ∈ L, (f t).length = d) → L.flatMap f = mat L.length d fun i j => (f (L.getD i 0)).getD j 0 := by
 intro L
 have key : ∀ n, n ≤ L.length → (∀ t ∈ L, (f t).length = d) → (L.take n).flatMap f = mat n d fun i j => (f (L.getD i 0)).getD j 0 := fun n => by
  induction n with
  | zero => intro _ _; simp [mat]
  | succ n ih =>
   intro hn hl
   have hn' : n < L.length := by omega
   rw [List.take_succ_eq_append_getElem hn', List.flatMap_append, ih (by omega) hl, ← mat_row_succ]
   congr 1
   have e : L.getD n 0 = L[n] := by simp [List.getD, hn']
   rw [List.flatMap_singleton, e]
   have h2 := vec_of (f L[n])
   rw [hl _ (List.getElem_mem hn')] at h2
   exact h2
 intro hl
 have := key L.length (Nat.le_refl _) hl
 rwa [List.take_length] at this
def matL (l : List SV) (k i j : Nat) : Int := ((l.getD ((sel l.length ((dcL l).on k)).getD i 0) default).at_ k).getD j 0
def BasP (Z : Zz) (l : List SV) (k : Nat) : Prop := cnt l.length ((dcL l).on k) = Z.zg.d k ∧ Ind Z.p l.length ((dcL l).on k) (Z.zg.d k) fun t => (dcL l).vec t k
section
variable {Z : Zz} {l : List SV}
theorem mem_on (hS : ∀ s ∈ l, s.Shp Z) (hn : n ≤ l.length) (h : t ∈ sel n ((dcL l).on k)) : ∃ ht : t < l.length, l[t].on k := by
 obtain ⟨h1, h2⟩ := mem_sel.1 h
 have ht : t < l.length := by omega
 rw [dcL_on hS ht] at h2
 exact ⟨ht, of_decide_eq_true h2⟩
theorem rowsL_mat (hRt : Z.Rt) (hS : ∀ s ∈ l, s.Shp Z) (k : Nat) : rowsL l k l.length = mat (cnt l.length ((dcL l).on k)) (Z.zg.d k) (matL l k) :=
 flat_mat (fun t => (l.getD t default).at_ k) _ fun t ht => by
  obtain ⟨h1, h2⟩ := mem_on hS (Nat.le_refl _) ht
  rw [sv_getD h1]
  exact ((hS _ (List.getElem_mem h1)).row hRt h2).1
theorem matL_bd (hRt : Z.Rt) (hS : ∀ s ∈ l, s.Shp Z) {i j : Nat} (hi : i < cnt l.length ((dcL l).on k)) (hj : j < Z.zg.d k) : 0 ≤ matL l k i j ∧ matL l k i j < Z.p := by
 have hi' : i < (sel l.length ((dcL l).on k)).length := hi
 have hm : (sel l.length ((dcL l).on k)).getD i 0 ∈ sel l.length ((dcL l).on k) := by simp [List.getD, hi']
 obtain ⟨h1, h2⟩ := mem_on hS (Nat.le_refl _) hm
 obtain ⟨h3, h4⟩ := (hS _ (List.getElem_mem h1)).row hRt h2
 unfold matL
 rw [sv_getD h1]
 have hj' : j < (l[(sel l.length ((dcL l).on k)).getD i 0].at_ k).length := by omega
 rw [getD_I hj']
 exact h4 _ (List.getElem_mem hj')
theorem rows_ind (Fp : Lin.Fld Z.p) (hn : cnt l.length ((dcL l).on k) = n) : Ind Z.p n tt n (fun t i => matL l k i t) ↔ Ind Z.p l.length ((dcL l).on k) n fun t => (dcL l).vec t k := by
 have h1 : Ind Z.p n tt n (fun t i => matL l k i t) ↔ Ind Z.p n tt n (fun t i => matL l k t i) := ⟨fun h => ind_turn (f := matL l k) Fp h, fun h => ind_turn (f := fun i j => matL l k j i) Fp h⟩
 rw [h1]
 subst hn
 exact ⟨fun h => ind_of_list (L := sel l.length ((dcL l).on k)) (v := fun t => (dcL l).vec t k) (List.Perm.refl _) h, fun h => list_of_ind (v := fun t => (dcL l).vec t k) (List.Perm.refl _) h⟩
end
theorem rowsL_len {Z : Zz} (hRt : Z.Rt) {l : List SV} (hS : ∀ s ∈ l, s.Shp Z) (k : Nat) : ∀ n, n ≤ l.length → (rowsL l k n).length ≤ n * 200
 | 0, _ => by simp [rowsL, sel]
 | n + 1, hn => by
  have ih := rowsL_len hRt hS k n (by omega)
  have hn' : n < l.length := by omega
  cases h : (dcL l).on k n with
  | false => rw [(rowsL_no h).1]; omega
  | true =>
   rw [(rowsL_yes h).1, List.length_append, sv_getD hn']
   rw [dcL_on hS hn'] at h
   have := ((hS _ (List.getElem_mem hn')).row hRt (of_decide_eq_true h)).1
   have := Z.d_le hRt k
   omega
theorem cnt_le (n : Nat) (b : Nat → Bool) : cnt n b ≤ n := by
 unfold cnt sel
 exact Nat.le_trans (List.length_filter_le _ _) (by simp)
theorem rbasis_ok (Z : Zz) (vd va : Value) (l : List SV) (vl : Value) (k : Nat) (h : Hp) (hRt : Z.Rt) (hR : RdZ h vd va Z) (hL : RdSs h vl l) (hS : ∀ s ∈ l, s.Shp Z) (hk : k < Z.dims.length) (hN : l.length ≤ 1000000) :
  FnT Tryz.prog 61 #[.agg #[.int .i64 Z.p, vd, va], vl, .int .i64 k] h [] (fun r _ _ => r = .bool (bl (BasP Z l k))) := by
 have o1 := hR.d.rd.one
 have o2 := hR.a.rd.one
 have hp := hRt.2.2.2.1
 have hbp := hp.1
 have hbp2 := hp.2.1
 have n1 := hRt.2.1
 have hd := Z.d_le hRt k
 refine fn_enter func61 ntmps61 rfl rfl (fun w0 hw0 => ?_)
 simp only [argS]
 refine RsQ ?_
 refine wl_box [_, _, _] rfl rfl (by rfl) rfl rfl rfl (fun g3 => ?_)
 refine Qm rfl (RnQ (ws_freezeB fun h1 l1 hS3 => ?_))
 have hR := hR.up l1
 have hL := hL.up l1
 have hA := Seg.all hS3
 have hA0 := hA 0 _ rfl
 have hdk : ∀ ms, Cell h1 ms ((vbase vd).add (k * 1)) (.int .i64 (Z.zg.d k)) := fun ms => by
  rw [Z.zg_d hRt k]
  exact zdim hR hk
 refine ws_cut (fun s hh ms' => ∃ (g7 : Nat) (xe : Value) (mx : Hp), s = [(1, vl), (2, .int .i64 k), (3, .pointer (some ⟨g3, 0, none⟩)), (7, .pointer (some ⟨g7, 0, none⟩))] ∧ h1 = hh ∧ ms' = [Blk g7 42 [.int .i64 Z.p, .int .i64 (0 : Nat), .int .i64 (Z.zg.d k), xe], mx] ∧ OwnL cI 1 3 mx xe []) ?_ (fun s h ms hI => ?_)
 ·refine ws_stab (n := 10) (bs := [true, true, true, true, true, true, true, false, false, false]) [true, true, true, true, true, true, true] fol (by kernel_rfl) (by kernel_rfl) rfl rfl (Qp rfl (ox_fieldF fd30_0 rfl rfl) (Qp rfl (ox_load rfl underlying3 rfl rfl (hA0 _)) (Qp rfl (ox_fieldF fd30_1 rfl rfl) (Qp rfl (ox_load rfl underlying24 rfl rfl (hA _ _ rfl _)) (Qp rfl (ox_move rfl rfl) (Qp rfl (ox_indexR (k) hR.d.rd.any rfl underlying24 el3 rfl rfl (by omega) (by omega)) (Qp rfl (ox_load rfl underlying3 rfl rfl (hdk _)) ?_)))))))
  unfold PZs
  simp only [List.cons_append, List.nil_append]
  refine wb_step [7, 8] (by kernel_rfl) rfl ?_
  refine wbl_cons rfl ?_ ?_
  ·refine wl_call rfl call23 rfl (rzero_ok Z.p ((0 : Nat) : Int) (Z.zg.d k) h1 ⟨by omega, by omega⟩) rfl rfl rfl (fun x7 h7 ms7 l7 hF => ?_)
   rw [mkZ_nat hp (show 0 ≤ 400 by omega) (show Z.zg.d k ≤ 400 by omega)] at hF
   obtain ⟨rfl, xe, mx, rfl, rfl, hOx⟩ := hF
   have ox : xe.oneCell' = true := (hOx.rd (h := h) (ms := [mx]) (List.Mem.head _)).rd.one
   have e0 : (mkM Z.p 0 (Z.zg.d k) fun _ _ => 0).e = [] := by simp [mkM, mat]
   rw [e0] at hOx
   refine Qw (Qo 8 rfl (AlQ [.int .i64 0, .int .i64 0, .int .i64 0, .slice none 0 0] rfl el42 rfl rfl (fun g7 => Qw (Qo 9 rfl ?_))))
   refine wl_storeAll 0 [_, _, _, _] rfl el42 rfl rfl rfl (by (simp [ox]; done)) rfl rfl rfl rfl rfl ?_
   refine Qw (Qe ?_)
   exact nx_meet _ ⟨g7, xe, mx, rfl, rfl, rfl, hOx⟩ Qs
  refine wbl_cons rfl ?_ ?_
  ·refine AlQ [.int .i64 0, .int .i64 0, .int .i64 0, .slice none 0 0] rfl el42 rfl rfl (fun g7 => Qw (Qo 7 rfl ?_))
   refine wl_call rfl call23 rfl (rzero_ok Z.p ((0 : Nat) : Int) (Z.zg.d k) h1 ⟨by omega, by omega⟩) rfl rfl rfl (fun x7 h7 ms7 l7 hF => ?_)
   rw [mkZ_nat hp (show 0 ≤ 400 by omega) (show Z.zg.d k ≤ 400 by omega)] at hF
   obtain ⟨rfl, xe, mx, rfl, rfl, hOx⟩ := hF
   have ox : xe.oneCell' = true := (hOx.rd (h := h) (ms := [mx]) (List.Mem.head _)).rd.one
   have e0 : (mkM Z.p 0 (Z.zg.d k) fun _ _ => 0).e = [] := by simp [mkM, mat]
   rw [e0] at hOx
   refine Qw (Qo 9 rfl ?_)
   refine wl_storeAll 1 [_, _, _, _] rfl el42 rfl rfl rfl (by (simp [ox]; done)) rfl rfl rfl rfl rfl ?_
   refine Qw (Qe ?_)
   exact nx_swap (nx_meet _ ⟨g7, xe, mx, rfl, rfl, rfl, hOx⟩ Qs)
  exact wbl_nil
 ·obtain ⟨g7, xe, mx, rfl, rfl, rfl, hOx⟩ := hI
  refine ws_seq (RsQ (Qm rfl (RnQ (ws_block ?_))))
  refine ws_loop (fun q sl hh ms' => ∃ (i : Nat) (xe : Value) (mx : Hp), q = l.length - i ∧ sl = [(1, vl), (2, .int .i64 k), (3, .pointer (some ⟨g3, 0, none⟩)), (7, .pointer (some ⟨g7, 0, none⟩)), (8, .int .i64 i)] ∧ h1 = hh ∧ ms' = [Blk g7 42 [.int .i64 Z.p, .int .i64 (cnt i ((dcL l).on k)), .int .i64 (Z.zg.d k), xe], mx] ∧ i ≤ l.length ∧ OwnL cI 1 3 mx xe (rowsL l k i))
   (l.length - 0) _ ⟨0, xe, mx, rfl, rfl, rfl, rfl, by omega, hOx⟩ Qs ?_
  rintro q sl hh ms' ⟨i, xe, mx, rfl, rfl, rfl, rfl, hi, hOx⟩
  refine ws_seq (RsQ (Qm rfl (Qm rfl (Qx (ox_lenR hL.q.rd.any rfl underlying60 rfl) rfl (Qx (ox_lss rfl rfl rfl) rfl (RnQ ?_))))))
  refine ws_if rfl (fun hlt => ?_) (fun hlt => ?_)
  ·have hil : i < l.length := nat_lt_of hlt
   have hmem : l[i] ∈ l := List.getElem_mem hil
   have hsh := hS _ hmem
   have hW := hL.w _ hmem
   have hseg : ∀ ms, Seg h1 ms ((vbase vl).add (i * 3)) (cSV l[i]) := fun ms => (hL.q.any (ms := ms)).seg hil
   have hvo := hW.vv_one hsh.long k
   have hon := dcL_on hS hil k
   have hrl := rowsL_len hRt hS k i hi
   have hcl := cnt_le i ((dcL l).on k)
   refine ws_skip (nx_then (ws_seq (ws_block (RsQ (Qm rfl (Qm rfl (Qx (ox_indexR (i) hL.q.rd.any rfl underlying60 el64 rfl rfl (by omega) (by omega)) rfl (Qx (ox_loadG rfl underlying64 rfl el64 rfl rfl (hseg _)) rfl (Qm rfl (Qx (ox_call rfl call93 rfl (rvector_v l[i] k h1 hW hsh.long (by omega) _)) rfl (Qm rfl (Qx (ox_extract rfl rfl rfl) rfl (Qx (ox_extract rfl rfl rfl) rfl (Qm rfl (Qm rfl (RtQ (Qm rfl (RnQ ?_))))))))))))))))))
   refine ws_if rfl (fun hc => ?_) (fun hc => ?_)
   ·have hRv := hW.vv hsh.long hc
    have hrw := hsh.row hRt hc
    rw [decide_eq_true hc] at hon
    obtain ⟨e1, e2⟩ := rowsL_yes hon
    rw [sv_getD hil] at e1
    refine RsQ (Qx (ox_fieldF fd42_3 rfl rfl) rfl (Qx (ox_load rfl underlying24 rfl rfl (Cell.blk 0 (k := 3) rfl rfl)) rfl (Qm rfl (wl_appendL 1 hOx hRv.any rfl underlying24 el3 rfl (by omega) rfl rfl rfl cI_one (by omega) (by omega) rfl rfl rfl (fun xe2 mx2 hOx2 => ?_)))))
    have ox2 : xe2.oneCell' = true := (hOx2.rd (h := h1) (ms := [mx2]) (List.Mem.head _)).rd.one
    refine Qx (ox_fieldF fd42_3 rfl rfl) rfl ?_
    refine wl_storeAt 0 _ rfl el24 rfl rfl (by assumption) rfl rfl (by (simp; done)) rfl rfl ?_
    refine RrQ (Qx (ox_fieldF fd42_1 rfl rfl) rfl (Qx (ox_load rfl underlying3 rfl rfl (Cell.blk 0 (k := 1) rfl rfl)) rfl (Qx (ox_add rfl rfl rfl (by omega)) rfl (Qx (ox_fieldF fd42_1 rfl rfl) rfl ?_))))
    refine wl_storeAt 0 _ rfl el3 rfl rfl (by rfl) rfl rfl (by (simp; done)) rfl rfl ?_
    refine wl_nil (nx_block (nx_then (ws_region (Qm rfl (Qx (ox_add rfl rfl rfl (by omega)) rfl (Qm rfl (wl_nil ?_)))))))
    refine nx_round (l.length - (i + 1)) _ (by omega) ⟨i + 1, xe2, mx2, rfl, rfl, rfl, by rw [e2]; rfl, by omega, by rw [e1]; exact hOx2⟩ Qs
   ·rw [decide_eq_false hc] at hon
    obtain ⟨e1, e2⟩ := rowsL_no hon
    refine ws_skip (nx_block (nx_then (ws_region (Qm rfl (Qx (ox_add rfl rfl rfl (by omega)) rfl (Qm rfl (wl_nil ?_)))))))
    refine nx_round (l.length - (i + 1)) _ (by omega) ⟨i + 1, xe, mx, rfl, rfl, rfl, by rw [e2], by omega, by rw [e1]; exact hOx⟩ Qs
  ·obtain rfl : i = l.length := by omega
   rw [rowsL_mat hRt hS k] at hOx
   have hone : xe.oneCell' = true := (hOx.rd (h := h1) (ms := [mx]) (List.Mem.head _)).rd.one
   refine ws_freezeB fun h4 l4 hS7 => (ws_freezeL hOx fun h5 l5 hRx => ?_)
   have hS7 := hS7.le l5
   have hC := Seg.all hS7
   have hR := hR.up (Hp.le_trans l4 l5)
   have hA := Seg.all (hS3.le (Hp.le_trans l4 l5))
   have hdk : ∀ ms, Cell h5 ms ((vbase vd).add (k * 1)) (.int .i64 (Z.zg.d k)) := fun ms => by
    rw [Z.zg_d hRt k]
    exact zdim hR hk
   refine ws_exit (nx_then_exit (nx_then_exit (nx_block_exit (nx_then (ws_seq (ws_draw 16 fol (by kernel_rfl) rfl (wr_x (ox_fieldF fd42_1 rfl rfl) rfl rfl (wr_x (ox_load rfl underlying3 rfl rfl (hC _ _ rfl _)) rfl rfl (wr_x (ox_fieldF fd30_1 rfl rfl) rfl rfl (wr_x (ox_load rfl underlying24 rfl rfl (hA _ _ rfl _)) rfl rfl (wr_x (ox_move rfl rfl) rfl rfl (wr_x (ox_indexR (k) hR.d.rd.any rfl underlying24 el3 rfl rfl (by omega) (by omega)) rfl rfl (wr_x (ox_load rfl underlying3 rfl rfl (hdk _)) rfl rfl (wr_x (ox_eqi rfl rfl rfl) rfl rfl (wr_x (ox_move rfl rfl) rfl rfl ?_)))))))))))))))
   refine wr_split (t := 52) rfl (fun hc => ?_) (fun hc => ?_)
   ·have hce : cnt l.length ((dcL l).on k) = Z.zg.d k := by omega
    have RM : RtM Z.p (cnt l.length ((dcL l).on k)) (Z.zg.d k) (matL l k) := ⟨hp, by omega, by omega, fun a ha b hb => matL_bd hRt hS ha hb⟩
    refine wr_gx (ox_loadG rfl underlying42 rfl el42 rfl rfl (Seg.any hS7)) rfl rfl rfl rfl (wr_gx (ox_call rfl call29 rfl (rrank_v Z.p _ _ (matL l k) xe h5 RM hRx _)) rfl rfl rfl rfl (wr_gx (ox_fieldF fd30_1 rfl rfl) rfl rfl rfl rfl (wr_gx (ox_load rfl underlying24 rfl rfl (hA _ _ rfl _)) rfl rfl rfl rfl (wr_gx (ox_move rfl rfl) rfl rfl rfl rfl (wr_gx (ox_indexR (k) hR.d.rd.any rfl underlying24 el3 rfl rfl (by omega) (by omega)) rfl rfl rfl rfl (wr_gx (ox_load rfl underlying3 rfl rfl (hdk _)) rfl rfl rfl rfl (wr_nil (Qg (ox_eqi rfl rfl rfl) rfl (Qx (ox_pick_t rfl rfl rfl) rfl (Qm rfl (RnQ (ws_ret ?_))))))))))))
    exact nx_ret1 rfl rfl (by unfold bl; congr 1; rw [decide_eq_decide, BasP, ← rows_ind hp.fld hce, hce]; rw [← rkf_full hp.fld (hce ▸ RM.en)]; exact ⟨fun h => ⟨rfl, by omega⟩, fun h => by rw [h.2]⟩)
   ·refine wr_skip rfl rfl rfl rfl rfl (wr_skip rfl rfl rfl rfl rfl (wr_skip rfl rfl rfl rfl rfl (wr_skip rfl rfl rfl rfl rfl (wr_skip rfl rfl rfl rfl rfl (wr_skip rfl rfl rfl rfl rfl (wr_skip rfl rfl rfl rfl rfl (wr_nil (Qk rfl (Qx (ox_pick_f rfl rfl rfl) rfl (Qm rfl (RnQ (ws_ret ?_))))))))))))
    exact nx_ret1 rfl rfl (by rw [bl_f]; rintro ⟨h, _⟩; omega)
end Go.Proofs.YtdnelknieikbaaaGreat
namespace Go.Proofs.YtdnelknieikbaaaGreat
open Tryz
open Go.Eng Go.RowKit Go.Lin Go.Sort Go.Srt
def CarP (p : Int) (r c : Nat) (f : Nat → Nat → Int) (s : SV) (a b : Nat) : Prop := s.on a → ∀ i, i < r → ap f c (fun j => (s.at_ a).getD j 0) i % p = if s.on b then (s.at_ b).getD i 0 else 0
theorem rcarried_v (p : Int) (r c : Nat) (f : Nat → Nat → Int) (ev : Value) (s : SV) (a b : Nat) (h : Hp) (R : RtM p r c f) (hM : RdL cI 1 h [] ev (mat r c f)) (hW : RdW h s) (hL : s.Long) (hv : s.on a → (s.at_ a).length = c ∧ ∀ x ∈ s.at_ a, 0 ≤ x ∧ x < p) (hw : s.on b → (s.at_ b).length = r) (ha : a ≤ 1000) (hb : b ≤ 1000) (ms : List Hp) :
  FnV Tryz.prog 62 #[.agg #[.int .i64 p, .int .i64 r, .int .i64 c, ev], .agg #[.int .i64 s.e.fr, .int .i64 s.e.to, s.e.v], .int .i64 a, .int .i64 b] h ms (.bool (bl (CarP p r c f s a b))) := by
 refine fnv ?_ ms
 have ov := s.e.one
 have o1 := hM.rd.one
 have hbd := R.bd
 have rl := R.rl
 have cl := R.cl
 have hrc : r * c ≤ 400 * 400 := Nat.mul_le_mul rl cl
 have el : (mat r c f).length = r * c := mat_len _ _ _
 have oa := hW.vv_one hL a
 have ob := hW.vv_one hL b
 refine fn_enter func62 ntmps62 rfl rfl (fun w0 hw0 => ?_)
 simp only [argS]
 refine RsQ ?_
 refine wl_box [_, _, _, _] rfl rfl (by rfl) rfl rfl rfl (fun g4 => ?_)
 refine wl_box [_, _, _] rfl rfl (by rfl) rfl rfl rfl (fun g5 => ?_)
 refine Qm rfl (RnQ (ws_freezeB fun h1 l1 hS5 => (ws_freezeB fun h2 l2 hS4 => ?_)))
 have hS5 := hS5.le l2
 have hM := hM.up (Hp.le_trans l1 l2)
 have hW := hW.up (Hp.le_trans l1 l2)
 have hA := Seg.all hS4
 refine RsQ (Qx (ox_loadG rfl underlying64 rfl el64 rfl rfl (Seg.any hS5)) rfl (Qm rfl (Qx (ox_call rfl call93 rfl (rvector_v s a h2 hW hL ha _)) rfl (Qm rfl (Qx (ox_extract rfl rfl rfl) rfl (Qx (ox_extract rfl rfl rfl) rfl (Qm rfl (Qm rfl (RnQ (ws_seq (RsQ (Qm rfl (Qx (ox_not rfl rfl) rfl (RnQ ?_))))))))))))))
 refine ws_cond rfl (fun hc => ?_) (fun hc => ?_)
 ·have hc : ¬ s.on a := by simpa using hc
  refine RsQ (Qm rfl (RnQ (ws_ret (nx_then_ret ?_))))
  exact nx_ret1 rfl rfl (by rw [bl_t]; exact fun h => absurd h hc)
 ·have hc : s.on a := by simpa using hc
  obtain ⟨e1, e2⟩ := hv hc
  have hV := hW.vv hL hc
  have ew := vec_of (s.at_ a)
  rw [e1] at ew
  rw [ew] at hV
  have hwb : ∀ j, j < c → 0 ≤ (s.at_ a).getD j 0 ∧ (s.at_ a).getD j 0 < p := fun j hj => by
   have hj' : j < (s.at_ a).length := by omega
   rw [getD_I hj']
   exact e2 _ (List.getElem_mem hj')
  have evl := vec_len c fun j => (s.at_ a).getD j 0
  have hM0 := hA 0 _ rfl
  refine ws_skip (nx_then (RsQ (Qx (ox_loadG rfl underlying64 rfl el64 rfl rfl (Seg.any hS5)) rfl (Qm rfl (Qx (ox_call rfl call93 rfl (rvector_v s b h2 hW hL hb _)) rfl (Qm rfl (Qx (ox_extract rfl rfl rfl) rfl (Qx (ox_extract rfl rfl rfl) rfl (Qm rfl (Qm rfl (RnQ (ws_seq (RsQ (Qm rfl (RnQ (ws_block ?_))))))))))))))))
  refine ws_loop (fun q sl hh ms' => ∃ (i : Nat), q = r - i ∧ sl = [(4, .pointer (some ⟨g4, 0, none⟩)), (9, s.vv a), (11, s.vv b), (12, .bool (decide (s.on b))), (13, .int .i64 i)] ∧ h2 = hh ∧ ms' = [] ∧ i ≤ r ∧ ∀ i', i' < i → ap f c (fun j => (s.at_ a).getD j 0) i' % p = if s.on b then (s.at_ b).getD i' 0 else 0)
   (r - 0) _ ⟨0, rfl, rfl, rfl, rfl, by omega, fun i' h => by omega⟩ Qs ?_
  rintro q sl hh ms' ⟨i, rfl, rfl, rfl, rfl, hi, hno⟩
  refine ws_seq (RsQ (Qm rfl (Qx (ox_fieldF fd42_1 rfl rfl) rfl (Qx (ox_load rfl underlying3 rfl rfl (hA _ _ rfl _)) rfl (Qx (ox_lss rfl rfl rfl) rfl (RnQ ?_))))))
  refine ws_if rfl (fun hlt => ?_) (fun hlt => ?_)
  ·have hir : i < r := by omega
   refine ws_skip (nx_then (ws_seq (ws_block (RsQ (Qm rfl (RnQ (ws_seq (RsQ (Qm rfl (RnQ (ws_block ?_)))))))))))
   refine ws_loop (fun q sl hh ms' => ∃ (j : Nat) (x : Int), q = c - j ∧ sl = [(4, .pointer (some ⟨g4, 0, none⟩)), (9, s.vv a), (11, s.vv b), (12, .bool (decide (s.on b))), (13, .int .i64 i), (14, .int .i64 x), (15, .int .i64 j)] ∧ h2 = hh ∧ ms' = [] ∧ j ≤ c ∧ x = sm j (fun t => f i t * (s.at_ a).getD t 0) % p)
    (c - 0) _ ⟨0, 0, rfl, rfl, rfl, rfl, by omega, (Int.zero_emod p).symm⟩ Qs ?_
   rintro q sl hh ms' ⟨j, x, rfl, rfl, rfl, rfl, hj, hx⟩
   have x0 : 0 ≤ x := by rw [hx]; exact Int.emod_nonneg _ (by omega)
   have x1 : x < p := by rw [hx]; exact Int.emod_lt_of_pos _ (by omega)
   refine ws_seq (RsQ (Qm rfl (Qx (ox_fieldF fd42_2 rfl rfl) rfl (Qx (ox_load rfl underlying3 rfl rfl (hA _ _ rfl _)) rfl (Qx (ox_lss rfl rfl rfl) rfl (RnQ ?_))))))
   refine ws_if rfl (fun hlt2 => ?_) (fun hlt2 => ?_)
   ·have hjc : j < c := by omega
    have hix := ix_lt hir hjc
    have hbm := mul_bd (R.en i hir j hjc) (hwb j hjc) hbd.2
    refine ws_skip (nx_then (ws_seq (ws_block (ws_draw 19 fol (by kernel_rfl) rfl (wr_x (ox_move rfl rfl) rfl rfl (wr_x (ox_fieldF fd42_3 rfl rfl) rfl rfl (wr_x (ox_load rfl underlying24 rfl rfl (hA _ _ rfl _)) rfl rfl (wr_x (ox_move rfl rfl) rfl rfl (wr_x (ox_fieldF fd42_2 rfl rfl) rfl rfl (wr_x (ox_load rfl underlying3 rfl rfl (hA _ _ rfl _)) rfl rfl (wr_x (ox_mul rfl rfl rfl (by omega)) rfl rfl (wr_x (ox_move rfl rfl) rfl rfl (wr_x (ox_add rfl rfl rfl (by omega)) rfl rfl (wr_x (ox_indexR (i * c + j) hM.rd.any rfl underlying24 el3 rfl rfl (by omega) (by omega)) rfl rfl (wr_x (ox_load rfl underlying3 rfl rfl (hM.any.ent hir hjc)) rfl rfl (wr_x (ox_move rfl rfl) rfl rfl (wr_x (ox_move rfl rfl) rfl rfl (wr_x (ox_indexR (j) hV.rd.any rfl underlying24 el3 rfl rfl (by omega) (by omega)) rfl rfl (wr_x (ox_load rfl underlying3 rfl rfl (hV.any.ev hjc)) rfl rfl (wr_x (ox_mul rfl rfl rfl (by omega)) rfl rfl (wr_x (ox_add rfl rfl rfl (by omega)) rfl rfl (wr_x (ox_fieldF fd42_0 rfl rfl) rfl rfl (wr_x (ox_load rfl underlying3 rfl rfl (hM0 _)) rfl rfl (wr_nil (Qx (ox_remP rfl rfl rfl (by omega) (by omega)) rfl (Qm rfl (wl_nil (nx_block (nx_then (ws_region (Qm rfl (Qx (ox_add rfl rfl rfl (by omega)) rfl (Qm rfl (wl_nil ?_))))))))))))))))))))))))))))))))))
    refine nx_round (c - (j + 1)) _ (by omega) ⟨j + 1, (x + f i j * (s.at_ a).getD j 0) % p, rfl, rfl, rfl, rfl, by omega, ?_⟩ Qs
    rw [hx, Int.emod_add_emod]
    rfl
   ·obtain rfl : j = c := by omega
    have hx : ap f j (fun j => (s.at_ a).getD j 0) i % p = x := hx.symm
    by_cases hto : s.on b
    ·have hw' := hw hto
     have hV2 := hW.vv hL hto
     have ew2 := vec_of (s.at_ b)
     rw [hw'] at ew2
     rw [ew2] at hV2
     have evl2 := vec_len r fun j => (s.at_ b).getD j 0
     rw [decide_eq_true hto]
     refine ws_exit (nx_then_exit (nx_then_exit (nx_block_exit (nx_then (RsQ (Qm rfl (Qm rfl (Qg (ox_move rfl rfl) rfl (Qg (ox_move rfl rfl) rfl (Qg (ox_move rfl rfl) rfl (Qg (ox_indexR (i) hV2.rd.any rfl underlying24 el3 rfl rfl (by omega) (by omega)) rfl (Qg (ox_load rfl underlying3 rfl rfl (hV2.any.ev hir)) rfl (Qg (ox_nei rfl rfl rfl) rfl (Qx (ox_pick_t rfl rfl rfl) rfl (Qm rfl ?_)))))))))))))))
     refine wl_split (t := 71) rfl (fun hne => ?_) (fun hne => ?_)
     ·refine Qk rfl (Qk rfl (Qk rfl (wl_skipu rfl rfl rfl rfl rfl rfl (wl_skipu rfl rfl rfl rfl rfl rfl (Qk rfl (Qx (ox_pick_t rfl rfl rfl) rfl (RnQ (ws_cond_t rfl (RsQ (Qm rfl (RnQ (ws_ret (nx_block_ret (nx_then_ret (nx_then_ret (nx_block_ret (nx_then_ret ?_)))))))))))))))))
      exact nx_ret1 rfl rfl (by rw [bl_f]; intro h; have := h hc i hir; rw [if_pos hto, hx] at this; exact hne this)
     ·refine Qg (ox_move rfl rfl) rfl (Qg (ox_not rfl rfl) rfl (Qg (ox_move rfl rfl) rfl (Qk rfl (Qk rfl (Qg (ox_pick_f rfl rfl rfl) rfl (Qx (ox_pick_f rfl rfl rfl) rfl (RnQ (ws_cond_f rfl (ws_skip (nx_block (nx_then (ws_region (Qm rfl (Qx (ox_add rfl rfl rfl (by omega)) rfl (Qm rfl (wl_nil ?_))))))))))))))))
      refine nx_round (r - (i + 1)) _ (by omega) ⟨i + 1, rfl, rfl, rfl, rfl, by omega, fun i' hi' => ?_⟩ Qs
      rcases (by omega : i' < i ∨ i' = i) with h | rfl
      ·exact hno i' h
      ·rw [if_pos hto, hx]; exact Decidable.not_not.1 hne
    ·rw [decide_eq_false hto]
     refine ws_exit (nx_then_exit (nx_then_exit (nx_block_exit (nx_then (RsQ (Qm rfl (Qm rfl (Qk rfl (Qk rfl (Qk rfl (Qk rfl (Qk rfl (Qk rfl (Qx (ox_pick_f rfl rfl rfl) rfl (Qm rfl (Qg (ox_move rfl rfl) rfl (Qg (ox_not rfl rfl) rfl (Qg (ox_move rfl rfl) rfl (Qg (ox_move rfl rfl) rfl (Qg (ox_nei rfl rfl rfl) rfl (Qg (ox_pick_t rfl rfl rfl) rfl (Qx (ox_pick_f rfl rfl rfl) rfl (RnQ ?_)))))))))))))))))))))))
     refine ws_if rfl (fun hne => ?_) (fun hne => ?_)
     ·refine ws_seq (ws_region (Qm rfl (RnQ (ws_ret (nx_block_ret (nx_then_ret (nx_then_ret (nx_block_ret (nx_then_ret ?_)))))))))
      exact nx_ret1 rfl rfl (by rw [bl_f]; intro h; have := h hc i hir; rw [if_neg hto, hx] at this; exact hne this)
     ·refine ws_skip (nx_block (nx_then (ws_region (Qm rfl (Qx (ox_add rfl rfl rfl (by omega)) rfl (Qm rfl (wl_nil ?_)))))))
      refine nx_round (r - (i + 1)) _ (by omega) ⟨i + 1, rfl, rfl, rfl, rfl, by omega, fun i' hi' => ?_⟩ Qs
      rcases (by omega : i' < i ∨ i' = i) with h | rfl
      ·exact hno i' h
      ·rw [if_neg hto, hx]; exact Decidable.not_not.1 hne
  ·refine ws_exit (nx_then_exit (nx_then_exit (nx_block_exit (nx_then (RsQ (Qm rfl (RnQ (ws_ret ?_))))))))
   exact nx_ret1 rfl rfl (by rw [bl_t]; exact fun _ i' hi' => hno i' (by omega))
def ChkP (Z : Zz) (l : List SV) : Prop := Z.Rt ∧ (∀ s ∈ l, s.Shp Z) ∧ Valid Z.zg (dcL l)
def ArrP (Z : Zz) (k : Nat) (s : SV) : Prop := CarP Z.p (Z.zg.d (Z.zg.tgt k)) (Z.zg.d (Z.zg.src k)) (Z.zg.mat k) s (Z.zg.src k) (Z.zg.tgt k)
theorem arr_iff {Z : Zz} (hRt : Z.Rt) {l : List SV} (hS : ∀ s ∈ l, s.Shp Z) {k t : Nat} (hk : k < Z.ars.length) (ht : t < l.length) : ArrP Z k l[t] ↔ ((dcL l).on (Z.zg.src k) t = true → ∀ i, i < Z.zg.d (Z.zg.tgt k) → Cg Z.p (ap (Z.zg.mat k) (Z.zg.d (Z.zg.src k)) ((dcL l).vec t (Z.zg.src k)) i) (if (dcL l).on (Z.zg.tgt k) t then (dcL l).vec t (Z.zg.tgt k) i else 0)) := by
 have hsh := hS _ (List.getElem_mem ht)
 have hp := hRt.2.2.2.1.1
 have ev : ∀ k i, (dcL l).vec t k i = (l[t].at_ k).getD i 0 := fun k i => by
  show ((l.getD t default).at_ k).getD i 0 = _
  rw [sv_getD ht]
 rw [dcL_on hS ht, dcL_on hS ht, decide_eq_true_iff]
 unfold ArrP CarP
 refine forall_congr' fun ho => forall_congr' fun i => forall_congr' fun hi => ?_
 rw [Cg.iff_mod]
 have e1 : ap (Z.zg.mat k) (Z.zg.d (Z.zg.src k)) (fun j => (l[t].at_ (Z.zg.src k)).getD j 0) i = ap (Z.zg.mat k) (Z.zg.d (Z.zg.src k)) ((dcL l).vec t (Z.zg.src k)) i := sm_congr fun j _ => by rw [ev]
 rw [e1]
 have e2 : (if decide (l[t].on (Z.zg.tgt k)) = true then (dcL l).vec t (Z.zg.tgt k) i else 0) % Z.p = if l[t].on (Z.zg.tgt k) then (l[t].at_ (Z.zg.tgt k)).getD i 0 else 0 := by
  by_cases h : l[t].on (Z.zg.tgt k)
  ·rw [if_pos (decide_eq_true h), if_pos h, ev]
   obtain ⟨h1, h2⟩ := hsh.row hRt h
   have hi' : i < (l[t].at_ (Z.zg.tgt k)).length := by omega
   rw [getD_I hi']
   have := h2 _ (List.getElem_mem hi')
   exact Int.emod_eq_of_lt this.1 this.2
  ·rw [if_neg (by simpa using h), if_neg h, Int.zero_emod]
 rw [e2]
theorem valid_iff {Z : Zz} (hRt : Z.Rt) {l : List SV} (hS : ∀ s ∈ l, s.Shp Z) : Valid Z.zg (dcL l) ↔ (∀ k, k < Z.dims.length → BasP Z l k) ∧ ∀ k, k < Z.ars.length → ∀ t (ht : t < l.length), ArrP Z k l[t] := by
 have hna := Z.nars hRt
 constructor
 ·exact fun V => ⟨fun k hk => ⟨V.cnt k hk, V.ind k hk⟩, fun k hk t ht => (arr_iff hRt hS hk ht).2 fun ho i hi => V.arr k (show k + 1 < Z.dims.length by omega) t ht ho i hi⟩
 ·rintro ⟨h1, h2⟩
  refine ⟨fun t ht => ?_, fun k hk => (h1 k hk).2, fun k hk => (h1 k hk).1, fun k hk t ht ho i hi => ?_⟩
  ·have ht' : t < l.length := ht
   have hsh := hS _ (List.getElem_mem ht')
   show (l.getD t default).e.fr.toNat ≤ (l.getD t default).e.to.toNat ∧ (l.getD t default).e.to.toNat < Z.dims.length
   rw [sv_getD ht']
   have q1 := hsh.1
   have q2 := hsh.2.1
   have q3 := hsh.2.2.1
   omega
  ·have hk' : k + 1 < Z.dims.length := hk
   exact (arr_iff hRt hS (by omega) ht).1 (h2 k (by omega) t ht) ho i hi
theorem rcheck_ok (Z : Zz) (vd va : Value) (l : List SV) (vl : Value) (h : Hp) (hO : Z.Ok) (hR : RdZ h vd va Z) (hL : RdSs h vl l) (hN : l.length ≤ 1000000) : FnT Tryz.prog 31 #[.agg #[.int .i64 Z.p, vd, va], vl] h [] (fun r _ _ => r = .bool (bl (ChkP Z l))) := by
 have o1 := hR.d.rd.one
 have o2 := hR.a.rd.one
 refine fn_enter func31 ntmps31 rfl rfl (fun w0 hw0 => ?_)
 simp only [argS]
 refine RsQ ?_
 refine wl_box [_, _, _] rfl rfl (by rfl) rfl rfl rfl (fun g2 => ?_)
 refine Qm rfl (RnQ (ws_freezeB fun h1 l1 hS2 => ?_))
 have hR := hR.up l1
 have hL := hL.up l1
 have hA := Seg.all hS2
 refine RsQ (Qx (ox_loadG rfl underlying30 rfl el30 rfl rfl (Seg.any hS2)) rfl (Qx (ox_call rfl call22 rfl (fnv (rzright_ok Z vd va _ hO hR) _)) rfl (Qm rfl (RnQ (ws_seq (RsQ (Qm rfl (Qx (ox_not rfl rfl) rfl (RnQ ?_)))))))))
 refine ws_cond rfl (fun hb => ?_) (fun hb => ?_)
 ·have hb : ¬ Z.Rt := by simpa using hb
  refine RsQ (Qm rfl (RnQ (ws_ret (nx_then_ret ?_))))
  exact nx_ret1 rfl rfl (by rw [bl_f]; exact fun h => hb h.1)
 ·have hRt : Z.Rt := by simpa using hb
  have n1 := hRt.1
  have n2 := hRt.2.1
  have hna := Z.nars hRt
  refine ws_skip (nx_then (ws_seq (RsQ (Qm rfl (RnQ (ws_block ?_))))))
  refine ws_loop (fun q sl hh ms' => ∃ (i : Nat), q = l.length - i ∧ sl = [(1, vl), (2, .pointer (some ⟨g2, 0, none⟩)), (6, .int .i64 i)] ∧ h1 = hh ∧ ms' = [] ∧ i ≤ l.length ∧ ∀ i' (hi' : i' < l.length), i' < i → l[i'].Shp Z)
   (l.length - 0) _ ⟨0, rfl, rfl, rfl, rfl, by omega, fun i' _ h => by omega⟩ Qs ?_
  rintro q sl hh ms' ⟨i, rfl, rfl, rfl, rfl, hi, hno⟩
  refine ws_seq (RsQ (Qm rfl (Qm rfl (Qx (ox_lenR hL.q.rd.any rfl underlying60 rfl) rfl (Qx (ox_lss rfl rfl rfl) rfl (RnQ ?_))))))
  refine ws_if rfl (fun hlt => ?_) (fun hlt => ?_)
  ·have hil : i < l.length := nat_lt_of hlt
   have hW := hL.w _ (List.getElem_mem hil)
   have hseg : ∀ ms, Seg h1 ms ((vbase vl).add (i * 3)) (cSV l[i]) := fun ms => (hL.q.any (ms := ms)).seg hil
   refine ws_skip (nx_then (ws_seq (ws_block (ws_seq (ws_draw 5 fol (by kernel_rfl) rfl (wr_x (ox_loadG rfl underlying30 rfl el30 rfl rfl (Seg.any hS2)) rfl rfl (wr_x (ox_move rfl rfl) rfl rfl (wr_x (ox_move rfl rfl) rfl rfl (wr_x (ox_indexR (i) hL.q.rd.any rfl underlying60 el64 rfl rfl (by omega) (by omega)) rfl rfl (wr_x (ox_loadG rfl underlying64 rfl el64 rfl rfl (hseg _)) rfl rfl (wr_nil (Qx (ox_call rfl call60 rfl (rshaped_v Z vd va l[i] h1 hRt hR hW _)) rfl (Qm rfl (RtQ (Qm rfl (Qx (ox_not rfl rfl) rfl (RnQ ?_)))))))))))))))))
   refine ws_cond rfl (fun hb2 => ?_) (fun hb2 => ?_)
   ·refine ws_seq (ws_region (Qm rfl (RnQ (ws_ret (nx_block_ret (nx_then_ret (nx_then_ret (nx_block_ret (nx_then_ret ?_)))))))))
    exact nx_ret1 rfl rfl (by rw [bl_f]; intro h; rw [bl_t (h.2.1 _ (List.getElem_mem hil))] at hb2; simp at hb2)
   ·have hs : l[i].Shp Z := bl_iff.1 (by simpa using hb2)
    refine ws_skip (nx_block (nx_then (ws_region (Qm rfl (Qx (ox_add rfl rfl rfl (by omega)) rfl (Qm rfl (wl_nil ?_)))))))
    refine nx_round (l.length - (i + 1)) _ (by omega) ⟨i + 1, rfl, rfl, rfl, rfl, by omega, fun i' hi' h => ?_⟩ Qs
    rcases (by omega : i' < i ∨ i' = i) with h | rfl
    ·exact hno i' hi' h
    ·exact hs
  ·have hS : ∀ s ∈ l, s.Shp Z := fun s hs => by
    obtain ⟨t, ht, rfl⟩ := List.mem_iff_getElem.1 hs
    exact hno t ht (by omega)
   have hA0 := hA 0 _ rfl
   refine ws_exit (nx_then_exit (nx_then_exit (nx_block_exit (nx_then (ws_seq (RsQ (Qm rfl (RnQ (ws_block ?_)))))))))
   refine ws_loop (fun q sl hh ms' => ∃ (k : Nat), q = Z.dims.length - k ∧ sl = [(1, vl), (2, .pointer (some ⟨g2, 0, none⟩)), (8, .int .i64 k)] ∧ h1 = hh ∧ ms' = [] ∧ k ≤ Z.dims.length ∧ ∀ k', k' < k → BasP Z l k')
    (Z.dims.length - 0) _ ⟨0, rfl, rfl, rfl, rfl, by omega, fun k' h => by omega⟩ Qs ?_
   rintro q sl hh ms' ⟨k, rfl, rfl, rfl, rfl, hk, hbas⟩
   refine ws_seq (RsQ (Qm rfl (Qx (ox_fieldF fd30_1 rfl rfl) rfl (Qx (ox_load rfl underlying24 rfl rfl (hA _ _ rfl _)) rfl (Qx (ox_lenR hR.d.rd.any rfl underlying24 rfl) rfl (Qx (ox_lss rfl rfl rfl) rfl (RnQ ?_)))))))
   refine ws_if rfl (fun hlt2 => ?_) (fun hlt2 => ?_)
   ·have hkl : k < Z.dims.length := by omega
    refine ws_skip (nx_then (ws_seq (ws_block (RsQ (Qx (ox_loadG rfl underlying30 rfl el30 rfl rfl (Seg.any hS2)) rfl (Qm rfl (Qm rfl (Qx (ox_call rfl call61 rfl (fnv (rbasis_ok Z vd va l vl k h1 hRt hR hL hS hkl hN) _)) rfl (Qm rfl (RtQ (Qm rfl (Qx (ox_not rfl rfl) rfl (RnQ ?_)))))))))))))
    refine ws_cond rfl (fun hb3 => ?_) (fun hb3 => ?_)
    ·refine ws_seq (ws_region (Qm rfl (RnQ (ws_ret (nx_block_ret (nx_then_ret (nx_then_ret (nx_block_ret (nx_then_ret ?_)))))))))
     exact nx_ret1 rfl rfl (by rw [bl_f]; intro h; rw [bl_t (((valid_iff hRt hS).1 h.2.2).1 k hkl)] at hb3; simp at hb3)
    ·have hs : BasP Z l k := bl_iff.1 (by simpa using hb3)
     refine ws_skip (nx_block (nx_then (ws_region (Qm rfl (Qx (ox_add rfl rfl rfl (by omega)) rfl (Qm rfl (wl_nil ?_)))))))
     refine nx_round (Z.dims.length - (k + 1)) _ (by omega) ⟨k + 1, rfl, rfl, rfl, rfl, by omega, fun k' h => ?_⟩ Qs
     rcases (by omega : k' < k ∨ k' = k) with h | rfl
     ·exact hbas k' h
     ·exact hs
   ·have hB : ∀ k, k < Z.dims.length → BasP Z l k := fun k' h => hbas k' (by omega)
    refine ws_exit (nx_then_exit (nx_then_exit (nx_block_exit (nx_then (ws_seq (RsQ (Qm rfl (RnQ (ws_block ?_)))))))))
    refine ws_loop (fun q sl hh ms' => ∃ (k : Nat), q = Z.ars.length - k ∧ sl = [(1, vl), (2, .pointer (some ⟨g2, 0, none⟩)), (10, .int .i64 k)] ∧ h1 = hh ∧ ms' = [] ∧ k ≤ Z.ars.length ∧ ∀ k', k' < k → ∀ t (ht : t < l.length), ArrP Z k' l[t])
     (Z.ars.length - 0) _ ⟨0, rfl, rfl, rfl, rfl, by omega, fun k' h => by omega⟩ Qs ?_
    rintro q sl hh ms' ⟨k, rfl, rfl, rfl, rfl, hk, harr⟩
    refine ws_seq (RsQ (Qm rfl (Qx (ox_fieldF fd30_2 rfl rfl) rfl (Qx (ox_load rfl underlying28 rfl rfl (hA _ _ rfl _)) rfl (Qx (ox_lenR hR.a.rd.any rfl underlying28 rfl) rfl (Qx (ox_lss rfl rfl rfl) rfl (RnQ ?_)))))))
    refine ws_if rfl (fun hlt3 => ?_) (fun hlt3 => ?_)
    ·have hka : k < Z.ars.length := by omega
     refine ws_skip (nx_then (ws_seq (ws_block (RsQ (Qm rfl (RnQ (ws_block ?_)))))))
     refine ws_loop (fun q sl hh ms' => ∃ (t : Nat), q = l.length - t ∧ sl = [(1, vl), (2, .pointer (some ⟨g2, 0, none⟩)), (10, .int .i64 k), (11, .int .i64 t)] ∧ h1 = hh ∧ ms' = [] ∧ t ≤ l.length ∧ ∀ t' (ht : t' < l.length), t' < t → ArrP Z k l[t'])
      (l.length - 0) _ ⟨0, rfl, rfl, rfl, rfl, by omega, fun t' _ h => by omega⟩ Qs ?_
     rintro q sl hh ms' ⟨t, rfl, rfl, rfl, rfl, ht, harr2⟩
     refine ws_seq (RsQ (Qm rfl (Qm rfl (Qx (ox_lenR hL.q.rd.any rfl underlying60 rfl) rfl (Qx (ox_lss rfl rfl rfl) rfl (RnQ ?_))))))
     refine ws_if rfl (fun hlt4 => ?_) (fun hlt4 => ?_)
     ·have htl : t < l.length := nat_lt_of hlt4
      have hmem := List.getElem_mem htl
      have hW := hL.w _ hmem
      have hsh := hS _ hmem
      have hseg : ∀ ms, Seg h1 ms ((vbase vl).add (t * 3)) (cSV l[t]) := fun ms => (hL.q.any (ms := ms)).seg htl
      obtain ⟨f1, f2, f3, f4, f5⟩ := Z.arrow hRt hka
      have ho := hR.e _ (List.getElem_mem hka)
      have oav := ho.rd.one
      obtain ⟨es, et⟩ := Z.zg_src hka
      have hb4 := Z.zg_back hka
      refine ws_skip (nx_then ?_)
      refine ws_cut (fun sl hh ms' => sl = [(1, vl), (2, .pointer (some ⟨g2, 0, none⟩)), (10, .int .i64 k), (11, .int .i64 t)] ∧ h1 = hh ∧ ms' = [] ∧ ArrP Z k l[t]) ?_ (fun s h ms hI => ?_)
      ·refine ws_block (RsQ (Qm rfl (Qm rfl (RtQ (Qm rfl (Qx (ox_add rfl rfl rfl (by omega)) rfl (Qm rfl (RnQ ?_))))))))
       refine ws_cut (fun sl hh ms' => ∃ a b : Int, sl = [(1, vl), (2, .pointer (some ⟨g2, 0, none⟩)), (10, .int .i64 k), (11, .int .i64 t), (12, .int .i64 a), (13, .int .i64 b)] ∧ h1 = hh ∧ ms' = [] ∧ a = Z.zg.src k ∧ b = Z.zg.tgt k) ?_ (fun s h ms hI => ?_)
       ·refine ws_seq (ws_region (Qx (ox_fieldF fd30_2 rfl rfl) rfl (Qx (ox_load rfl underlying28 rfl rfl (hA _ _ rfl _)) rfl (Qm rfl (Qx (ox_indexR (k) hR.a.rd.any rfl underlying28 el45 rfl rfl (by omega) (by omega)) rfl (Qx (ox_fieldF fd45_0 rfl rfl) rfl (Qx (ox_load rfl underlying4 rfl rfl (hR.a.any.cell hka rfl)) rfl (RnQ ?_))))))))
        refine ws_cond rfl (fun hb5 => ?_) (fun hb5 => ?_)
        ·refine ws_seq (ws_region (Qm rfl (Qx (ox_add rfl rfl rfl (by omega)) rfl (Qm rfl (RrQ (Qm rfl (Qm rfl (wl_nil ?_))))))))
         exact nx_meet _ ⟨(k : Int) + 1, (k : Int), rfl, rfl, rfl, by rw [es]; unfold Ar.src; rw [hb5]; rfl, by rw [et]; unfold Ar.tgt; rw [hb5]; rfl⟩ Qs
        ·refine ws_skip ?_
         exact nx_meet _ ⟨(k : Int), (k : Int) + 1, rfl, rfl, rfl, by rw [es]; unfold Ar.src; rw [hb5]; rfl, by rw [et]; unfold Ar.tgt; rw [hb5]; rfl⟩ Qs
       ·obtain ⟨a, b, rfl, rfl, rfl, rfl, rfl⟩ := hI
        have hsrc : Z.zg.src k ≤ 1000 := by rcases Z.zg.src_tgt k with ⟨e, _, _⟩ | ⟨e, _, _⟩ <;> omega
        have htgt : Z.zg.tgt k ≤ 1000 := by rcases Z.zg.src_tgt k with ⟨_, e, _⟩ | ⟨_, e, _⟩ <;> omega
        have hcar : ∀ ms, FnV Tryz.prog 62 #[.agg #[.int .i64 Z.ars[k].M.p, .int .i64 Z.ars[k].M.rows, .int .i64 Z.ars[k].M.cols, Z.ars[k].v], .agg #[.int .i64 l[t].e.fr, .int .i64 l[t].e.to, l[t].e.v], .int .i64 (Z.zg.src k), .int .i64 (Z.zg.tgt k)] h1 ms (.bool (bl (ArrP Z k l[t]))) := fun ms => by
         rw [f1, f2, f3]
         rw [f4] at ho
         exact rcarried_v Z.p _ _ _ _ l[t] _ _ h1 f5 ho hW hsh.long (fun h => hsh.row hRt h) (fun h => (hsh.row hRt h).1) hsrc htgt ms
        refine ws_seq (ws_draw 12 fol (by kernel_rfl) rfl (wr_x (ox_fieldF fd30_2 rfl rfl) rfl rfl (wr_x (ox_load rfl underlying28 rfl rfl (hA _ _ rfl _)) rfl rfl (wr_x (ox_move rfl rfl) rfl rfl (wr_x (ox_indexR (k) hR.a.rd.any rfl underlying28 el45 rfl rfl (by omega) (by omega)) rfl rfl (wr_x (ox_fieldF fd45_1 rfl rfl) rfl rfl (wr_x (ox_loadG rfl underlying42 rfl el42 rfl rfl (seg_mat hR hka)) rfl rfl (wr_x (ox_move rfl rfl) rfl rfl (wr_x (ox_move rfl rfl) rfl rfl (wr_x (ox_indexR (t) hL.q.rd.any rfl underlying60 el64 rfl rfl (by omega) (by omega)) rfl rfl (wr_x (ox_loadG rfl underlying64 rfl el64 rfl rfl (hseg _)) rfl rfl (wr_x (ox_move rfl rfl) rfl rfl (wr_x (ox_move rfl rfl) rfl rfl (wr_nil (Qx (ox_call rfl call62 rfl (hcar _)) rfl (Qm rfl (RtQ (Qm rfl (Qx (ox_not rfl rfl) rfl (RnQ ?_))))))))))))))))))))
        refine ws_cond rfl (fun hb6 => ?_) (fun hb6 => ?_)
        ·refine ws_seq (ws_region (Qm rfl (RnQ (ws_ret (nx_block_ret (nx_then_ret (nx_then_ret (nx_block_ret (nx_block_ret (nx_then_ret (nx_then_ret (nx_block_ret (nx_then_ret ?_)))))))))))))
         exact nx_ret1 rfl rfl (by rw [bl_f]; intro h; rw [bl_t (((valid_iff hRt hS).1 h.2.2).2 k hka t htl)] at hb6; simp at hb6)
        ·have hs : ArrP Z k l[t] := bl_iff.1 (by simpa using hb6)
         refine ws_skip (nx_block ?_)
         exact nx_meet _ ⟨rfl, rfl, rfl, hs⟩ Qs
      ·obtain ⟨rfl, rfl, rfl, hs⟩ := hI
       refine ws_region (Qm rfl (Qx (ox_add rfl rfl rfl (by omega)) rfl (Qm rfl (wl_nil ?_))))
       refine nx_round (l.length - (t + 1)) _ (by omega) ⟨t + 1, rfl, rfl, rfl, rfl, by omega, fun t' ht' h => ?_⟩ Qs
       rcases (by omega : t' < t ∨ t' = t) with h | rfl
       ·exact harr2 t' ht' h
       ·exact hs
     ·refine ws_exit (nx_then_exit (nx_then_exit (nx_block_exit (nx_block (nx_then (ws_region (Qm rfl (Qx (ox_add rfl rfl rfl (by omega)) rfl (Qm rfl (wl_nil ?_))))))))))
      refine nx_round (Z.ars.length - (k + 1)) _ (by omega) ⟨k + 1, rfl, rfl, rfl, rfl, by omega, fun k' h t' ht' => ?_⟩ Qs
      rcases (by omega : k' < k ∨ k' = k) with h | rfl
      ·exact harr k' h t' ht'
      ·exact harr2 t' ht' (by omega)
    ·refine ws_exit (nx_then_exit (nx_then_exit (nx_block_exit (nx_then (RsQ (Qm rfl (RnQ (ws_ret ?_))))))))
     exact nx_ret1 rfl rfl (by rw [bl_t]; exact ⟨hRt, hS, (valid_iff hRt hS).2 ⟨hB, fun k' hk' t ht => harr k' (by omega) t ht⟩⟩)
end Go.Proofs.YtdnelknieikbaaaGreat
namespace Go.Proofs.YtdnelknieikbaaaGreat
open Go.Eng Go.RowKit Go.Lin Go.Sort Go.Srt
end Go.Proofs.YtdnelknieikbaaaGreat
namespace Go.Proofs.YtdnelknieikbaaaGreat
open Go.Eng Go.RowKit Go.Lin Go.Sort Go.Srt
end Go.Proofs.YtdnelknieikbaaaGreat
namespace Go.Proofs.YtdnelknieikbaaaGreat
open Go.Eng Go.RowKit Go.Lin Go.Sort Go.Srt
end Go.Proofs.YtdnelknieikbaaaGreat
namespace Go.Proofs.YtdnelknieikbaaaGreat
open Tryz
open Go.Eng Go.RowKit Go.Lin Go.Sort Go.Srt
def cvS : Value := .func (.func 59) #[] #[]
theorem insS_ok (d : Array StE) (v : Value) (m : Hp) (hO : OS m v d) (a b : Nat) (hab : a ≤ b) (hb : b ≤ d.size) (hsz : d.size ≤ 1000000) (h : Hp) {a' b' : Int} (ea : a' = a) (eb : b' = b) :
  FnT Tryz.prog 117 #[v, .int .i64 a', .int .i64 b', cvS] h [m] (fun _ h' ms' => h = h' ∧ ∃ m' d', ms' = [m'] ∧ OS m' v d' ∧ PermIn a b d d' ∧ SortedIn ltS a b d') := by
 subst ea eb
 have hfin := insertionSort_holds (lt := ltS) ltS_swo d a b hab hb
 refine fn_enter func117 ntmps117 rfl rfl (fun w0 hw0 => ?_)
 simp only [argS]
 refine RsQ (Qm rfl (Qx (ox_add rfl rfl rfl (by omega)) rfl (Qm rfl (RnQ (ws_block ?_)))))
 refine ws_loop (fun n s h' ms' => ∃ (i : Nat) (z : Int) (d' : Array StE) (m : Hp), n = b - i ∧ s = [(0, v), (1, .int .i64 a), (2, .int .i64 b), (3, cvS), (8, .int .i64 z)] ∧ h = h' ∧ ms' = [m] ∧ z = i ∧ a < i ∧ i ≤ 4611686018427387905 ∧ OS m v d' ∧ d'.size = d.size ∧ insOuter ltS a b i d' = insertionSort ltS d a b)
  _ _ ⟨a + 1, (a : Int) + 1, d, m, rfl, rfl, rfl, rfl, by omega, by omega, by omega, hO, rfl, rfl⟩ Qs ?_
 rintro n s h' ms' ⟨i, z, d', m, rfl, rfl, rfl, rfl, hz, hai, hi, hO, hds, hR⟩
 refine ws_seq (RsQ (Qm rfl (Qm rfl (Qx (ox_lss rfl rfl rfl) rfl (RnQ ?_)))))
 refine ws_if rfl (fun hlt => ?_) (fun hlt => ?_)
 ·refine ws_skip (nx_then (ws_seq (ws_block (RsQ (Qm rfl (Qm rfl (RnQ (ws_block ?_))))))))
  refine ws_loop (fun n s h' ms' => ∃ (j : Nat) (y : Int) (d' : Array StE) (m : Hp), j = n ∧ s = [(0, v), (1, .int .i64 a), (2, .int .i64 b), (3, cvS), (8, .int .i64 z), (9, .int .i64 y)] ∧ h = h' ∧ ms' = [m] ∧ y = j ∧ j ≤ i ∧ OS m v d' ∧ d'.size = d.size ∧ insOuter ltS a b (i + 1) (insInner ltS a j d') = insertionSort ltS d a b)
   _ _ ⟨i, z, d', m, rfl, rfl, rfl, rfl, hz, by omega, hO, hds, by rw [← hR]; conv => rhs; unfold insOuter; rw [if_pos (by omega)]⟩ Qs ?_
  rintro n s h' ms' ⟨j, y, d1, m1, rfl, rfl, rfl, rfl, hy, hji, hO1, hds1, hR1⟩
  refine ws_seq (ws_seq (ws_draw 14 fol (by kernel_rfl) rfl (wr_x (ox_move rfl rfl) rfl rfl (wr_x (ox_move rfl rfl) rfl rfl (wr_x (ox_gtr rfl rfl rfl) rfl rfl (wr_x (ox_move rfl rfl) rfl rfl ?_))))))
  refine wr_split (t := 21) rfl (fun hja => ?_) (fun hja => ?_)
  ·refine wr_gx (ox_move rfl rfl) rfl rfl rfl rfl (wr_gx (ox_move rfl rfl) rfl rfl rfl rfl (wr_gx (ox_move rfl rfl) rfl rfl rfl rfl (wr_gx (ox_indexR (j) (hO1.rd (.head _)) rfl underlying60 el64 rfl rfl (by omega) (by omega)) rfl rfl rfl rfl (wr_gx (ox_loadG rfl underlying64 rfl el64 rfl rfl (hO1.get (.head _) (by omega))) rfl rfl rfl rfl (wr_gx (ox_move rfl rfl) rfl rfl rfl rfl (wr_gx (ox_move rfl rfl) rfl rfl rfl rfl (wr_gx (ox_sub rfl rfl rfl (by omega)) rfl rfl rfl rfl (wr_gx (ox_indexR (j - 1) (hO1.rd (.head _)) rfl underlying60 el64 rfl rfl (by omega) (by omega)) rfl rfl rfl rfl (wr_gx (ox_loadG rfl underlying64 rfl el64 rfl rfl (hO1.get (.head _) (by omega))) rfl rfl rfl rfl (wr_nil (Qg (ox_callv rfl rfl call59 rfl (cmpS_v _ _ _ _)) rfl (Qg (ox_lss rfl rfl rfl) rfl (Qx (ox_pick_t rfl rfl rfl) rfl (RnQ ?_))))))))))))))
   refine ws_cond rfl (fun hl => ?_) (fun hl => ?_)
   ·refine ws_skip (nx_then (ws_seq (ws_block (ws_drawP 14 [false, false, true, true, true] fol (by kernel_rfl) (by kernel_rfl) (by kernel_rfl) (pz_x rfl rfl rfl rfl (px_move rfl rfl) (pz_x rfl rfl rfl rfl (px_move rfl rfl) (pz_x rfl rfl rfl rfl (px_sub rfl rfl rfl (by omega)) ?_)))))))
    refine ⟨rfl, ?_⟩
    simp only [zapL, zap, List.cons_append, List.nil_append, List.take_succ_cons, List.take_zero, List.drop_succ_cons, List.drop_zero, List.take_nil, List.drop_nil]
    refine wr_x (ox_move rfl rfl) rfl rfl (wr_x (ox_move rfl rfl) rfl rfl (wr_z rfl rfl rfl (wr_z rfl rfl rfl (wr_z rfl rfl rfl (wr_x (ox_move rfl rfl) rfl rfl (wr_x (ox_move rfl rfl) rfl rfl (wr_x (ox_sub rfl rfl rfl (by omega)) rfl rfl (wr_x (ox_indexR (j - 1) (hO1.rd (.head _)) rfl underlying60 el64 rfl rfl (by omega) (by omega)) rfl rfl (wr_x (ox_loadG rfl underlying64 rfl el64 rfl rfl (hO1.get (.head _) (by omega))) rfl rfl (wr_x (ox_move rfl rfl) rfl rfl (wr_x (ox_move rfl rfl) rfl rfl (wr_x (ox_indexR (j) (hO1.rd (.head _)) rfl underlying60 el64 rfl rfl (by omega) (by omega)) rfl rfl (wr_x (ox_loadG rfl underlying64 rfl el64 rfl rfl (hO1.get (.head _) (by omega))) rfl rfl (wr_nil (Qx (ox_indexR (j) (hO1.rd (.head _)) rfl underlying60 el64 rfl rfl (by omega) (by omega)) rfl (wl_storeS 0 _ hO1 rfl el64 rfl rfl rfl (by omega) rfl rfl (fun mhO2 hzhO2 hO2 => Qx (ox_indexR (j - 1) (hO2.rd (.head _)) rfl underlying60 el64 rfl rfl (by omega) (by omega)) rfl (wl_storeS 0 _ hO2 rfl el64 rfl rfl rfl (by omega) rfl rfl (fun mhO3 hzhO3 hO3 => wl_nil (nx_q0 (nx_block (nx_then (ws_region (Qm rfl (Qx (ox_sub rfl rfl rfl (by omega)) rfl (Qm rfl (wl_nil ?_)))))))))))))))))))))))))))
    obtain ⟨j', rfl⟩ : ∃ j', j = j' + 1 := ⟨j - 1, by omega⟩
    refine nx_round j' _ (by omega) ⟨j', y - 1, _, mhO3, rfl, rfl, rfl, rfl, by omega, by omega, hO3, by simp [hds1], ?_⟩ Qs
    rw [← hR1]
    conv => rhs; unfold insInner
    rw [if_pos (by rw [Bool.and_eq_true]; exact ⟨decide_eq_true (by omega), hl⟩)]
    rfl
   ·refine ws_exit (nx_then_exit (nx_then_exit (nx_block_exit (nx_block (nx_then (ws_region (Qm rfl (Qx (ox_add rfl rfl rfl (by omega)) rfl (Qm rfl (wl_nil ?_))))))))))
    refine nx_round (b - (i + 1)) _ (by omega) ⟨i + 1, z + 1, d1, m1, rfl, rfl, rfl, rfl, by omega, by omega, by omega, hO1, hds1, ?_⟩ Qs
    rw [← hR1]
    obtain ⟨j', rfl⟩ : ∃ j', j = j' + 1 := ⟨j - 1, by omega⟩
    conv => rhs; unfold insInner
    rw [if_neg (by rw [Bool.and_eq_true]; rintro ⟨_, h2⟩; exact absurd (hl.symm.trans h2) (by decide))]
  ·refine wr_skip rfl rfl rfl rfl rfl (wr_skip rfl rfl rfl rfl rfl (wr_skip rfl rfl rfl rfl rfl (wr_skip rfl rfl rfl rfl rfl (wr_skip rfl rfl rfl rfl rfl (wr_skip rfl rfl rfl rfl rfl (wr_skip rfl rfl rfl rfl rfl (wr_skip rfl rfl rfl rfl rfl (wr_skip rfl rfl rfl rfl rfl (wr_skip rfl rfl rfl rfl rfl (wr_nil (Qk rfl (Qk rfl (Qx (ox_pick_f rfl rfl rfl) rfl (RnQ (ws_cond_f rfl (ws_exit (nx_then_exit (nx_then_exit (nx_block_exit (nx_block (nx_then (ws_region (Qm rfl (Qx (ox_add rfl rfl rfl (by omega)) rfl (Qm rfl (wl_nil ?_))))))))))))))))))))))))))
   refine nx_round (b - (i + 1)) _ (by omega) ⟨i + 1, z + 1, d1, m1, rfl, rfl, rfl, rfl, by omega, by omega, by omega, hO1, hds1, ?_⟩ Qs
   rw [← hR1]
   cases j with
   | zero => rfl
   | succ j' =>
    conv => rhs; unfold insInner
    rw [if_neg (by simp; intro h'; omega)]
 ·refine ws_exit (nx_then_exit (nx_then_exit (nx_block_exit ?_)))
  exact nx_end0 rfl (⟨rfl, m, insertionSort ltS d a b, rfl, by rw [← hR]; unfold insOuter; rw [if_neg (by omega)]; exact hO, hfin.1, hfin.2⟩)
end Go.Proofs.YtdnelknieikbaaaGreat
namespace Go.Proofs.YtdnelknieikbaaaGreat
open Tryz
open Go.Eng Go.RowKit Go.Lin Go.Sort Go.Srt
theorem mid_eq (i j : Nat) (h : i + j < 4611686018427387904) : IntKind.i64.wrap (((i + j) % ((2 : Int) ^ IntKind.u64.bits).natAbs / 2 ^ 1 : Nat) : Int) = (((i + j) / 2 : Nat) : Int) := by
 have e1 : (2 ^ IntKind.u64.bits : Int).natAbs = 18446744073709551616 := by decide
 rw [e1, Nat.mod_eq_of_lt (by omega)]
 show IntKind.i64.wrap (((i + j) / 2 : Nat) : Int) = _
 unfold IntKind.wrap
 simp [IntKind.bits, IntKind.signed]
 omega
theorem symMerge_ok : ∀ (N : Nat) (d : Array StE) (v : Value) (m : Hp) (hO : OS m v d) (a t b : Nat) (hN : b - a ≤ N) (hat : a < t) (htb : t < b) (hb : b ≤ d.size) (hsz : d.size ≤ 1000000) (hA : SortedIn ltS a t d) (hB : SortedIn ltS t b d) (h : Hp) {a' t' b' : Int} (ea : a' = a) (et : t' = t) (eb : b' = b),
  FnT Tryz.prog 118 #[v, .int .i64 a', .int .i64 t', .int .i64 b', cvS] h [m] (fun _ h' ms' => h = h' ∧ ∃ m' d', ms' = [m'] ∧ OS m' v d' ∧ PermIn a b d d' ∧ SortedIn ltS a b d') := by
 intro N
 induction N with
 | zero => intro d v m hO a t b hN hat htb; omega
 | succ N ih =>
 intro d v m hO a t b hN hat htb hb hsz hA hB h a' t' b' ea et eb
 subst ea et eb
 refine fn_enter func118 ntmps118 rfl rfl (fun w0 hw0 => ?_)
 simp only [argS]
 refine ws_seq (RsQ (Qm rfl (Qm rfl (Qx (ox_sub rfl rfl rfl (by omega)) rfl (Qx (ox_eqi rfl rfl rfl) rfl (RnQ ?_))))))
 refine ws_if rfl (fun h1 => ?_) (fun h1 => ?_)
 ·-- one element on the left
  obtain rfl : t = a + 1 := by omega
  refine RsQ (Qm rfl (Qm rfl (RtQ (Qm rfl (Qm rfl (RnQ (ws_seq (ws_block ?_))))))))
  refine ws_loop (fun n s h' ms' => ∃ (i j : Nat), n = j - i ∧ s = [(0, v), (1, .int .i64 a), (4, cvS), (10, .int .i64 i), (11, .int .i64 j)] ∧ h = h' ∧ ms' = [m] ∧ a + 1 ≤ i ∧ i ≤ j ∧ j ≤ b ∧ (i = a + 1 ∨ ltS d[i - 1]! d[a]! = true) ∧ (j = b ∨ ltS d[j]! d[a]! = false))
   (b - (a + 1)) _ ⟨a + 1, b, rfl, rfl, rfl, rfl, by omega, by omega, by omega, .inl rfl, .inl rfl⟩ Qs ?_
  rintro n s h' ms' ⟨i, j, rfl, rfl, rfl, rfl, hi, hij, hj, c1, c2⟩
  refine ws_seq (RsQ (Qm rfl (Qm rfl (Qx (ox_lss rfl rfl rfl) rfl (RnQ ?_)))))
  refine ws_if rfl (fun hlt => ?_) (fun hlt => ?_)
  ·refine ws_skip (nx_then (ws_block (RsQ (Qm rfl (Qm rfl (Qx (ox_add rfl rfl rfl (by omega)) rfl (Qx (ox_convW rfl underlying3 underlying143 rfl) rfl (Qx (ox_shrU (n := 1) rfl rfl rfl (by omega)) rfl (Qx (ox_convW rfl underlying143 underlying3 rfl) rfl (Qm rfl (RnQ ?_)))))))))))
   rw [mid_eq i j (by omega)]
   refine ws_seq (ws_draw 9 fol (by kernel_rfl) rfl (wr_x (ox_move rfl rfl) rfl rfl (wr_x (ox_move rfl rfl) rfl rfl (wr_x (ox_move rfl rfl) rfl rfl (wr_x (ox_indexR ((i + j) / 2) (hO.rd (.head _)) rfl underlying60 el64 rfl rfl (by omega) (by omega)) rfl rfl (wr_x (ox_loadG rfl underlying64 rfl el64 rfl rfl (hO.get (.head _) (by omega))) rfl rfl (wr_x (ox_move rfl rfl) rfl rfl (wr_x (ox_move rfl rfl) rfl rfl (wr_x (ox_indexR (a) (hO.rd (.head _)) rfl underlying60 el64 rfl rfl (by omega) (by omega)) rfl rfl (wr_x (ox_loadG rfl underlying64 rfl el64 rfl rfl (hO.get (.head _) (by omega))) rfl rfl (wr_nil (Qx (ox_callv rfl rfl call59 rfl (cmpS_v _ _ _ _)) rfl (Qx (ox_lss rfl rfl rfl) rfl (RnQ ?_))))))))))))))
   refine ws_cond rfl (fun hl => ?_) (fun hl => ?_)
   ·refine ws_region (Qm rfl (Qx (ox_add rfl rfl rfl (by omega)) rfl (Qm rfl (wl_nil (nx_block ?_)))))
    exact nx_round (j - ((i + j) / 2 + 1)) _ (by omega) ⟨(i + j) / 2 + 1, j, rfl, rfl, rfl, rfl, by omega, by omega, by omega, .inr (by rw [Nat.add_sub_cancel]; exact hl), c2⟩ Qs
   ·refine ws_region (Qm rfl (Qm rfl (wl_nil (nx_block ?_))))
    exact nx_round ((i + j) / 2 - i) _ (by omega) ⟨i, (i + j) / 2, rfl, rfl, rfl, rfl, by omega, by omega, by omega, c1, .inr hl⟩ Qs
  ·obtain rfl : i = j := by omega
   refine ws_exit (nx_then_exit (nx_then_exit (nx_block_exit (nx_then (ws_seq (RsQ (Qm rfl (Qm rfl (RnQ (ws_block ?_))))))))))
   refine ws_loop (fun n s h' ms' => ∃ (k : Nat) (d0 : Array StE) (m : Hp), n = i - 1 - k ∧ s = [(0, v), (10, .int .i64 i), (13, .int .i64 k)] ∧ h = h' ∧ ms' = [m] ∧ a ≤ k ∧ k ≤ i - 1 ∧ OS m v d0 ∧ InsR d d0 a k ∧ PermIn a b d d0)
    (i - 1 - a) _ ⟨a, d, m, rfl, rfl, rfl, rfl, by omega, by omega, hO, InsR.start d a, permIn_refl d a b⟩ Qs ?_
   rintro n s h' ms' ⟨k, d0, m0, rfl, rfl, rfl, rfl, hak, hki, hO0, R, P⟩
   have hds := R.1
   refine ws_seq (RsQ (Qm rfl (Qm rfl (Qx (ox_sub rfl rfl rfl (by omega)) rfl (Qx (ox_lss rfl rfl rfl) rfl (RnQ ?_))))))
   refine ws_if rfl (fun hltk => ?_) (fun hltk => ?_)
   ·refine ws_skip (nx_then (ws_seq (ws_block (ws_drawP 14 [false, false, true, true, true] fol (by kernel_rfl) (by kernel_rfl) (by kernel_rfl) (pz_x rfl rfl rfl rfl (px_move rfl rfl) (pz_x rfl rfl rfl rfl (px_move rfl rfl) (pz_x rfl rfl rfl rfl (px_add rfl rfl rfl (by omega)) ?_)))))))
    refine ⟨rfl, ?_⟩
    simp only [zapL, zap, List.cons_append, List.nil_append, List.take_succ_cons, List.take_zero, List.drop_succ_cons, List.drop_zero, List.take_nil, List.drop_nil]
    refine wr_x (ox_move rfl rfl) rfl rfl (wr_x (ox_move rfl rfl) rfl rfl (wr_z rfl rfl rfl (wr_z rfl rfl rfl (wr_z rfl rfl rfl (wr_x (ox_move rfl rfl) rfl rfl (wr_x (ox_move rfl rfl) rfl rfl (wr_x (ox_add rfl rfl rfl (by omega)) rfl rfl (wr_x (ox_indexR (k + 1) (hO0.rd (.head _)) rfl underlying60 el64 rfl rfl (by omega) (by omega)) rfl rfl (wr_x (ox_loadG rfl underlying64 rfl el64 rfl rfl (hO0.get (.head _) (by omega))) rfl rfl (wr_x (ox_move rfl rfl) rfl rfl (wr_x (ox_move rfl rfl) rfl rfl (wr_x (ox_indexR (k) (hO0.rd (.head _)) rfl underlying60 el64 rfl rfl (by omega) (by omega)) rfl rfl (wr_x (ox_loadG rfl underlying64 rfl el64 rfl rfl (hO0.get (.head _) (by omega))) rfl rfl (wr_nil (Qx (ox_indexR (k) (hO0.rd (.head _)) rfl underlying60 el64 rfl rfl (by omega) (by omega)) rfl (wl_storeS 0 _ hO0 rfl el64 rfl rfl rfl (by omega) rfl rfl (fun mhO1 hzhO1 hO1 => Qx (ox_indexR (k + 1) (hO1.rd (.head _)) rfl underlying60 el64 rfl rfl (by omega) (by omega)) rfl (wl_storeS 0 _ hO1 rfl el64 rfl rfl rfl (by omega) rfl rfl (fun mhO2 hzhO2 hO2 => wl_nil (nx_q0 (nx_block (nx_then (ws_region (Qm rfl (Qx (ox_add rfl rfl rfl (by omega)) rfl (Qm rfl (wl_nil ?_)))))))))))))))))))))))))))
    exact nx_round (i - 1 - (k + 1)) _ (by omega) ⟨k + 1, _, mhO2, rfl, rfl, rfl, rfl, by omega, by omega, hO2, R.step hak (by omega), permIn_trans _ _ _ _ _ P (swp_permIn d0 a b k (k + 1) (by omega) (by omega) (by omega) (by omega) (by omega))⟩ Qs
   ·obtain rfl : k = i - 1 := by omega
    refine ws_exit (nx_then_exit (nx_then_exit (nx_block_exit (nx_then (ws_ret (nx_then_ret ?_))))))
    exact nx_ret0 rfl (⟨rfl, m0, d0, rfl, hO0, P, ins_sorted ltS_swo hB ⟨hi, hj⟩ c1 c2 R⟩)
 ·refine ws_skip (nx_then (ws_seq (RsQ (Qm rfl (Qm rfl (Qx (ox_sub rfl rfl rfl (by omega)) rfl (Qx (ox_eqi rfl rfl rfl) rfl (RnQ ?_))))))))
  refine ws_if rfl (fun h2 => ?_) (fun h2 => ?_)
  ·-- one element on the right
   obtain rfl : b = t + 1 := by omega
   refine RsQ (Qm rfl (Qm rfl (RtQ (Qm rfl (Qm rfl (RnQ (ws_seq (ws_block ?_))))))))
   refine ws_loop (fun n s h' ms' => ∃ (i j : Nat), n = j - i ∧ s = [(0, v), (1, .int .i64 a), (2, .int .i64 t), (4, cvS), (14, .int .i64 i), (15, .int .i64 j)] ∧ h = h' ∧ ms' = [m] ∧ a ≤ i ∧ i ≤ j ∧ j ≤ t ∧ (i = a ∨ ltS d[t]! d[i - 1]! = false) ∧ (j = t ∨ ltS d[t]! d[j]! = true))
    (t - a) _ ⟨a, t, rfl, rfl, rfl, rfl, by omega, by omega, by omega, .inl rfl, .inl rfl⟩ Qs ?_
   rintro n s h' ms' ⟨i, j, rfl, rfl, rfl, rfl, hi, hij, hj, c1, c2⟩
   refine ws_seq (RsQ (Qm rfl (Qm rfl (Qx (ox_lss rfl rfl rfl) rfl (RnQ ?_)))))
   refine ws_if rfl (fun hlt => ?_) (fun hlt => ?_)
   ·refine ws_skip (nx_then (ws_block (RsQ (Qm rfl (Qm rfl (Qx (ox_add rfl rfl rfl (by omega)) rfl (Qx (ox_convW rfl underlying3 underlying143 rfl) rfl (Qx (ox_shrU (n := 1) rfl rfl rfl (by omega)) rfl (Qx (ox_convW rfl underlying143 underlying3 rfl) rfl (Qm rfl (RnQ ?_)))))))))))
    rw [mid_eq i j (by omega)]
    refine ws_seq (ws_draw 9 fol (by kernel_rfl) rfl (wr_x (ox_move rfl rfl) rfl rfl (wr_x (ox_move rfl rfl) rfl rfl (wr_x (ox_move rfl rfl) rfl rfl (wr_x (ox_indexR (t) (hO.rd (.head _)) rfl underlying60 el64 rfl rfl (by omega) (by omega)) rfl rfl (wr_x (ox_loadG rfl underlying64 rfl el64 rfl rfl (hO.get (.head _) (by omega))) rfl rfl (wr_x (ox_move rfl rfl) rfl rfl (wr_x (ox_move rfl rfl) rfl rfl (wr_x (ox_indexR ((i + j) / 2) (hO.rd (.head _)) rfl underlying60 el64 rfl rfl (by omega) (by omega)) rfl rfl (wr_x (ox_loadG rfl underlying64 rfl el64 rfl rfl (hO.get (.head _) (by omega))) rfl rfl (wr_nil (Qx (ox_callv rfl rfl call59 rfl (cmpS_v _ _ _ _)) rfl (Qx (ox_lss rfl rfl rfl) rfl (Qx (ox_not rfl rfl) rfl (RnQ ?_)))))))))))))))
    refine ws_cond rfl (fun hl => ?_) (fun hl => ?_)
    ·have hl : ltS d[t]! d[(i + j) / 2]! = false := by unfold ltS; simpa using hl
     refine ws_region (Qm rfl (Qx (ox_add rfl rfl rfl (by omega)) rfl (Qm rfl (wl_nil (nx_block ?_)))))
     exact nx_round (j - ((i + j) / 2 + 1)) _ (by omega) ⟨(i + j) / 2 + 1, j, rfl, rfl, rfl, rfl, by omega, by omega, by omega, .inr (by rw [Nat.add_sub_cancel]; exact hl), c2⟩ Qs
    ·have hl : ltS d[t]! d[(i + j) / 2]! = true := by unfold ltS; simpa using hl
     refine ws_region (Qm rfl (Qm rfl (wl_nil (nx_block ?_))))
     exact nx_round ((i + j) / 2 - i) _ (by omega) ⟨i, (i + j) / 2, rfl, rfl, rfl, rfl, by omega, by omega, by omega, c1, .inr hl⟩ Qs
   ·obtain rfl : i = j := by omega
    refine ws_exit (nx_then_exit (nx_then_exit (nx_block_exit (nx_then (ws_seq (RsQ (Qm rfl (Qm rfl (RnQ (ws_block ?_))))))))))
    refine ws_loop (fun n s h' ms' => ∃ (k : Nat) (d0 : Array StE) (m : Hp), n = k - i ∧ s = [(0, v), (14, .int .i64 i), (17, .int .i64 k)] ∧ h = h' ∧ ms' = [m] ∧ i ≤ k ∧ k ≤ t ∧ OS m v d0 ∧ ShR d d0 t k ∧ PermIn a (t + 1) d d0)
     (t - i) _ ⟨t, d, m, rfl, rfl, rfl, rfl, by omega, by omega, hO, ShR.start d t, permIn_refl d a (t + 1)⟩ Qs ?_
    rintro n s h' ms' ⟨k, d0, m0, rfl, rfl, rfl, rfl, hik, hkt, hO0, R, P⟩
    have hds := R.1
    refine ws_seq (RsQ (Qm rfl (Qm rfl (Qx (ox_gtr rfl rfl rfl) rfl (RnQ ?_)))))
    refine ws_if rfl (fun hltk => ?_) (fun hltk => ?_)
    ·have st : ShR d (Go.Sort.swp d0 k (k - 1)) t (k - 1) := by
      obtain ⟨k', rfl⟩ : ∃ k', k = k' + 1 := ⟨k - 1, by omega⟩
      exact R.step (by omega) (by omega)
     have e : (k : Int) - 1 = ((k - 1 : Nat) : Int) := by omega
     refine ws_skip (nx_then (ws_seq (ws_block (ws_drawP 14 [false, false, true, true, true] fol (by kernel_rfl) (by kernel_rfl) (by kernel_rfl) (pz_x rfl rfl rfl rfl (px_move rfl rfl) (pz_x rfl rfl rfl rfl (px_move rfl rfl) (pz_x rfl rfl rfl rfl (px_sub rfl rfl rfl (by omega)) ?_)))))))
     refine ⟨rfl, ?_⟩
     simp only [zapL, zap, List.cons_append, List.nil_append, List.take_succ_cons, List.take_zero, List.drop_succ_cons, List.drop_zero, List.take_nil, List.drop_nil]
     refine wr_x (ox_move rfl rfl) rfl rfl (wr_x (ox_move rfl rfl) rfl rfl (wr_z rfl rfl rfl (wr_z rfl rfl rfl (wr_z rfl rfl rfl (wr_x (ox_move rfl rfl) rfl rfl (wr_x (ox_move rfl rfl) rfl rfl (wr_x (ox_sub rfl rfl rfl (by omega)) rfl rfl (wr_x (ox_indexR (k - 1) (hO0.rd (.head _)) rfl underlying60 el64 rfl rfl (by omega) (by omega)) rfl rfl (wr_x (ox_loadG rfl underlying64 rfl el64 rfl rfl (hO0.get (.head _) (by omega))) rfl rfl (wr_x (ox_move rfl rfl) rfl rfl (wr_x (ox_move rfl rfl) rfl rfl (wr_x (ox_indexR (k) (hO0.rd (.head _)) rfl underlying60 el64 rfl rfl (by omega) (by omega)) rfl rfl (wr_x (ox_loadG rfl underlying64 rfl el64 rfl rfl (hO0.get (.head _) (by omega))) rfl rfl (wr_nil (Qx (ox_indexR (k) (hO0.rd (.head _)) rfl underlying60 el64 rfl rfl (by omega) (by omega)) rfl (wl_storeS 0 _ hO0 rfl el64 rfl rfl rfl (by omega) rfl rfl (fun mhO1 hzhO1 hO1 => Qx (ox_indexR (k - 1) (hO1.rd (.head _)) rfl underlying60 el64 rfl rfl (by omega) (by omega)) rfl (wl_storeS 0 _ hO1 rfl el64 rfl rfl rfl (by omega) rfl rfl (fun mhO2 hzhO2 hO2 => wl_nil (nx_q0 (nx_block (nx_then (ws_region (Qm rfl (Qx (ox_sub rfl rfl rfl (by omega)) rfl (Qm rfl (wl_nil ?_)))))))))))))))))))))))))))
     rw [e]
     exact nx_round (k - 1 - i) _ (by omega) ⟨k - 1, _, mhO2, rfl, rfl, rfl, rfl, by omega, by omega, hO2, st, permIn_trans _ _ _ _ _ P (swp_permIn d0 a (t + 1) k (k - 1) (by omega) (by omega) (by omega) (by omega) (by omega))⟩ Qs
    ·obtain rfl : k = i := by omega
     refine ws_exit (nx_then_exit (nx_then_exit (nx_block_exit (nx_then (ws_ret (nx_then_ret ?_))))))
     exact nx_ret0 rfl (⟨rfl, m0, d0, rfl, hO0, P, sh_sorted ltS_swo hA ⟨hi, hj⟩ c1 c2 R⟩)
  ·refine ws_skip (nx_then (RsQ (Qm rfl (Qm rfl (Qx (ox_add rfl rfl rfl (by omega)) rfl (Qx (ox_convW rfl underlying3 underlying143 rfl) rfl (Qx (ox_shrU (n := 1) rfl rfl rfl (by omega)) rfl (Qx (ox_convW rfl underlying143 underlying3 rfl) rfl (Qm rfl (RnQ ?_))))))))))
   rw [mid_eq a b (by omega)]
   obtain ⟨mid, hmid⟩ : ∃ mid, mid = (a + b) / 2 := ⟨_, rfl⟩
   rw [← hmid]
   refine RsQ (Qm rfl (Qm rfl (Qx (ox_add rfl rfl rfl (by omega)) rfl (Qm rfl (RtQ (Qm rfl (Qm rfl (RnQ ?_))))))))
   refine ws_cut (fun s h' ms' => ∃ (s0 r0 : Nat), s = [(0, v), (1, .int .i64 a), (2, .int .i64 t), (3, .int .i64 b), (4, cvS), (18, .int .i64 mid), (19, .int .i64 ((mid : Int) + t)), (20, .int .i64 s0), (21, .int .i64 r0)] ∧ h = h' ∧ ms' = [m] ∧ ((mid < t ∧ s0 + b = mid + t ∧ r0 = mid) ∨ (t ≤ mid ∧ s0 = a ∧ r0 = t))) ?_ (fun s h ms hI => ?_)
   ·refine ws_seq (ws_region (Qm rfl (Qm rfl (Qx (ox_gtr rfl rfl rfl) rfl (RnQ ?_)))))
    refine ws_if rfl (fun hgt => ?_) (fun hgt => ?_)
    ·refine ws_seq (ws_region (Qm rfl (Qm rfl (Qx (ox_sub rfl rfl rfl (by omega)) rfl (Qm rfl (RrQ (Qm rfl (Qm rfl (wl_nil ?_)))))))))
     have e : (mid : Int) + t - b = ((mid + t - b : Nat) : Int) := by omega
     rw [e]
     exact nx_meet _ ⟨mid + t - b, mid, rfl, rfl, rfl, .inl ⟨by omega, by omega, rfl⟩⟩ Qs
    ·refine ws_seq (ws_region (Qm rfl (Qm rfl (RrQ (Qm rfl (Qm rfl (wl_nil ?_)))))))
     exact nx_meet _ ⟨a, t, rfl, rfl, rfl, .inr ⟨by omega, rfl, rfl⟩⟩ Qs
   ·obtain ⟨s0, r0, rfl, rfl, rfl, hc⟩ := hI
    refine RsQ (Qm rfl (Qx (ox_sub rfl rfl rfl (by omega)) rfl (Qm rfl (RnQ (ws_seq (ws_block ?_))))))
    refine ws_loop (fun n s h' ms' => ∃ (i j : Nat), n = j - i ∧ s = [(0, v), (1, .int .i64 a), (2, .int .i64 t), (3, .int .i64 b), (4, cvS), (18, .int .i64 mid), (19, .int .i64 ((mid : Int) + t)), (20, .int .i64 i), (21, .int .i64 j), (22, .int .i64 ((mid : Int) + t - 1))] ∧ h = h' ∧ ms' = [m] ∧ s0 ≤ i ∧ i ≤ j ∧ j ≤ r0 ∧ (i = s0 ∨ ltS d[mid + t - i]! d[i - 1]! = false) ∧ (j = r0 ∨ ltS d[mid + t - 1 - j]! d[j]! = true))
     (r0 - s0) _ ⟨s0, r0, rfl, rfl, rfl, rfl, by omega, by omega, by omega, .inl rfl, .inl rfl⟩ Qs ?_
    rintro n s h' ms' ⟨i, j, rfl, rfl, rfl, rfl, hi, hij, hj, c1, c2⟩
    refine ws_seq (RsQ (Qm rfl (Qm rfl (Qx (ox_lss rfl rfl rfl) rfl (RnQ ?_)))))
    refine ws_if rfl (fun hlt => ?_) (fun hlt => ?_)
    ·refine ws_skip (nx_then (ws_block (RsQ (Qm rfl (Qm rfl (Qx (ox_add rfl rfl rfl (by omega)) rfl (Qx (ox_convW rfl underlying3 underlying143 rfl) rfl (Qx (ox_shrU (n := 1) rfl rfl rfl (by omega)) rfl (Qx (ox_convW rfl underlying143 underlying3 rfl) rfl (Qm rfl (RnQ ?_)))))))))))
     rw [mid_eq i j (by omega)]
     refine ws_seq (ws_draw 11 fol (by kernel_rfl) rfl (wr_x (ox_move rfl rfl) rfl rfl (wr_x (ox_move rfl rfl) rfl rfl (wr_x (ox_move rfl rfl) rfl rfl (wr_x (ox_move rfl rfl) rfl rfl (wr_x (ox_sub rfl rfl rfl (by omega)) rfl rfl (wr_x (ox_indexR (mid + t - 1 - (i + j) / 2) (hO.rd (.head _)) rfl underlying60 el64 rfl rfl (by omega) (by omega)) rfl rfl (wr_x (ox_loadG rfl underlying64 rfl el64 rfl rfl (hO.get (.head _) (by omega))) rfl rfl (wr_x (ox_move rfl rfl) rfl rfl (wr_x (ox_move rfl rfl) rfl rfl (wr_x (ox_indexR ((i + j) / 2) (hO.rd (.head _)) rfl underlying60 el64 rfl rfl (by omega) (by omega)) rfl rfl (wr_x (ox_loadG rfl underlying64 rfl el64 rfl rfl (hO.get (.head _) (by omega))) rfl rfl (wr_nil (Qx (ox_callv rfl rfl call59 rfl (cmpS_v _ _ _ _)) rfl (Qx (ox_lss rfl rfl rfl) rfl (Qx (ox_not rfl rfl) rfl (RnQ ?_)))))))))))))))))
     refine ws_cond rfl (fun hl => ?_) (fun hl => ?_)
     ·have hl : ltS d[mid + t - 1 - (i + j) / 2]! d[(i + j) / 2]! = false := by unfold ltS; simpa using hl
      refine ws_region (Qm rfl (Qx (ox_add rfl rfl rfl (by omega)) rfl (Qm rfl (wl_nil (nx_block ?_)))))
      exact nx_round (j - ((i + j) / 2 + 1)) _ (by omega) ⟨(i + j) / 2 + 1, j, rfl, rfl, rfl, rfl, by omega, by omega, by omega, .inr (by rw [Nat.add_sub_cancel, show mid + t - ((i + j) / 2 + 1) = mid + t - 1 - (i + j) / 2 by omega]; exact hl), c2⟩ Qs
     ·have hl : ltS d[mid + t - 1 - (i + j) / 2]! d[(i + j) / 2]! = true := by unfold ltS; simpa using hl
      refine ws_region (Qm rfl (Qm rfl (wl_nil (nx_block ?_))))
      exact nx_round ((i + j) / 2 - i) _ (by omega) ⟨i, (i + j) / 2, rfl, rfl, rfl, rfl, by omega, by omega, by omega, c1, .inr hl⟩ Qs
    ·obtain rfl : i = j := by omega
     obtain ⟨e, he⟩ : ∃ e, e = mid + t - i := ⟨_, rfl⟩
     have he2 : (mid : Int) + t - i = (e : Int) := by omega
     refine ws_exit (nx_then_exit (nx_then_exit (nx_block_exit (nx_then (RsQ (Qm rfl (Qm rfl (Qx (ox_sub rfl rfl rfl (by omega)) rfl (Qm rfl (RnQ ?_))))))))))
     rw [he2]
     have k1 : i = a ∨ e = b ∨ ltS d[e]! d[i - 1]! = false := by
      rcases c1 with c | c
      ·rcases hc with hc | hc
       ·right; left; omega
       ·left; omega
      ·right; right; rw [he]; exact c
     have k2 : i = t ∨ e = t ∨ ltS d[e - 1]! d[i]! = true := by
      rcases c2 with c | c
      ·rcases hc with hc | hc
       ·right; left; omega
       ·left; omega
      ·right; right; rw [show e - 1 = mid + t - 1 - i by omega]; exact c
     have hg : a ≤ i ∧ i ≤ t ∧ i ≤ mid ∧ t ≤ e ∧ e ≤ b := by rcases hc with hc | hc <;> omega
     have hs2 : i + e = mid + t := by omega
     refine ws_cut (fun s h' ms' => ∃ (d1 : Array StE) (m1 : Hp), s = [(0, v), (1, .int .i64 a), (3, .int .i64 b), (4, cvS), (18, .int .i64 mid), (20, .int .i64 i), (24, .int .i64 e)] ∧ h = h' ∧ ms' = [m1] ∧ OS m1 v d1 ∧ (∀ k, d1[k]! = rotv d i t e k) ∧ PermIn a b d d1) ?_ (fun s h ms hI => ?_)
     ·refine ws_seq (ws_region (Qm rfl (Qm rfl (Qx (ox_lss rfl rfl rfl) rfl (Qm rfl ?_)))))
      refine wl_split (t := 181) rfl (fun q1 => ?_) (fun q1 => ?_)
      ·refine Qg (ox_move rfl rfl) rfl (Qg (ox_move rfl rfl) rfl (Qg (ox_lss rfl rfl rfl) rfl (Qx (ox_pick_t rfl rfl rfl) rfl (RnQ ?_))))
       refine ws_if rfl (fun q2 => ?_) (fun q2 => ?_)
       ·refine ws_region (Qm rfl (Qm rfl (Qm rfl (Qm rfl (Qm rfl (wl_call_ (pre := [m]) rfl call139 rfl (rotate_ok d v cvS m hO i t e a b (by omega) (by omega) (by omega) (by omega) (by omega) (by omega) (by omega) h rfl rfl rfl) rfl rfl rfl rfl (fun r h1 ms1 l1 hF => ?_)))))))
        obtain ⟨rfl, m1, d1, rfl, hO1, hr, P⟩ := hF
        refine wl_nil ?_
        exact nx_meet _ ⟨d1, m1, rfl, rfl, rfl, hO1, hr, P⟩ Qs
       ·refine ws_skip ?_
        exact nx_meet _ ⟨d, m, rfl, rfl, rfl, hO, fun k => (rotv_none (by omega) k).symm, permIn_refl d a b⟩ Qs
      ·refine Qk rfl (Qk rfl (Qk rfl (Qx (ox_pick_f rfl rfl rfl) rfl (RnQ (ws_cond_f rfl (ws_skip ?_))))))
       exact nx_meet _ ⟨d, m, rfl, rfl, rfl, hO, fun k => (rotv_none (by omega) k).symm, permIn_refl d a b⟩ Qs
     ·obtain ⟨d1, m1, rfl, rfl, rfl, hO1, hr, P⟩ := hI
      have C := cut_ok ltS_swo hA hB hg hs2 hr k1 k2
      have hd1 := P.1
      refine ws_cut (fun s h' ms' => ∃ (d2 : Array StE) (m2 : Hp), s = [(0, v), (3, .int .i64 b), (4, cvS), (18, .int .i64 mid), (24, .int .i64 e)] ∧ h = h' ∧ ms' = [m2] ∧ OS m2 v d2 ∧ PermIn a mid d1 d2 ∧ SortedIn ltS a mid d2) ?_ (fun s h ms hI => ?_)
      ·refine ws_seq (ws_region (Qm rfl (Qm rfl (Qx (ox_lss rfl rfl rfl) rfl (Qm rfl ?_)))))
       refine wl_split (t := 195) rfl (fun q1 => ?_) (fun q1 => ?_)
       ·refine Qg (ox_move rfl rfl) rfl (Qg (ox_move rfl rfl) rfl (Qg (ox_lss rfl rfl rfl) rfl (Qx (ox_pick_t rfl rfl rfl) rfl (RnQ ?_))))
        refine ws_if rfl (fun q2 => ?_) (fun q2 => ?_)
        ·refine ws_region (Qm rfl (Qm rfl (Qm rfl (Qm rfl (Qm rfl (wl_call_ (pre := [m1]) rfl call118 rfl (ih d1 v m1 hO1 a i mid (by omega) (by omega) (by omega) (by omega) (by omega) C.lo C.lo2 h rfl rfl rfl) rfl rfl rfl rfl (fun r h1 ms1 l1 hF => ?_)))))))
         obtain ⟨rfl, m2, d2, rfl, hO2, P2, S2⟩ := hF
         refine wl_nil ?_
         exact nx_meet _ ⟨d2, m2, rfl, rfl, rfl, hO2, P2, S2⟩ Qs
        ·obtain rfl : i = mid := by omega
         refine ws_skip ?_
         exact nx_meet _ ⟨d1, m1, rfl, rfl, rfl, hO1, permIn_refl d1 a _, C.lo⟩ Qs
       ·obtain rfl : i = a := by omega
        refine Qk rfl (Qk rfl (Qk rfl (Qx (ox_pick_f rfl rfl rfl) rfl (RnQ (ws_cond_f rfl (ws_skip ?_))))))
        exact nx_meet _ ⟨d1, m1, rfl, rfl, rfl, hO1, permIn_refl d1 _ _, C.lo2⟩ Qs
      ·obtain ⟨d2, m2, rfl, rfl, rfl, hO2, P2, S2⟩ := hI
       have hd2 := P2.1
       have f1 : SortedIn ltS mid e d2 := sorted_congr C.hi fun k h1 h2 => P2.2.1 k (.inr h1)
       have f2 : SortedIn ltS e b d2 := sorted_congr C.hi2 fun k h1 h2 => P2.2.1 k (.inr (by omega))
       have fin : ∀ d3, PermIn mid b d2 d3 → SortedIn ltS mid b d3 → PermIn a b d d3 ∧ SortedIn ltS a b d3 := fun d3 P3 S3 =>
        ⟨permIn_trans _ _ _ _ _ P (permIn_trans _ _ _ _ _ (permIn_mono d1 d2 a mid a b (by omega) (by omega) (by omega) P2) (permIn_mono d2 d3 mid b a b (by omega) (by omega) (by omega) P3)), cut_done C (by omega) (by omega) P2 S2 P3 S3⟩
       refine RsQ (Qm rfl (Qm rfl (Qx (ox_lss rfl rfl rfl) rfl (Qm rfl ?_))))
       refine wl_split (t := 209) rfl (fun q1 => ?_) (fun q1 => ?_)
       ·refine Qg (ox_move rfl rfl) rfl (Qg (ox_move rfl rfl) rfl (Qg (ox_lss rfl rfl rfl) rfl (Qx (ox_pick_t rfl rfl rfl) rfl (RnQ ?_))))
        refine ws_if rfl (fun q2 => ?_) (fun q2 => ?_)
        ·refine ws_region (Qm rfl (Qm rfl (Qm rfl (Qm rfl (Qm rfl (wl_call_ (pre := [m2]) rfl call118 rfl (ih d2 v m2 hO2 mid e b (by omega) (by omega) (by omega) (by omega) (by omega) f1 f2 h rfl rfl rfl) rfl rfl rfl rfl (fun r h1 ms1 l1 hF => ?_)))))))
         obtain ⟨rfl, m3, d3, rfl, hO3, P3, S3⟩ := hF
         refine wl_nil ?_
         exact nx_end0 rfl (⟨rfl, m3, d3, rfl, hO3, (fin d3 P3 S3).1, (fin d3 P3 S3).2⟩)
        ·obtain rfl : e = b := by omega
         refine ws_skip ?_
         exact nx_end0 rfl (⟨rfl, m2, d2, rfl, hO2, (fin d2 (permIn_refl d2 _ _) f1).1, (fin d2 (permIn_refl d2 _ _) f1).2⟩)
       ·obtain rfl : e = mid := by omega
        refine Qk rfl (Qk rfl (Qk rfl (Qx (ox_pick_f rfl rfl rfl) rfl (RnQ (ws_cond_f rfl (ws_skip ?_))))))
        exact nx_end0 rfl (⟨rfl, m2, d2, rfl, hO2, (fin d2 (permIn_refl d2 _ _) f2).1, (fin d2 (permIn_refl d2 _ _) f2).2⟩)
end Go.Proofs.YtdnelknieikbaaaGreat
namespace Go.Proofs.YtdnelknieikbaaaGreat
open Tryz
open Go.Eng Go.RowKit Go.Lin Go.Sort Go.Srt
variable {a : Nat}
theorem dvd_lt {k x : Nat} (hx : k ∣ x) (ha : k ∣ a) (h : x < a) : x + k ≤ a := by
 obtain ⟨p, rfl⟩ := hx
 obtain ⟨q, rfl⟩ := ha
 have : p < q := Nat.lt_of_mul_lt_mul_left h
 calc k * p + k = k * (p + 1) := by rw [Nat.mul_add, Nat.mul_one]
  _ ≤ k * q := Nat.mul_le_mul_left k this
def Bk (d : Array StE) (s n : Nat) : Prop := ∀ x, s ∣ x → SortedIn ltS x (min (x + s) n) d
theorem sorted_short {d : Array StE} {b b' : Nat} (h : SortedIn ltS a b d) (hb : b' ≤ b) : SortedIn ltS a b' d := fun i j h1 h2 h3 => h i j h1 h2 (by omega)
theorem sorted_none {d : Array StE} {b : Nat} (hb : b ≤ a) : SortedIn ltS a b d := fun i j h1 h2 h3 => by omega
theorem stable_ok (d : Array StE) (v : Value) (m : Hp) (hO : OS m v d) (hsz : d.size ≤ 1000000) (h : Hp) {n' : Int} (en : n' = d.size) :
  FnT Tryz.prog 92 #[v, .int .i64 n', cvS] h [m] (fun _ h' ms' => h = h' ∧ ∃ m' d', ms' = [m'] ∧ OS m' v d' ∧ PermIn 0 d.size d d' ∧ SortedIn ltS 0 d.size d') := by
 subst en
 obtain ⟨n, hn⟩ : ∃ n, n = d.size := ⟨_, rfl⟩
 rw [← hn]
 refine fn_enter func92 ntmps92 rfl rfl (fun w0 hw0 => ?_)
 simp only [argS]
 refine RsQ (Qm rfl (RtQ (Qm rfl (Qm rfl (Qm rfl (RnQ (ws_seq (ws_block ?_))))))))
 refine ws_loop (fun q s h' ms' => ∃ (a : Nat) (d0 : Array StE) (m : Hp), q = n - a ∧ s = [(0, v), (1, .int .i64 n), (2, cvS), (6, .int .i64 20), (7, .int .i64 a), (8, .int .i64 ((a : Int) + 20))] ∧ h = h' ∧ ms' = [m] ∧ a ≤ n ∧ 20 ∣ a ∧ OS m v d0 ∧ PermIn 0 n d d0 ∧ ∀ x, 20 ∣ x → x + 20 ≤ a → SortedIn ltS x (x + 20) d0)
  (n - 0) _ ⟨0, d, m, rfl, rfl, rfl, rfl, by omega, ⟨0, rfl⟩, hO, permIn_refl d 0 n, fun x _ h => by omega⟩ Qs ?_
 rintro q s h' ms' ⟨a, d0, m0, rfl, rfl, rfl, rfl, han, hda, hO0, P, hB⟩
 have hds := P.1
 refine ws_seq (RsQ (Qm rfl (Qm rfl (Qx (ox_leq rfl rfl rfl) rfl (RnQ ?_)))))
 refine ws_if rfl (fun hle => ?_) (fun hle => ?_)
 ·refine ws_skip (nx_then (ws_block (RsQ (Qm rfl (Qm rfl (Qm rfl (Qm rfl (wl_call_ (pre := [m0]) rfl call117 rfl (insS_ok d0 v m0 hO0 a (a + 20) (by omega) (by omega) (by omega) h rfl (by omega)) rfl rfl rfl rfl (fun r h1 ms1 l1 hF => ?_)))))))))
  obtain ⟨rfl, m1, d1, rfl, hO1, P1, S1⟩ := hF
  refine RtQ (Qm rfl (Qm rfl (RrQ (Qm rfl (Qm rfl (Qx (ox_add rfl rfl rfl (by omega)) rfl (Qm rfl (wl_nil (nx_block ?_)))))))))
  exact nx_round (n - (a + 20)) _ (by omega) ⟨a + 20, d1, m1, rfl, rfl, rfl, rfl, by omega, Nat.dvd_add hda ⟨1, rfl⟩, hO1, permIn_trans _ _ _ _ _ P (permIn_mono d0 d1 a (a + 20) 0 n (by omega) (by omega) (by omega) P1), fun x hx hx2 => by
   rcases Nat.lt_or_ge x a with h1 | h1
   ·have := dvd_lt hx hda h1
    exact sorted_congr (hB x hx this) fun k h2 h3 => P1.2.1 k (.inl (by omega))
   ·obtain rfl : x = a := by omega
    exact S1⟩ Qs
 ·refine ws_exit (nx_then_exit (nx_then_exit (nx_block_exit (nx_then (RsQ (Qm rfl (Qm rfl (Qm rfl (Qm rfl (wl_call_ (pre := [m0]) rfl call117 rfl (insS_ok d0 v m0 hO0 a n (by omega) (by omega) (by omega) h rfl rfl) rfl rfl rfl rfl (fun r h1 ms1 l1 hF => ?_)))))))))))
  obtain ⟨rfl, m1, d1, rfl, hO1, P1, S1⟩ := hF
  have PB : PermIn 0 n d d1 := permIn_trans _ _ _ _ _ P (permIn_mono d0 d1 a n 0 n (by omega) (by omega) (by omega) P1)
  have B1 : Bk d1 20 n := fun x hx => by
   rcases Nat.lt_trichotomy x a with h1 | rfl | h1
   ·have := dvd_lt hx hda h1
    exact sorted_short (sorted_congr (hB x hx this) fun k h2 h3 => P1.2.1 k (.inl (by omega))) (by omega)
   ·exact sorted_short S1 (by omega)
   ·have := dvd_lt hda hx h1
    exact sorted_none (by omega)
  refine RnQ (ws_block ?_)
  refine ws_loop (fun q s h' ms' => ∃ (w : Nat) (d0 : Array StE) (m : Hp), q = n - w ∧ s = [(0, v), (1, .int .i64 n), (2, cvS), (6, .int .i64 w)] ∧ h = h' ∧ ms' = [m] ∧ 1 ≤ w ∧ w ≤ 4000000 ∧ OS m v d0 ∧ PermIn 0 n d d0 ∧ Bk d0 w n)
   (n - 20) _ ⟨20, d1, m1, rfl, rfl, rfl, rfl, by omega, by omega, hO1, PB, B1⟩ Qs ?_
  rintro q s h' ms' ⟨w, d2, m2, rfl, rfl, rfl, rfl, hw1, hw2, hO2, P2, B2⟩
  have hd2 := P2.1
  refine ws_seq (RsQ (Qm rfl (Qm rfl (Qx (ox_lss rfl rfl rfl) rfl (RnQ ?_)))))
  refine ws_if rfl (fun hlt => ?_) (fun hlt => ?_)
  ·refine ws_skip (nx_then (ws_block (RsQ (Qm rfl (Qx (ox_mul rfl rfl rfl (by omega)) rfl (Qm rfl (Qm rfl (RnQ (ws_seq (ws_block ?_))))))))))
   refine ws_loop (fun q s h' ms' => ∃ (a : Nat) (z : Int) (d0 : Array StE) (m : Hp), q = n - a ∧ s = [(0, v), (1, .int .i64 n), (2, cvS), (6, .int .i64 w), (7, .int .i64 a), (8, .int .i64 z)] ∧ h = h' ∧ ms' = [m] ∧ z = a + 2 * w ∧ a ≤ n ∧ 2 * w ∣ a ∧ OS m v d0 ∧ PermIn 0 n d d0 ∧ (∀ x, 2 * w ∣ x → x + 2 * w ≤ a → SortedIn ltS x (x + 2 * w) d0) ∧ ∀ x, w ∣ x → a ≤ x → SortedIn ltS x (min (x + w) n) d0)
    (n - 0) _ ⟨0, 2 * (w : Int), d2, m2, rfl, rfl, rfl, rfl, by omega, by omega, ⟨0, rfl⟩, hO2, P2, fun x _ h => by omega, fun x hx _ => B2 x hx⟩ Qs ?_
   rintro q s h' ms' ⟨a, z, d3, m3, rfl, rfl, rfl, rfl, rfl, han, hda, hO3, P3, hL, hR⟩
   have hd3 := P3.1
   have hwa : w ∣ a := Nat.dvd_trans ⟨2, Nat.mul_comm 2 w⟩ hda
   have hwa2 : w ∣ a + w := Nat.dvd_add hwa (Nat.dvd_refl w)
   have hwa3 : 2 * w ∣ a + 2 * w := Nat.dvd_add hda (Nat.dvd_refl _)
   have s1 := hR a hwa (Nat.le_refl _)
   have s2 := hR (a + w) hwa2 (by omega)
   refine ws_seq (RsQ (Qm rfl (Qm rfl (Qx (ox_leq rfl rfl rfl) rfl (RnQ ?_)))))
   refine ws_if rfl (fun hle2 => ?_) (fun hle2 => ?_)
   ·rw [show min (a + w) n = a + w by omega] at s1
    rw [show min (a + w + w) n = a + 2 * w by omega] at s2
    refine ws_skip (nx_then (ws_block (RsQ (Qm rfl (Qm rfl (Qm rfl (Qm rfl (Qx (ox_add rfl rfl rfl (by omega)) rfl (Qm rfl (Qm rfl (wl_call_ (pre := [m3]) rfl call118 rfl (symMerge_ok (2 * w) d3 v m3 hO3 a (a + w) (a + 2 * w) (by omega) (by omega) (by omega) (by omega) (by omega) s1 s2 h rfl (by omega) (by omega)) rfl rfl rfl rfl (fun r h1 ms1 l1 hF => ?_))))))))))))
    obtain ⟨rfl, m4, d4, rfl, hO4, P4, S4⟩ := hF
    refine RtQ (Qm rfl (Qm rfl (RrQ (Qm rfl (Qm rfl (Qx (ox_mul rfl rfl rfl (by omega)) rfl (Qx (ox_add rfl rfl rfl (by omega)) rfl (Qm rfl (wl_nil (nx_block ?_))))))))))
    exact nx_round (n - (a + 2 * w)) _ (by omega) ⟨a + 2 * w, (a : Int) + 2 * w + 2 * w, d4, m4, rfl, rfl, rfl, rfl, by omega, by omega, hwa3, hO4, permIn_trans _ _ _ _ _ P3 (permIn_mono d3 d4 a (a + 2 * w) 0 n (by omega) (by omega) (by omega) P4), fun x hx hx2 => by
     rcases Nat.lt_or_ge x a with h1 | h1
     ·have := dvd_lt hx hda h1
      exact sorted_congr (hL x hx this) fun k h2 h3 => P4.2.1 k (.inl (by omega))
     ·obtain rfl : x = a := by omega
      exact S4, fun x hx hx2 => sorted_congr (hR x hx (by omega)) fun k h2 h3 => P4.2.1 k (.inr (by omega))⟩ Qs
   ·have fin : ∀ d4, PermIn a n d3 d4 → SortedIn ltS a n d4 → PermIn 0 n d d4 ∧ Bk d4 (w * 2) n := fun d4 P4 S4 => ⟨permIn_trans _ _ _ _ _ P3 (permIn_mono d3 d4 a n 0 n (by omega) (by omega) (by omega) P4), fun x hx => by
     rw [Nat.mul_comm] at hx ⊢
     rcases Nat.lt_trichotomy x a with h1 | rfl | h1
     ·have := dvd_lt hx hda h1
      exact sorted_short (sorted_congr (hL x hx this) fun k h2 h3 => P4.2.1 k (.inl (by omega))) (by omega)
     ·exact sorted_short S4 (by omega)
     ·have := dvd_lt hda hx h1
      exact sorted_none (by omega)⟩
    refine ws_exit (nx_then_exit (nx_then_exit (nx_block_exit (nx_then (ws_seq (RsQ (Qm rfl (Qm rfl (Qx (ox_add rfl rfl rfl (by omega)) rfl (Qm rfl (RtQ (Qm rfl (Qm rfl (Qx (ox_lss rfl rfl rfl) rfl (RnQ ?_)))))))))))))))
    refine ws_if rfl (fun hm => ?_) (fun hm => ?_)
    ·rw [show min (a + w) n = a + w by omega] at s1
     rw [show min (a + w + w) n = n by omega] at s2
     refine ws_region (Qm rfl (Qm rfl (Qm rfl (Qm rfl (Qm rfl (wl_call_ (pre := [m3]) rfl call118 rfl (symMerge_ok (2 * w) d3 v m3 hO3 a (a + w) n (by omega) (by omega) (by omega) (by omega) (by omega) s1 s2 h rfl (by omega) rfl) rfl rfl rfl rfl (fun r h1 ms1 l1 hF => ?_)))))))
     obtain ⟨rfl, m4, d4, rfl, hO4, P4, S4⟩ := hF
     have := fin d4 P4 S4
     refine RrQ (Qm rfl (Qx (ox_mul rfl rfl rfl (by omega)) rfl (Qm rfl (wl_nil (nx_block ?_)))))
     exact nx_round (n - w * 2) _ (by omega) ⟨w * 2, d4, m4, rfl, rfl, rfl, rfl, by omega, by omega, hO4, this.1, this.2⟩ Qs
    ·rw [show min (a + w) n = n by omega] at s1
     have := fin d3 (permIn_refl d3 a n) s1
     refine ws_skip (nx_then (ws_region (Qm rfl (Qx (ox_mul rfl rfl rfl (by omega)) rfl (Qm rfl (wl_nil (nx_block ?_)))))))
     exact nx_round (n - w * 2) _ (by omega) ⟨w * 2, d3, m3, rfl, rfl, rfl, rfl, by omega, by omega, hO3, this.1, this.2⟩ Qs
  ·refine ws_exit (nx_then_exit (nx_then_exit (nx_block_exit ?_)))
   exact nx_end0 rfl (⟨rfl, m2, d2, rfl, hO2, P2, by have := B2 0 ⟨0, rfl⟩; rwa [show min (0 + w) n = n by omega] at this⟩)
theorem sortStable_ok (d : Array StE) (v : Value) (m : Hp) (hO : OS m v d) (hsz : d.size ≤ 1000000) (h : Hp) :
  FnT Tryz.prog 58 #[v, cvS] h [m] (fun _ h' ms' => h = h' ∧ ∃ m' d', ms' = [m'] ∧ OS m' v d' ∧ PermIn 0 d.size d d' ∧ SortedIn ltS 0 d.size d') := by
 refine fn_enter func58 ntmps58 rfl rfl (fun w0 hw0 => ?_)
 simp only [argS]
 refine ws_region (Qm rfl (Qm rfl (Qx (ox_lenR (hO.rd (.head _)) rfl underlying60 rfl) rfl (Qm rfl (wl_call_ (pre := [m]) rfl call92 rfl (stable_ok d v m hO hsz h rfl) rfl rfl rfl rfl (fun r h1 ms1 l1 hF => ?_))))))
 obtain ⟨rfl, m4, d4, rfl, hO4, P4, S4⟩ := hF
 refine wl_nil ?_
 exact nx_end0 rfl (⟨rfl, m4, d4, rfl, hO4, P4, S4⟩)
end Go.Proofs.YtdnelknieikbaaaGreat
namespace Go.Proofs.YtdnelknieikbaaaGreat
open Tryz
open Go.Eng Go.RowKit Go.Lin Go.Sort Go.Srt
variable {m : Hp}
def StV (d : Nat → Nat) (g : Nat) (e : StE) (fr to : Nat) (v : Nat → Nat → Int) (m : Hp) : Prop :=
 e.fr = fr ∧ e.to = to ∧ ∃ (es : List Value) (ma mb : Hp), fr ≤ to ∧ m = (Blk g 110 (cS e)).join (ma.join mb) ∧ (Blk g 110 (cS e)).disj (ma.join mb) ∧ ma.disj mb ∧ OwnL cV 1 24 ma e.v es ∧ es.length = to + 1 - fr ∧ VecB d fr es.length es v mb
theorem StO.out {d : Nat → Nat} {g fr to : Nat} {v : Nat → Nat → Int} (S : StO d g fr to v m) : ∃ e, StV d g e fr to v m := by
 obtain ⟨vv, es, ma, mb, h0, h1, h2, h3, h4, h5, h6⟩ := S
 exact ⟨⟨fr, to, vv, (h4.rd (h := Hp.emp) (ms := [ma]) (List.Mem.head _)).rd.one⟩, rfl, rfl, es, ma, mb, h0, h1, h2, h3, h4, h5, h6⟩
theorem bag_choose {β : Type} [Inhabited β] {N : Nat} {R : Nat → β → Hp → Prop} (B : Bag N (fun l x => ∃ e, R l e x) m) : ∃ e : Nat → β, Bag N (fun l x => R l (e l) x) m := by
 classical
 obtain ⟨f, h1, h2, h3⟩ := B
 refine ⟨fun l => if hl : l < N then Classical.choose (h3 l hl) else default, f, h1, h2, fun l hl => ?_⟩
 show R l (if hl : l < N then Classical.choose (h3 l hl) else default) (f l)
 rw [dif_pos hl]
 exact Classical.choose_spec (h3 l hl)
theorem perm_map {α β : Type} {f : α → β} {M l : List β} (h : M.Perm l) : ∀ L : List α, M = L.map f → ∃ L', L.Perm L' ∧ l = L'.map f := by
 induction h with
 | nil => intro L hM; exact ⟨[], by rw [List.map_eq_nil_iff.1 hM.symm], rfl⟩
 | cons x p ih =>
  intro L hM
  obtain ⟨a, L1, rfl, rfl, rfl⟩ := List.map_eq_cons_iff.1 hM.symm
  obtain ⟨L', h1, rfl⟩ := ih L1 rfl
  exact ⟨a :: L', h1.cons a, rfl⟩
 | swap x y l =>
  intro L hM
  obtain ⟨a, L1, rfl, rfl, h2⟩ := List.map_eq_cons_iff.1 hM.symm
  obtain ⟨b, L2, rfl, rfl, rfl⟩ := List.map_eq_cons_iff.1 h2
  exact ⟨b :: a :: L2, .swap b a L2, rfl⟩
 | trans p q ih1 ih2 =>
  intro L hM
  obtain ⟨L1, h1, e1⟩ := ih1 L hM
  obtain ⟨L2, h2, e2⟩ := ih2 L1 e1
  exact ⟨L2, h1.trans h2, e2⟩
theorem StV.seg {d : Nat → Nat} {g : Nat} {e : StE} {fr to : Nat} {v : Nat → Nat → Int} {h : Hp} (S : StV d g e fr to v m) (hl : m.le h) : Seg h [] ⟨g, 0, none⟩ (cS e) := by
 obtain ⟨_, _, es, ma, mb, h0, rfl, _⟩ := S
 exact Seg.ofLe (Hp.le_trans Hp.le_joinl hl)
theorem permIn_perm {d d' : Array StE} (P : PermIn 0 d.size d d') : d'.toList.Perm d.toList := by
 have h := P.2.2
 have e1 : d'.extract 0 d.size = d' := by rw [← P.1]; simp
 have e2 : d.extract 0 d.size = d := by simp
 rwa [e1, e2] at h
theorem strands_not (Z : Zz) (vd va : Value) (h : Hp) (hO : Z.Ok) (hRt : ¬ Z.Rt) (hR : RdZ h vd va Z) :
  FnT Tryz.prog 30 #[.agg #[.int .i64 Z.p, vd, va]] h [] (fun r h' ms' => r = .slice none 0 0 ∧ ms' = []) := by
 have o1 := hR.d.rd.one
 have o2 := hR.a.rd.one
 refine fn_enter func30 ntmps30 rfl rfl (fun w0 hw0 => ?_)
 simp only [argS]
 refine RsQ ?_
 refine wl_box [_, _, _] rfl rfl (by rfl) rfl rfl rfl (fun g1 => ?_)
 refine Qm rfl (RnQ (ws_freezeB fun h1 l1 hG1 => ?_))
 have hR := hR.up l1
 refine ws_seq (RsQ (Qx (ox_loadG rfl underlying30 rfl el30 rfl rfl (Seg.any hG1)) rfl (Qx (ox_call rfl call35 rfl (fnv (zright_ok Z vd va _ hO hR) _)) rfl (Qx (ox_not rfl rfl) rfl (RnQ ?_)))))
 refine ws_cond rfl (fun hb => ?_) (fun hb => ?_)
 ·refine ws_seq (ws_region (Qm rfl (RnQ (ws_ret (nx_then_ret ?_)))))
  exact nx_ret1 rfl rfl (⟨rfl, rfl⟩)
 ·exact absurd (by simpa using hb) hRt
theorem strands_ok (Z : Zz) (vd va : Value) (h : Hp) (hO : Z.Ok) (hRt : Z.Rt) (hR : RdZ h vd va Z) :
  FnT Tryz.prog 30 #[.agg #[.int .i64 Z.p, vd, va]] h [] (fun r h' ms' => h.le h' ∧ ∃ (N : Nat) (S : Nat → SM) (e : Nat → StE) (L : List Nat) (m mB : Hp), ms' = [m, mB] ∧ N ≤ 20400 ∧ OwnL cS 3 64 m r (L.map e) ∧ Bag N (fun l x => StV Z.zg.d (S l).g (e l) (S l).fr (S l).to (S l).v x) mB ∧ L.Perm (List.range N) ∧ Valid Z.zg (dcOf N S) ∧ (∀ l, l < N → (S l).Bd Z.p Z.zg.d) ∧ (L.map fun l => (e l).key).Pairwise fun a b => ¬ cmp2 b a < 0) := by
 have o1 := hR.d.rd.one
 have o2 := hR.a.rd.one
 refine fn_enter func30 ntmps30 rfl rfl (fun w0 hw0 => ?_)
 simp only [argS]
 refine RsQ ?_
 refine wl_box [_, _, _] rfl rfl (by rfl) rfl rfl rfl (fun g1 => ?_)
 refine Qm rfl (RnQ (ws_freezeB fun h1 l1 hG1 => ?_))
 have hR := hR.up l1
 refine ws_seq (RsQ (Qx (ox_loadG rfl underlying30 rfl el30 rfl rfl (Seg.any hG1)) rfl (Qx (ox_call rfl call35 rfl (fnv (zright_ok Z vd va _ hO hR) _)) rfl (Qx (ox_not rfl rfl) rfl (RnQ ?_)))))
 refine ws_cond rfl (fun hb => ?_) (fun hb => ?_)
 ·exact absurd hRt (by simpa using hb)
 ·refine ws_skip (nx_then (RsQ (Qm rfl (RnQ (ws_seq (RsQ (Qx (ox_loadG rfl underlying30 rfl el30 rfl rfl (Seg.any hG1)) rfl (wl_call rfl call57 rfl (decompose_ok Z vd va h1 hRt hR) rfl rfl rfl (fun r h2 ms2 l2 hF => ?_)))))))))
  obtain ⟨l2', N, S, L0, me, mB, rfl, hN, hme, B, hperm, hV, hbd⟩ := hF
  have hlen := hperm.length_eq
  rw [List.length_range] at hlen
  have B1 : Bag N (fun l x => ∃ e, StV Z.zg.d (S l).g e (S l).fr (S l).to (S l).v x) mB := B.mono fun l hl x O => O.out
  obtain ⟨e, B2⟩ := bag_choose B1
  have hrn : ∀ h' (ms : List Hp), me ∈ ms → Rd h' ms r 1 N ((L0.map (ptrS S)).flatMap cV) := fun h' ms hm => by
   have := (hme.rd (h := h') hm).rd
   rwa [ptr_len, hlen] at this
  refine Qx (ox_lenR (hrn _ _ (List.Mem.tail _ (List.Mem.head _))) rfl underlying106 rfl) rfl (Qm rfl (RnQ (ws_block (ws_top 1 rfl (ws_freezeL hme fun h3 l3 hRr => (ws_lend fun h4 l4 lB dB LB => (ws_emp ?_)))))))
  have hRr := hRr.up l4
  have hrn : ∀ (ms : List Hp), Rd h4 ms r 1 N ((L0.map (ptrS S)).flatMap cV) := fun ms => by
   have := (hRr.any (ms := ms)).rd
   rwa [ptr_len, hlen] at this
  refine ws_loop (fun q s hh ms' => ∃ (i : Nat) (vo : Value) (mo : Hp), q = N - i ∧ s = [(3, vo), (10, r), (11, .int .i64 N), (12, .int .i64 i)] ∧ h4 = hh ∧ ms' = [mo] ∧ i ≤ N ∧ OwnL cS 3 64 mo vo ((L0.take i).map e))
   (N - 0) _ ⟨0, _, _, rfl, rfl, rfl, rfl, by omega, OwnL.nil cS_len⟩ Qs ?_
  rintro q s hh ms' ⟨i, vo, mo, rfl, rfl, rfl, rfl, hi, hO⟩
  refine RsQ (Qx (ox_lss rfl rfl rfl) rfl (RnQ (ws_seq ?_)))
  refine ws_if rfl (fun hlt => ?_) (fun hlt => ?_)
  ·have hil : i < L0.length := by omega
   have hiN : L0.getD i 0 < N := List.mem_range.1 (hperm.mem_iff.1 (getD_mem hil))
   obtain ⟨x, hx, hSV⟩ := B2.all _ hiN
   have hsg := hSV.seg (Hp.le_trans hx lB)
   have hcs : ∀ ms, Cell h4 ms ((vbase r).add (i * 1)) (ptrS S (L0.getD i 0)) := fun ms => ptr_cell hRr.any hil
   have hll : ((L0.take i).map e).length ≤ 20400 := by rw [List.length_map, List.length_take]; omega
   have hone := cS_one (e (L0.getD i 0))
   have hsg' : ∀ ms, Seg h4 ms ((⟨(S (L0.getD i 0)).g, 0, none⟩ : Addr).add 0) (cS (e (L0.getD i 0))) := fun ms => by rw [zadd]; exact hsg.any
   refine ws_skip (nx_then (ws_seq (ws_block (RsQ (Qx (ox_indexR _ (hrn _) rfl underlying106 el108 rfl rfl rfl (by omega)) rfl (Qx (ox_load rfl underlying108 rfl rfl (hcs _)) rfl (Qm rfl (RrQ (Qm rfl (Qm rfl (Qx (ox_nilCheck rfl rfl) rfl (Qx (ox_fieldF fd110_0 rfl rfl) rfl (Qx (ox_loadG rfl underlying64 rfl el64 rfl rfl (hsg' _)) rfl ?_)))))))))))))
   refine wl_buildSlice1 [_, _, _] rfl underlying60 el64 rfl (by rfl) rfl rfl (by omega) rfl rfl rfl (fun g21 => ?_)
   refine wl_appendL 1 hO (RdL.one cS_len (x := e (L0.getD i 0)) (List.Mem.head _) rfl) rfl underlying60 el64 rfl (by omega) rfl rfl rfl cS_one (by simp only [List.length_singleton]; omega) (by simp only [List.length_singleton]; omega) rfl rfl rfl (fun vo2 mo2 hO2 => ?_)
   refine Qm rfl (wl_nil (nx_block (nx_then (ws_region (Qx (ox_add rfl rfl rfl (by omega)) rfl (Qm rfl (wl_nil (nx_drop ?_))))))))
   refine nx_round (N - (i + 1)) _ (by omega) ⟨i + 1, vo2, mo2, rfl, rfl, rfl, rfl, by omega, ?_⟩ Qs
   rw [take_succ' hil, List.map_append]
   exact hO2
  ·obtain rfl : i = N := by omega
   rw [show L0.take i = L0 by rw [← hlen, List.take_length]] at hO
   refine ws_exit (nx_then_exit (nx_then_exit (nx_block_exit (nx_then (ws_back LB lB fun h5 q5 b5 => (ws_swap ?_))))))
   have hO' : OS mo vo (L0.map e).toArray := hO
   refine RsQ (Qm rfl ?_)
   refine wl_call_ (pre := [mo]) rfl call58 rfl (sortStable_ok (L0.map e).toArray vo mo hO' (by simp; omega) h5) rfl rfl rfl rfl (fun x h6 ms6 l6 hF => ?_)
   obtain ⟨rfl, m', d', rfl, hO6, P6, S6⟩ := hF
   have hp6 := permIn_perm P6
   obtain ⟨L', hL, hd'⟩ := perm_map hp6.symm L0 rfl
   have hsz : d'.size = L'.length := by rw [← Array.length_toList, hd', List.length_map]
   have hone : vo.oneCell' = true := (OwnL.rd hO6 (h := h) (ms := [m']) (List.Mem.head _)).rd.one
   refine RtQ (Qm rfl (Qm rfl (RnQ (ws_ret ?_))))
   have hkey : ∀ k (hk : k < L'.length), d'[k]! = e L'[k] := fun k hk => by
    have h1 : d'.toList[k]? = some (e L'[k]) := by rw [hd']; simp [hk]
    have h2 : d'[k]? = some (e L'[k]) := by rw [← Array.getElem?_toList]; exact h1
    rw [getElem!_def, h2]
   have hsrt : (L'.map fun l => (e l).key).Pairwise fun a b => ¬ cmp2 b a < 0 := by
    rw [List.pairwise_map, List.pairwise_iff_getElem]
    intro x y hx hy hxy
    have h1 := S6 x y (by omega) hxy (by rw [P6.1] at hsz; omega)
    rw [hkey x hx, hkey y hy] at h1
    exact of_decide_eq_false h1
   exact nx_ret1 rfl rfl (⟨Hp.le_trans l1 (Hp.le_trans l2 (Hp.le_trans l3 (b5 _ l4 dB))), i, S, e, L', m', mB, rfl, hN, by rw [← hd']; exact hO6, B2, hL.symm.trans hperm, hV, hbd, hsrt⟩)
end Go.Proofs.YtdnelknieikbaaaGreat
namespace Go.Proofs.YtdnelknieikbaaaGreat
open Tryz
open Go.Eng Go.RowKit Go.Lin Go.Sort Go.Srt
def cP (a : Int × Int) : List Value := [.int .i64 a.1, .int .i64 a.2]
theorem cP_len : ∀ a, (cP a).length = 2 := fun _ => rfl
theorem cP_one (a : Int × Int) : ∀ c ∈ cP a, c.oneCell' = true := fun c hc => by
 simp only [cP, List.mem_cons, List.not_mem_nil, or_false] at hc
 rcases hc with rfl | rfl <;> rfl
def kP (a : Int × Int) : Value := .agg #[.int .i64 a.1, .int .i64 a.2]
structure POk (a : Int × Int) : Prop where
 k1 : I64 a.1
 k2 : I64 a.2
theorem laidOutP : laidOutB Tryz.prog = true := by kernel_rfl
theorem pairKeys : Keys Tryz.prog 53 kP POk where
 law := Maps.Keyed.of_law (deep_law_laid laidOutP (m := 9) (by decide) (of_decide_eq_true (by kernel_rfl)) (by kernel_rfl) (by rw [underlying53]))
 inj := fun a b h => by
  unfold kP at h
  simp at h
  exact Prod.ext h.1 h.2
 key := fun b h => by
  have w1 : (Lit.int .i64 b.1).wf = true := WalkArith.wf_i64 h.k1
  have w2 : (Lit.int .i64 b.2).wf = true := WalkArith.wf_i64 h.k2
  have hkt : Tryz.prog.keyType 53 = true := by kernel_rfl
  have hc53 : Tryz.prog.cellsOf 53 = 2 := by kernel_rfl
  have hfm : (kP b).formed Tryz.prog 53 = true := by
   unfold Value.formed kP
   simp only [underlying53]
   simp [hc53]
  have hc3 : Tryz.prog.cellsOf 3 = 1 := by kernel_rfl
  obtain ⟨n, hn⟩ : ∃ n, Tryz.prog.types.size = n + 1 := ⟨Tryz.prog.types.size - 1, by have : 0 < Tryz.prog.types.size := of_decide_eq_true (by kernel_rfl); omega⟩
  have hkl : ∃ ls, Tryz.prog.keyLits (Tryz.prog.types.size + 1) 53 (kP b).cells.toList = some ls := by
   rw [hn]
   refine ⟨[.int .i64 b.1, .int .i64 b.2], ?_⟩
   simp [Program.keyLits, underlying53, underlying3, kP, Value.cells, hc53, hc3, w1, w2, List.range, List.range.loop]
  obtain ⟨ls, hls⟩ := hkl
  unfold keyOf
  simp only [underlying53, hkt, hfm, Bool.and_self, if_true, hls, Option.map_some]
  exact ⟨_, rfl⟩
theorem zero3P (w : World) : (zeroValue 3).run Tryz.prog w = .ok (kI 0) w := by rfl
def encS (l : List StE) (k : Nat) : List Value := [.agg (cS (l.getD k default)).toArray]
theorem values_itr (g n : Nat) (v : Value) (l : List StE) (h : Hp) (hG : Seg h [] ⟨g, 0, none⟩ [v]) (hR : RdL cS 3 h [] v l) (hn : l.length = n) (hn2 : n ≤ 1000000) : Itr Tryz.prog 74 [.pointer (some ⟨g, 0, none⟩)] h n (encS l) := by
 intro lp X h1 ms hl hY h0
 show FnT _ _ #[.func (.yield lp) #[] #[], .pointer (some ⟨g, 0, none⟩)] _ _ _
 have hG := hG.le hl
 have hR := hR.up hl
 have hRn : ∀ h', h1.le h' → Rd h' [] v 3 n (l.flatMap cS) := fun h' l => by
  have := (hR.up l).rd
  rwa [hn] at this
 refine fn_enter func74 ntmps74 rfl rfl (fun w0 hw0 => ?_)
 simp only [argS]
 refine ws_seq (ws_regionI (il_x (ox_load rfl underlying60 rfl rfl ((hG.at0 rfl).any)) rfl rfl rfl (il_x (ox_lenR (hRn _ (Hp.le_refl _)).any rfl underlying60 rfl) rfl rfl rfl (il_x (ox_move rfl rfl) rfl rfl rfl (il_nil (nx_then (ws_block ?_)))))))
 refine ws_loop (fun q s hh ms' => ∃ (k : Nat), q = n - k ∧ s = [(0, .func (.yield lp) #[] #[]), (5, v), (6, .int .i64 n), (7, .int .i64 k)] ∧ h1.le hh ∧ k ≤ n ∧ X k hh ms')
  (n - 0) _ ⟨0, rfl, rfl, Hp.le_refl _, by omega, h0⟩ Qs ?_
 rintro q s hh ms' ⟨k, rfl, rfl, lh, hk, hX⟩
 refine ws_seq (ws_regionI (il_x (ox_lss rfl rfl rfl) rfl rfl rfl (il_nil (nx_then (ws_seq ?_)))))
 refine ws_if rfl (fun hlt => ?_) (fun hlt => ?_)
 ·have hkn : k < n := by omega
  have hi : k < l.length := by omega
  obtain ⟨x, hx⟩ : ∃ x, x = l.getD k default := ⟨_, rfl⟩
  have hone := x.one
  have he : encS l k = [.agg (cS x).toArray] := by unfold encS; rw [hx]
  have hYk := hY k hh ms' hkn lh hX
  rw [he] at hYk
  have hseg : ∀ ms, Seg hh ms ((vbase v).add (k * 3)) (cS x) := fun ms => by
   rw [hx]
   have h1 := ((hR.up lh).any (ms := ms)).seg hi
   have e : l.getD k default = l[k] := by simp [List.getD, hi]
   rwa [e]
  refine ws_skip (nx_then (ws_seq (ws_block (RsQ (Qx (ox_indexR (k) (hRn _ lh).any rfl underlying60 el64 rfl rfl (by omega) (by omega)) rfl (Qx (ox_loadG rfl underlying64 rfl el64 rfl rfl (hseg _)) rfl (AlQ [.int .i64 0, .int .i64 0, .slice none 0 0] rfl el64 rfl rfl (fun g4 => ?_))))))))
  refine wl_storeAll 0 [_, _, _] rfl el64 rfl rfl rfl (by (simp [hone]; done)) rfl rfl rfl rfl rfl ?_
  refine RnQ (ws_seq (ws_regionI (il_x (ox_move rfl rfl) rfl rfl rfl (il_x (ox_loadG rfl underlying64 rfl el64 rfl rfl (Seg.blk 0 rfl)) rfl rfl rfl (il_drop (il_yield rfl rfl rfl (hYk) rfl rfl rfl (fun r h2 ms2 l2 hr => ?_)))))))
  obtain ⟨rfl, hX2⟩ := hr
  refine il_x (ox_not rfl rfl) rfl rfl rfl (il_nil (nx_then (ws_cond_f rfl (ws_skip (nx_block (nx_then (ws_regionI (il_x (ox_add rfl rfl rfl (by omega)) rfl rfl rfl (il_x (ox_move rfl rfl) rfl rfl rfl (il_nil ?_))))))))))
  exact nx_round (n - (k + 1)) _ (by omega) ⟨k + 1, rfl, rfl, Hp.le_trans lh l2, by omega, hX2⟩ Qs
 ·obtain rfl : k = n := by omega
  refine ws_exit (nx_then_exit (nx_then_exit (nx_block_exit ?_)))
  exact nx_end0 rfl (hX)
theorem values_v (v : Value) (n : Nat) (cs : List Value) (h : Hp) (hR : Rd h [] v 3 n cs) : FnT Tryz.prog 40 #[v] h [] (fun r h' ms' => h = h' ∧ ∃ g, r = .func (.func 74) #[] #[.pointer (some ⟨g, 0, none⟩)] ∧ ms' = [Blk g 60 [v]]) := by
 refine fn_enter func40 ntmps40 rfl rfl (fun w0 hw0 => ?_)
 simp only [argS]
 refine RsQ (wl_box [_] rfl rfl (Rd.cells ‹_›) rfl rfl rfl (fun g1 => Qm rfl (RtQ (Qx (ox_makeFunc rfl rfl rfl) rfl (Qm rfl (RnQ (ws_ret ?_)))))))
 exact nx_ret1 rfl rfl (⟨rfl, _, rfl, rfl⟩)
end Go.Proofs.YtdnelknieikbaaaGreat
namespace Go.Proofs.YtdnelknieikbaaaGreat
open Tryz
open Go.Eng Go.RowKit Go.Lin Go.Sort Go.Srt
structure TC (T : List ((Int × Int) × Int)) (ks : List (Int × Int)) : Prop where
 cnt : ∀ a, (getK T a).getD 0 = (ks.count a : Nat)
 has : ∀ a x, getK T a = some x → a ∈ ks
theorem TC.step {T : List ((Int × Int) × Int)} {ks : List (Int × Int)} (h : TC T ks) (b : Int × Int) (x : Int) (hx : (getK T b).getD 0 = x) : TC (setT (setT T b x) b (x + 1)) (ks ++ [b]) := by
 have key : ∀ a, getK (setT (setT T b x) b (x + 1)) a = if a = b then some (x + 1) else getK T a := fun a => by
  rw [getK_setT, getK_setT]
  by_cases e : a = b <;> simp [e]
 refine ⟨fun a => ?_, fun a y hy => ?_⟩
 ·rw [key, List.count_append]
  by_cases e : a = b
  ·subst e
   rw [if_pos rfl]
   have := h.cnt a
   rw [hx] at this
   simp [this]
  ·rw [if_neg e, h.cnt a]
   have : [b].count a = 0 := List.count_eq_zero.2 (by simpa using e)
   rw [this]; rfl
 ·rw [key] at hy
  by_cases e : a = b
  ·exact List.mem_append_right _ (by simp [e])
  ·rw [if_neg e] at hy
   exact List.mem_append_left _ (h.has a y hy)
theorem getK_touchP (T : List ((Int × Int) × Int)) (b : Int × Int) (x : Int) : (getK (setT T b x) b).getD 0 = x := by rw [getK_setT]; simp
theorem ox_lookupW {P : Program} {o : Oper} {s : Slots} {h : Hp} {ms : List Hp} {K : Int × Int → Value} {kt et t : TypeId} {g : Nat} {m : Hp} {T : List ((Int × Int) × Int)} {bs : List Nat} {Ok : Int × Int → Prop} {x y : Operand} {z : Int} (a : Int × Int) (v : Int) (hv : (getK T a).getD z = v) (L : Keys P kt K Ok) (O : OwnM K kI g Ok m T bs) (hm : m ∈ ms) (ho : o.op = .lookup t x y false) (ht : P.underlying t = some (.map kt et)) (hz : ∀ w, (zeroValue et).run P w = .ok (kI z) w) (hx : ev s x = some (.map (some g))) (hy : ev s y = some (K a)) (ha : Ok a) :
  OX P o s h ms (kI v) := by rw [← hv]; exact ox_lookup a L O hm ho ht hz hx hy ha
theorem counts_ok (g n : Nat) (v : Value) (l : List StE) (h : Hp) (hG : Seg h [] ⟨g, 0, none⟩ [v]) (hR : RdL cS 3 h [] v l) (hn : l.length = n) (hn2 : n ≤ 1000000) (hk : ∀ s ∈ l, POk s.key) :
  FnT Tryz.prog 39 #[.func (.func 74) #[] #[.pointer (some ⟨g, 0, none⟩)]] h [] (fun r h' ms' => h.le h' ∧ ∃ gT m T bs, r = .map (some gT) ∧ ms' = [m] ∧ OwnM kP kI gT POk m T bs ∧ TC T (l.map StE.key)) := by
 refine fn_enterM func39 ntmps39 rfl rfl (fun w0 hw0 => ?_)
 simp only [argS]
 refine RsQ (Qm rfl (RtQ (wl_makeMap (K := kP) (V := kI) (Ok := POk) rfl rfl rfl rfl (fun gT mT0 OT0 => AlQ [.map none] rfl el51 rfl rfl (fun g3 => ?_)))))
 refine wl_storeAt 0 0 rfl el51 rfl rfl (by rfl) rfl rfl (by decide) rfl rfl ?_
 refine RnQ (ws_freezeB fun h1 l1 hG3 => ?_)
 have hI := values_itr g n v l h1 (hG.le l1) (hR.up l1) hn hn2
 refine ws_seq (RsQ (Qm rfl (RnQ (ws_block ?_))))
 refine ws_rangeFunc (fun k hh ms => ∃ m T bs, ms = [m] ∧ OwnM kP kI gT POk m T bs ∧ TC T ((l.take k).map StE.key)) (fun k s1 hh ms => ∃ g4 m T bs, s1 = [(3, .pointer (some ⟨g3, 0, none⟩)), (4, .pointer (some ⟨g4, 0, none⟩))] ∧ ms = [Blk g4 64 (cS (l.getD k default)), m] ∧ OwnM kP kI gT POk m T bs ∧ TC T ((l.take k).map StE.key)) rfl call74 hI (fun k => rfl) rfl ?_ ?_ ?_ ?_
 ·exact ⟨mT0, [], [], rfl, OT0, ⟨fun a => rfl, fun a x h => by cases h⟩⟩
 ·rintro w1 k hh ms1 hkn lh ⟨m, T, bs, rfl, O, C⟩
  obtain ⟨x, hx⟩ : ∃ x, x = l.getD k default := ⟨_, rfl⟩
  have he : encS l k = [.agg (cS x).toArray] := by unfold encS; rw [hx]
  rw [he, ← hx]
  have hone := x.one
  refine rs_region_ (by kernel_rfl) (AlQ [.int .i64 0, .int .i64 0, .slice none 0 0] rfl el64 rfl rfl (fun g4 => ?_))
  refine wl_storeAll 0 [_, _, _] rfl el64 rfl rfl rfl (by (simp [hone]; done)) rfl rfl rfl rfl rfl ?_
  refine wl_nil ?_
  exact nx_meet _ ⟨g4, m, T, bs, rfl, rfl, O, C⟩ Qs
 ·rintro w1 k s1 hh ms1 hkn lh ⟨g4, m, T, bs, rfl, rfl, O, C⟩
  have hkl : k < l.length := by omega
  obtain ⟨x, hx⟩ : ∃ x, x = l.getD k default := ⟨_, rfl⟩
  have hxl : x = l[k] := by rw [hx]; simp [List.getD, hkl]
  rw [← hx]
  have hpk := hk x (by rw [hxl]; exact List.getElem_mem hkl)
  have hcnt : ((l.take k).map StE.key).count x.key ≤ 1000000 := Nat.le_trans List.count_le_length (by simp; omega)
  obtain ⟨v0, hv0⟩ : ∃ v0, (getK T x.key).getD 0 = v0 := ⟨_, rfl⟩
  have hb0 : 0 ≤ v0 ∧ v0 ≤ 1000000 := by
   have h1 := C.cnt x.key
   rw [hv0] at h1
   omega
  have hst := C.step x.key v0 hv0
  have hst' : TC (setT (setT T x.key v0) x.key (v0 + 1)) ((l.take (k + 1)).map StE.key) := by
   rw [List.take_succ_eq_append_getElem hkl, List.map_append, ← hxl]
   exact hst
  have hv1 := getK_touchP T x.key v0
  refine rs_lend fun h2 l2 lg4 _ _ => ?_
  have hG4 := Seg.ofLe lg4
  have hA4 := Seg.all hG4
  have hG3 := hG3.le (Hp.le_trans lh l2)
  refine rs_block (rs_stab (n := 11) (bs := [true, true, true, true, true, true, false, false, false, false, false]) [true, true, true, true, true, true] fol (by kernel_rfl) (by kernel_rfl) rfl rfl (by kernel_rfl) (Qp rfl (ox_load rfl underlying51 rfl rfl ((hG3.at0 rfl).any)) (Qp rfl (ox_fieldF fd64_0 rfl rfl) (Qp rfl (ox_load rfl underlying3 rfl rfl (hA4 0 _ rfl _)) (Qp rfl (ox_fieldF fd64_1 rfl rfl) (Qp rfl (ox_load rfl underlying3 rfl rfl (hA4 1 _ rfl _)) ?_))))))
  refine Qp rfl (ox_buildA [.int .i64 0, .int .i64 0] [(0, [_]), (1, [_])] [_, _] rfl underlying53 el53 rfl el3 rfl (by repeat (first | exact trivial | refine ⟨⟨by rfl, rfl, rfl⟩, ?_⟩)) rfl) ?_
  unfold PZs
  simp only [List.cons_append, List.nil_append]
  refine wb_step [6, 8] (by kernel_rfl) rfl ?_
  refine wbl_cons rfl ?_ ?_
  ·refine Qx (ox_lookupW (z := 0) x.key v0 hv0 pairKeys O (by simp) rfl underlying51 zero3P rfl rfl hpk) rfl ?_
   refine Qw (wb_float 7 15 (by kernel_rfl) rfl (Hp.le_refl _) rfl (ox_add rfl rfl rfl (by omega)) (Qo 8 rfl (wl_mapEntry (V := kI) (z := (0 : Int)) 0 x.key pairKeys O rfl rfl underlying51 zero3P rfl rfl hpk rfl rfl rfl (fun m2 bs2 j2 b2 O2 hj2 hb2 => Qw ?_))))
   rw [hv0] at O2 hj2
   refine wb_float 9 17 (by kernel_rfl) rfl (Hp.le_refl _) rfl (ox_extract rfl rfl rfl) (Qo 10 rfl (wl_entryStore 0 (v0 + 1) O2 hj2 hb2 rfl rfl rfl rfl rfl rfl rfl (fun m3 O3 => Qw (Qe ?_))))
   exact nx_block (nx_meet [] ⟨m3, _, bs2, rfl, O3, hst'⟩ trivial)
  refine wbl_cons rfl ?_ ?_
  ·refine wl_mapEntry (V := kI) (z := (0 : Int)) 0 x.key pairKeys O rfl rfl underlying51 zero3P rfl rfl hpk rfl rfl rfl (fun m2 bs2 j2 b2 O2 hj2 hb2 => Qw ?_)
   rw [hv0] at O2 hj2
   refine wb_float 9 17 (by kernel_rfl) rfl (Hp.le_refl _) rfl (ox_extract rfl rfl rfl) (Qo 6 rfl ?_)
   refine Qx (ox_lookupW (z := 0) x.key v0 hv1 pairKeys O2 (by simp) rfl underlying51 zero3P rfl rfl hpk) rfl ?_
   refine Qw (wb_float 7 15 (by kernel_rfl) rfl (Hp.le_refl _) rfl (ox_add rfl rfl rfl (by omega)) (Qo 10 rfl (wl_entryStore 0 (v0 + 1) O2 hj2 hb2 rfl rfl rfl rfl rfl rfl rfl (fun m3 O3 => Qw (Qe ?_)))))
   exact nx_block (nx_meet [] ⟨m3, _, bs2, rfl, O3, hst'⟩ trivial)
  exact wbl_nil
 ·intro D hh ms1 lh ⟨m, T, bs, e, O, C⟩
  subst e
  rw [← hn, List.take_length] at C
  have hG3 := hG3.le lh
  refine nx_block (nx_then (RsQ (Qx (ox_load rfl underlying51 rfl rfl ((hG3.at0 rfl).any)) rfl (Qm rfl (RnQ (ws_ret (nx_mark 1 (.inr rfl) rfl ?_)))))))
  exact nx_ret1 rfl rfl (⟨Hp.le_trans l1 lh, gT, m, T, bs, rfl, rfl, O, C⟩)
end Go.Proofs.YtdnelknieikbaaaGreat
namespace Go.Proofs.YtdnelknieikbaaaGreat
open Tryz
open Go.Eng Go.RowKit Go.Lin Go.Sort Go.Srt
def keyR (T : List ((Int × Int) × Int)) (vis : List Nat) (vs : List Value) (vis' : List Nat) : Prop := ∃ (j : Nat) (hj : j < T.length), j ∉ vis ∧ vs = [kP T[j].1] ∧ vis' = vis ++ [j]
theorem keys_itr (g1 gT : Nat) (m : Hp) (T : List ((Int × Int) × Int)) (bs : List Nat) (h : Hp) (hG : Seg h [] ⟨g1, 0, none⟩ [.map (some gT)]) (O : OwnM kP kI gT POk m T bs) (hm : m.le h) :
  ItrG Tryz.prog 77 [.pointer (some ⟨g1, 0, none⟩)] h (keyR T) [] (fun vis => vis.Perm (List.range T.length)) := by
 intro lp X h1 ms hl hY h0
 show FnT _ _ #[.func (.yield lp) #[] #[], .pointer (some ⟨g1, 0, none⟩)] _ _ _
 have hG := hG.le hl
 have hm := Hp.le_trans hm hl
 refine fn_enter func77 ntmps77 rfl rfl (fun w0 hw0 => ?_)
 simp only [argS]
 refine RsQ (Qx (ox_load rfl underlying51 rfl rfl ((hG.at0 rfl).any)) rfl (wl_rangeF O hm rfl underlying51 rfl rfl rfl rfl (fun gi mi I0 => RnQ (ws_block ?_))))
 refine ws_loop (fun q s hh ms' => ∃ (vis : List Nat) (mi : Hp) (ms0 : List Hp), q = T.length - vis.length ∧ s = [(0, .func (.yield lp) #[] #[]), (5, .pointer (some ⟨gi, 0, none⟩))] ∧ h1.le hh ∧ ms' = mi :: ms0 ∧ IterM gi gT m mi bs vis ∧ X vis hh ms0)
  (T.length - 0) _ ⟨[], mi, ms, rfl, rfl, Hp.le_refl _, rfl, I0, h0⟩ Qs ?_
 rintro q s hh ms' ⟨vis, mi, ms0, rfl, rfl, lh, rfl, I, hX⟩
 have hm := Hp.le_trans hm lh
 refine RsQ ?_
 refine wl_nextF 0 O I hm rfl rfl rfl rfl rfl rfl (fun hall => ?_) (fun j hj mi' hjv I' => ?_)
 ·refine Qx (ox_extract rfl rfl rfl) rfl (RnQ (ws_seq (ws_cond_f rfl (ws_exit (nx_then_exit (nx_then_exit (nx_block_exit (nx_drop ?_))))))))
  exact nx_end0 rfl (⟨vis, (List.perm_ext_iff_of_nodup I.nodup List.nodup_range).2 fun j => ⟨fun hj => List.mem_range.2 (by have := I.lt j hj; rw [O.len] at this; exact this), fun hj => hall j (List.mem_range.1 hj)⟩, hX⟩)
 ·refine Qx (ox_extract rfl rfl rfl) rfl (RnQ (ws_seq ?_))
  have hlen : (vis ++ [j]).length ≤ T.length := by
   have := I'.nodup.length_le_of_subset (l₂ := List.range T.length) fun x hx => List.mem_range.2 (by have := I'.lt x hx; rw [O.len] at this; exact this)
   simpa using this
  rw [List.length_append, List.length_singleton] at hlen
  refine ws_cond_t rfl (ws_skip (nx_then (ws_block (RsQ (Qx (ox_entryF O I' hm (List.Mem.head _) hj rfl rfl) rfl (Qx (ox_extract rfl rfl rfl) rfl (AlQ [.int .i64 0, .int .i64 0] rfl el53 rfl rfl (fun g3 => ?_))))))))
  refine wl_storeAll 0 [_, _] rfl el53 rfl rfl rfl (by (simp [Value.oneCell']; done)) rfl rfl rfl rfl rfl ?_
  refine RnQ (ws_seq (ws_regionI (il_x (ox_move rfl rfl) rfl rfl rfl (il_x (ox_loadG rfl underlying53 rfl el53 rfl rfl (Seg.blk 0 rfl)) rfl rfl rfl (il_drop (il_yieldF (pre := ms0) (fr := [mi']) (List.perm_append_comm (l₁ := [mi'])) rfl rfl rfl (hY vis [kP T[j].1] (vis ++ [j]) hh ms0 ⟨j, hj, hjv, rfl, rfl⟩ lh hX) rfl rfl rfl (fun r h2 ms2 l2 hr => ?_)))))))
  obtain ⟨rfl, hX2⟩ := hr
  refine il_x (ox_not rfl rfl) rfl rfl rfl (il_nil (nx_then (ws_cond_f rfl (ws_skip (nx_block (nx_perm (List.perm_append_comm (l₂ := [mi'])) ?_))))))
  exact nx_round (T.length - (vis ++ [j]).length) _ (by rw [List.length_append, List.length_singleton]; omega) ⟨vis ++ [j], mi', ms2, rfl, rfl, Hp.le_trans lh l2, rfl, I', hX2⟩ Qs
theorem keys_v (v : Option Nat) (h : Hp) : FnT Tryz.prog 42 #[.map v] h [] (fun r h' ms' => h = h' ∧ ∃ g, r = .func (.func 77) #[] #[.pointer (some ⟨g, 0, none⟩)] ∧ ms' = [Blk g 51 [.map v]]) := by
 refine fn_enter func42 ntmps42 rfl rfl (fun w0 hw0 => ?_)
 simp only [argS]
 refine RsQ ?_
 refine wl_box [_] rfl rfl (by rfl) rfl rfl rfl (fun g1 => ?_)
 refine Qm rfl (RtQ (Qx (ox_makeFunc rfl rfl rfl) rfl (Qm rfl (RnQ (ws_ret ?_)))))
 exact nx_ret1 rfl rfl (⟨rfl, _, rfl, rfl⟩)
end Go.Proofs.YtdnelknieikbaaaGreat
