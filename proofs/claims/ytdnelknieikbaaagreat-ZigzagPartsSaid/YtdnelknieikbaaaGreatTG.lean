/- Parts of the proof: Yn Yp Yq. -/
import Derived.Test.YtdnelknieikbaaaGreatTF
set_option linter.unusedSimpArgs false
set_option linter.unusedVariables false
set_option maxRecDepth 100000
set_option maxHeartbeats 4000000
namespace Go.Proofs.YtdnelknieikbaaaGreat
open Tryz
open Go.Eng Go.RowKit Go.Lin
variable {S : Nat → SM} {h : Hp} {L : List Nat} {v : Value} {d n i : Nat} {w : Nat → Nat → Int} {es : List Value}
def ptrS (S : Nat → SM) (l : Nat) : Value := .pointer (some ⟨(S l).g, 0, none⟩)
theorem ptr_at (hi : i < L.length) : (L.map (ptrS S))[i]'(by simpa using hi) = ptrS S (L.getD i 0) := by simp [List.getD, hi]
theorem ptr_cell {ms : List Hp} (R : RdL cV 1 h ms v (L.map (ptrS S))) (hi : i < L.length) : Cell h ms ((vbase v).add (i * 1)) (ptrS S (L.getD i 0)) := by
 have := R.cell0 (j := i) (by simpa using hi) (u := (L.map (ptrS S))[i]'(by simpa using hi)) rfl
 rwa [ptr_at hi] at this
theorem ptr_len : (L.map (ptrS S)).length = L.length := by simp
theorem ptr_rd {ms : List Hp} (R : RdL cV 1 h ms v (L.map (ptrS S))) : Rd h ms v 1 L.length ((L.map (ptrS S)).flatMap cV) := by
 have := R.rd
 rwa [ptr_len] at this
def ImV (h : Hp) (d n : Nat) (es : List Value) (w : Nat → Nat → Int) : Prop := es.length = n ∧ ∀ t (ht : t < es.length), RdL cI 1 h [] es[t] (vec d (w t))
theorem ImV.up {h' : Hp} (I : ImV h d n es w) (hl : h.le h') : ImV h' d n es w := ⟨I.1, fun t ht => (I.2 t ht).up hl⟩
theorem ImV.rd (I : ImV h d n es w) (R : RdL cV 1 h [] v es) : RdV h v n d w := ⟨es, I.1, R, I.2⟩
def snocW (n : Nat) (w : Nat → Nat → Int) (u : Nat → Int) (t : Nat) : Nat → Int := if t = n then u else w t
theorem ImV.snoc {u : Nat → Int} {x : Value} (I : ImV h d n es w) (R : RdL cI 1 h [] x (vec d u)) : ImV h d (n + 1) (es ++ [x]) (snocW n w u) := by
 obtain ⟨h1, h2⟩ := I
 refine ⟨by rw [List.length_append, h1]; rfl, fun t ht => ?_⟩
 rw [List.length_append, List.length_singleton] at ht
 unfold snocW
 rw [List.getElem_append]
 split
 ·rename_i h3
  rw [if_neg (by omega)]; exact h2 t h3
 ·rename_i h3
  rw [if_pos (by omega)]
  simpa using R
theorem solve_one (p : Int) (r c : Nat) (f g : Nat → Nat → Int) (ev eu : Value) (h : Hp) (R : RtM p r c f) (S : RtM p r 1 g) (hR : RdL cI 1 h [] ev (mat r c f)) (hS : RdL cI 1 h [] eu (mat r 1 g)) :
  FnT Tryz.prog 115 #[.agg #[.int .i64 p, .int .i64 r, .int .i64 c, ev], .agg #[.int .i64 p, .int .i64 r, .int .i64 1, eu]] h [] (fun x h' ms' => h.le h' ∧ ∃ (F : Nat → Nat → Int) (pv : List Nat) (M : FM) (b : Bool) (xe : Value) (mx : Hp), Ech p r (c + 1) (jn c f g) F pv ∧ x = .tuple #[.agg #[.int .i64 M.p, .int .i64 M.rows, .int .i64 M.cols, xe], .bool b] ∧ ms' = [mx] ∧ OwnL cI 1 3 mx xe M.e ∧ (((∀ j (hj : j < pv.length), pv[j] < c) ∧ b = true ∧ M = mkM p c 1 (solf pv F c)) ∨ (¬ (∀ j (hj : j < pv.length), pv[j] < c) ∧ b = false))) := by
 refine (solve_ok p r c 1 f g ev eu h R S (.inr (by omega)) hR hS).mono ?_
 rintro x h' ms' ⟨hl, F, pv, v, hE, h1, h2⟩
 by_cases hc : ∀ j (hj : j < pv.length), pv[j] < c
 ·obtain ⟨rfl, xe, mx, rfl, rfl, hO⟩ := h1 hc
  exact ⟨hl, F, pv, _, true, xe, mx, hE, rfl, rfl, hO, .inl ⟨hc, rfl, rfl⟩⟩
 ·obtain ⟨rfl, xe, mx, rfl, rfl, hO⟩ := h2 hc
  exact ⟨hl, F, pv, _, false, xe, mx, hE, rfl, rfl, hO, .inr ⟨hc, rfl⟩⟩
theorem sgl {g : Nat} {u : Nat → Int} (hG : Seg h [] ⟨g, 0, none⟩ [v]) (hR : RdL cI 1 h [] v (vec d u)) : RdV h (.slice (some ⟨g, 0, none⟩) 1 1) 1 d (fun _ => u) :=
 ⟨[v], rfl, RdL.one1 hG, fun j hj => by
  obtain rfl : j = 0 := by simpa using hj
  exact hR⟩
theorem growN_g {k : Nat} {st : List Nat} (l : Nat) : (growN k w st i S l).g = (S l).g ∧ (growN k w st i S l).fr = (S l).fr := by
 unfold growN; split <;> exact ⟨rfl, rfl⟩
def gbS (gb : Nat → Nat) (n g : Nat) (l : Nat) : Nat := if l = n then g else gb l
theorem bornN_other {N k g : Nat} {gb : Nat → Nat} {u : Nat → Nat → Int} {l : Nat} (h : l ≠ n) : bornN N k (gbS gb n g) u S l = bornN N k gb u S l := by
 unfold bornN gbS
 split
 ·rfl
 ·rfl
theorem nat_lt_of {a b : Nat} (h : (a : Int) < b) : a < b := by omega
theorem forward_ok (Z : Zg) (k N : Nat) (S0 : Nat → SM) (al en : List Nat) (gm : Nat) (va ve ev : Value) (me mB h : Hp) (hp : IsP Z.p) (hd : ∀ j, Z.d j ≤ 200) (hk : k ≤ 200) (hN : N ≤ 100000) (M : Mch Z k N S0 al en) (hb : Z.back k = false) (RA : RtM Z.p (Z.d (k + 1)) (Z.d k) (Z.mat k)) (hA : RdL cI 1 h [] ev (mat (Z.d (k + 1)) (Z.d k) (Z.mat k)))
  (ha : RdL cV 1 h [] va (al.map (ptrS S0))) (hE : OwnL cV 1 108 me ve (en.map (ptrS S0))) (B : BagS Z.d N S0 mB) :
  FnT Tryz.prog 91 #[.pointer (some ⟨gm, 0, none⟩), .agg #[.int .i64 Z.p, .int .i64 (Z.d (k + 1)), .int .i64 (Z.d k), ev]] h [mB, Blk gm 132 [.int .i64 Z.p, .int .i64 k, va, ve], me] (fun r h' ms' => h.le h' ∧ ∃ (nb : Nat) (S' : Nat → SM) (al' en' : List Nat) (va' ve' : Value) (me' mB' : Hp), ms' = [mB', Blk gm 132 [.int .i64 Z.p, .int .i64 ((k : Int) + 1), va', ve'], me'] ∧ nb ≤ 200 ∧ RdL cV 1 h' [] va' (al'.map (ptrS S')) ∧ OwnL cV 1 108 me' ve' (en'.map (ptrS S')) ∧ BagS Z.d (N + nb) S' mB' ∧ Mch Z (k + 1) (N + nb) S' al' en') := by
 have hbp := RA.bd
 have hFp := hp.fld
 have d1 := hd (k + 1)
 have d0 := hd k
 have hal := M.cnt_al
 have oev := hA.rd.one
 have oa := ha.rd.one
 have hla : (al.map (ptrS S0)).length = al.length := ptr_len
 refine fn_enter func91 ntmps91 rfl rfl (fun w0 hw0 => ?_)
 simp only [argS]
 refine RsQ ?_
 refine wl_box [_, _, _, _] rfl rfl (by rfl) rfl rfl rfl (fun g3 => ?_)
 refine RnQ (ws_freezeBi 0 rfl fun h1 l1 hG => ?_)
 have hA := hA.up l1
 have ha := ha.up l1
 have hGA := Seg.all hG
 refine ws_emp (ws_emp (ws_perm (ms' := [mB, Blk gm 132 [.int .i64 Z.p, .int .i64 k, va, ve], me, Hp.emp, Hp.emp]) (List.perm_append_comm (l₁ := [_, _]) (l₂ := [_, _, _])) (RsQ (Qm rfl (RtQ (Qm rfl (RnQ ?_)))))))
 refine ws_cut (fun s hh ms' => ∃ (S : Nat → SM) (st de : List Nat) (w : Nat → Nat → Int) (es : List Value) (vst vim ve' : Value) (mB me' mst mim : Hp), s = [(0, .pointer (some ⟨gm, 0, none⟩)), (3, .pointer (some ⟨g3, 0, none⟩)), (4, vst), (5, vim)] ∧ h1.le hh ∧ ms' = [mB, Blk gm 132 [.int .i64 Z.p, .int .i64 k, va, ve'], me', mst, mim] ∧ Fw Z k N S0 S al st de al.length w ∧ OwnL cV 1 108 mst vst (st.map (ptrS S0)) ∧ OwnL cV 1 24 mim vim es ∧ ImV hh (Z.d (k + 1)) st.length es w ∧ OwnL cV 1 108 me' ve' ((en ++ de).map (ptrS S0)) ∧ BagS Z.d N S mB) ?_ (fun s h ms hI => ?_)
 ·refine ws_seq (ws_region (Qm rfl (Qx (ox_nilCheck rfl rfl) rfl (Qx (ox_fieldF fd132_2 rfl rfl) rfl (Qx (ox_load rfl underlying106 rfl rfl (Cell.blk 1 (k := 2) rfl rfl)) rfl (Qx (ox_lenR (ptr_rd ha).any rfl underlying106 rfl) rfl (Qm rfl (RnQ (ws_block ?_)))))))))
  refine ws_loop (fun q s hh ms' => ∃ (i : Nat) (S : Nat → SM) (st de : List Nat) (w : Nat → Nat → Int) (es : List Value) (vst vim ve' : Value) (mB me' mst mim : Hp), q = al.length - i ∧ s = [(0, .pointer (some ⟨gm, 0, none⟩)), (3, .pointer (some ⟨g3, 0, none⟩)), (4, vst), (5, vim), (20, va), (21, .int .i64 al.length), (22, .int .i64 i)] ∧ h1.le hh ∧ ms' = [mB, Blk gm 132 [.int .i64 Z.p, .int .i64 k, va, ve'], me', mst, mim] ∧ i ≤ al.length ∧ Fw Z k N S0 S al st de i w ∧ OwnL cV 1 108 mst vst (st.map (ptrS S0)) ∧ OwnL cV 1 24 mim vim es ∧ ImV hh (Z.d (k + 1)) st.length es w ∧ OwnL cV 1 108 me' ve' ((en ++ de).map (ptrS S0)) ∧ BagS Z.d N S mB)
   (al.length - 0) _ ⟨0, S0, [], [], fun _ _ => 0, [], _, _, ve, mB, me, _, _, rfl, rfl, Hp.le_refl _, rfl, by omega, Fw.start M _, OwnL.nil cV_len, OwnL.nil cV_len, ⟨rfl, fun t ht => by simp at ht⟩, by rw [List.append_nil]; exact hE, B⟩ Qs ?_
  rintro q s hh ms' ⟨i, S, st, de, w, es, vst, vim, ve', mB, me', mst, mim, rfl, rfl, hlh, rfl, hi, W, hst, him, hIm, hen, B⟩
  have hA := hA.up hlh
  have ha := ha.up hlh
  have hG := hG.le hlh
  have hGA := Seg.all hG
  have hstl : st.length ≤ i := by
   have := W.sub.length_le
   rw [List.length_take] at this
   omega
  refine RsQ (Qx (ox_lss rfl rfl rfl) rfl (RnQ (ws_seq ?_)))
  refine ws_if rfl (fun hlt => ?_) (fun hlt => ?_)
  ·have hil : i < al.length := nat_lt_of hlt
   have hIm00 := hIm
   have hcs : ∀ ms, Cell hh ms ((vbase va).add (i * 1)) (ptrS S0 (al.getD i 0)) := fun ms => ptr_cell ha.any hil
   have hsN : al.getD i 0 < N := M.lt (getD_mem hil)
   have hsk : (S (al.getD i 0)).to = k := by rw [(W.same _).2.2]; exact M.live _ (getD_mem hil)
   refine ws_skip (nx_then (ws_seq (ws_block (RsQ (Qx (ox_indexR _ (ptr_rd ha).any rfl underlying106 el108 rfl rfl rfl (by omega)) rfl (Qx (ox_load rfl underlying108 rfl rfl (hcs _)) rfl (Qm rfl (RnQ (ws_lend fun h2 l2 lB dB LB => (ws_lend fun h3 l3 lM dM LM => ?_))))))))))
   have hgs : ptrS S0 (al.getD i 0) = .pointer (some ⟨(S (al.getD i 0)).g, 0, none⟩) := by unfold ptrS; rw [(W.same _).1]
   rw [hgs]
   have l03 := Hp.le_trans l2 l3
   have hA3 := hA.up l03
   obtain ⟨u, hu, hRu⟩ := last_r Z.d _ _ _ _ h3 (B.rd (Hp.le_trans lB l3) hsN) (by omega)
   rw [hsk] at hRu
   have hG3 := hG.le l03
   have hGA3 := Seg.all hG3
   refine ws_seq (ws_stab (n := 5) (bs := [true, true, true, false, false]) [true, true, true] fol (by kernel_rfl) (by kernel_rfl) rfl rfl (Qp rfl (ox_loadG rfl underlying42 rfl el42 rfl rfl (Seg.any hG3)) (Qp rfl (ox_move rfl rfl) (Qp rfl (ox_call rfl call107 rfl (hu _)) ?_))))
   unfold PZs
   simp only [List.cons_append, List.nil_append]
   refine Qo 3 rfl ?_
   refine wl_call rfl call67 rfl (apply_ok Z.p (Z.d (k + 1)) (Z.d k) (Z.mat k) ((S (al.getD i 0)).v k) ev u h3 RA (fun j hj => W.bd _ hsN k (by have := B.fr_to hsN; omega) (by omega) j hj) hA3 hRu) rfl rfl rfl (fun v h4 ms4 l4 hF => ?_)
   obtain ⟨l4', mv, rfl, hOv⟩ := hF
   refine Qa (Qo 4 rfl (Qm rfl (Qa (Qe ?_))))
   have wr : RtM Z.p (Z.d (k + 1)) st.length (fun a t => w t a) := ⟨hp, by omega, by omega, fun a ha t ht => by
    show 0 ≤ w t a ∧ w t a < Z.p
    rw [W.im t ht a ha]
    exact ⟨Int.emod_nonneg _ (by omega), Int.emod_lt_of_pos _ (by omega)⟩⟩
   have vr : RtM Z.p (Z.d (k + 1)) 1 (fun a _ => apf Z.p (Z.d k) (Z.mat k) ((S (al.getD i 0)).v k) a) := ⟨hp, by omega, by omega, fun a ha t ht => by
    show 0 ≤ apf _ _ _ _ a ∧ apf _ _ _ _ a < _
    unfold apf
    exact ⟨Int.emod_nonneg _ (by omega), Int.emod_lt_of_pos _ (by omega)⟩⟩
   refine nx_then (ws_lend fun h5 l5 lv dv Lv => (ws_perm (ms' := [mim, me', mst]) (perm3 _ _ _) (ws_lend fun h6 l6 lim dim Lim => ?_)))
   have l06 := Hp.le_trans l03 (Hp.le_trans l4 (Hp.le_trans l5 l6))
   have hG6 := hG.le l06
   have hGA6 := Seg.all hG6
   have hMA := Seg.all (Seg.ofLe (Hp.le_trans lM (Hp.le_trans l4 (Hp.le_trans l5 l6))))
   have hRv : RdL cI 1 h6 [] v (vec (Z.d (k + 1)) (apf Z.p (Z.d k) (Z.mat k) ((S (al.getD i 0)).v k))) := hOv.rdh (Hp.le_trans lv l6)
   have ov := hRv.rd.one
   have hRim : RdV h6 vim st.length (Z.d (k + 1)) w := (hIm.up l06).rd (him.rdh lim)
   refine ws_cut (fun s hh2 ms' => ∃ (F : Nat → Nat → Int) (pv : List Nat) (Mx : FM) (b : Bool) (g9 : Nat) (xe : Value) (mx : Hp), s = [(0, .pointer (some ⟨gm, 0, none⟩)), (3, .pointer (some ⟨g3, 0, none⟩)), (4, vst), (5, vim), (7, .pointer (some ⟨(S (al.getD i 0)).g, 0, none⟩)), (8, v), (9, .pointer (some ⟨g9, 0, none⟩)), (10, .bool b), (20, va), (21, .int .i64 al.length), (22, .int .i64 i)] ∧ h6.le hh2 ∧ ms' = [Blk g9 42 [.int .i64 Mx.p, .int .i64 Mx.rows, .int .i64 Mx.cols, xe], mx, me', mst] ∧ Ech Z.p (Z.d (k + 1)) (st.length + 1) (jn st.length (fun a t => w t a) (fun a _ => apf Z.p (Z.d k) (Z.mat k) ((S (al.getD i 0)).v k) a)) F pv ∧ OwnL cI 1 3 mx xe Mx.e ∧ (((∀ j (hj : j < pv.length), pv[j] < st.length) ∧ b = true ∧ Mx = mkM Z.p st.length 1 (solf pv F st.length)) ∨ (¬ (∀ j (hj : j < pv.length), pv[j] < st.length) ∧ b = false))) ?_ (fun s h ms hI => ?_)
   ·refine ws_stab (n := 24) (bs := [true, true, true, true, true, true, true, false, true, true, true, true, true, true, true, false, false, false, false, false, false, false, false, false]) [true, true, true, true, true, true, true, false, true, true, true, true, true, true, true] fol (by kernel_rfl) (by kernel_rfl) rfl rfl (Qp rfl (ox_move rfl rfl) (Qp rfl (ox_nilCheck rfl rfl) (Qp rfl (ox_fieldF fd132_0 rfl rfl) (Qp rfl (ox_load rfl underlying3 rfl rfl (hMA 0 _ rfl _)) (Qp rfl (ox_fieldF fd42_1 rfl rfl) (Qp rfl (ox_load rfl underlying3 rfl rfl (hGA6 1 _ rfl _)) (Qp rfl (ox_move rfl rfl) (Qp rfl (ox_move rfl rfl) (Qp rfl (ox_nilCheck rfl rfl) (Qp rfl (ox_fieldF fd132_0 rfl rfl) (Qp rfl (ox_load rfl underlying3 rfl rfl (hMA 0 _ rfl _)) (Qp rfl (ox_fieldF fd42_1 rfl rfl) (Qp rfl (ox_load rfl underlying3 rfl rfl (hGA6 1 _ rfl _)) (Qp rfl (ox_move rfl rfl) ?_))))))))))))))
    unfold PZs
    simp only [List.cons_append, List.nil_append]
    refine wb_step [7, 15, 21] (by kernel_rfl) rfl ?_
    refine wbl_cons rfl ?_ ?_
    ·refine wl_call rfl call97 rfl (columns_ok Z.p (Z.d (k + 1)) st.length w vim _ wr.i64 wr.rl wr.cl (hRim.up (Hp.le_refl _))) rfl rfl rfl (fun x7 h7 ms7 l7 hF => ?_)
     obtain ⟨rfl, ec, mc, rfl, rfl, hOc⟩ := hF
     refine wl_freezeL hOc fun h7 l7 hRc => ?_
     have lcur := l7
     refine Qa (wb_step [15, 21] (by kernel_rfl) rfl ?_)
     refine wbl_cons rfl ?_ ?_
     ·refine wl_buildSlice1 [_] rfl underlying62 el24 rfl (hRv.rd.cells) rfl rfl (by omega) rfl rfl rfl (fun g46 => wl_freezeB fun h8 l8 hSg => ?_)
      have hRc := hRc.up l8
      have lcur := Hp.le_trans lcur l8
      refine Qa (wb_step [16, 21] (by kernel_rfl) rfl ?_)
      refine wbl_cons rfl ?_ ?_
      ·refine wl_call rfl call97 rfl (columns_ok Z.p (Z.d (k + 1)) 1 (fun _ => apf Z.p (Z.d k) (Z.mat k) ((S (al.getD i 0)).v k)) _ _ wr.i64 wr.rl (by omega) (sgl hSg (hRv.up lcur))) rfl rfl rfl (fun x9 h9 ms9 l9 hF => ?_)
       obtain ⟨rfl, ed, md, rfl, rfl, hOd⟩ := hF
       refine wl_freezeL hOd fun h10 l10 hRd => ?_
       have lcur := Hp.le_trans lcur l10
       refine Qa (wb_step [17, 21] (by kernel_rfl) rfl ?_)
       refine wbl_cons rfl ?_ ?_
       ·refine wl_call rfl call115 rfl (solve_one Z.p (Z.d (k + 1)) st.length (fun a t => w t a) (fun a _ => apf Z.p (Z.d k) (Z.mat k) ((S (al.getD i 0)).v k) a) ec ed h10 wr vr (hRc.up l10) hRd) rfl rfl rfl (fun x11 h11 ms11 l11 hF => ?_)
        obtain ⟨l11, F, pv, Mx, b, xe, mx, hE, rfl, rfl, hOx, hcase⟩ := hF
        have lcur := Hp.le_trans lcur l11
        have ox : xe.oneCell' = true := (hOx.rd (h := h) (ms := [mx]) (List.Mem.head _)).rd.one
        refine Qa (wb_step [18, 21] (by kernel_rfl) rfl ?_)
        refine wbl_cons rfl ?_ ?_
        ·refine Qm rfl (Qa (wb_step [19, 20, 21] (by kernel_rfl) rfl ?_))
         refine wbl_cons rfl ?_ ?_
         ·refine Qx (ox_extract rfl rfl rfl) rfl (Qa (wb_step [20, 21] (by kernel_rfl) rfl ?_))
          refine wbl_cons rfl ?_ ?_
          ·refine Qx (ox_extract rfl rfl rfl) rfl (Qa (Qo 21 rfl (AlQ [.int .i64 0, .int .i64 0, .int .i64 0, .slice none 0 0] rfl el42 rfl rfl (fun g9 => Qa (Qo 22 rfl ?_)))))
           refine wl_storeAll 0 [_, _, _, _] rfl el42 rfl rfl rfl (by (simp [ox]; done)) rfl rfl rfl rfl rfl ?_
           refine Qa (Qo 23 rfl (Qm rfl (Qa (Qe ?_))))
           exact nx_meet _ ⟨F, pv, Mx, b, g9, xe, mx, rfl, lcur, rfl, hE, hOx, hcase⟩ Qs
          refine wbl_cons rfl ?_ ?_
          ·refine AlQ [.int .i64 0, .int .i64 0, .int .i64 0, .slice none 0 0] rfl el42 rfl rfl (fun g9 => Qa (wb_step [20, 22] (by kernel_rfl) rfl ?_))
           refine wbl_cons rfl ?_ ?_
           ·refine Qx (ox_extract rfl rfl rfl) rfl (Qa (Qo 22 rfl ?_))
            refine wl_storeAll 0 [_, _, _, _] rfl el42 rfl rfl rfl (by (simp [ox]; done)) rfl rfl rfl rfl rfl ?_
            refine Qa (Qo 23 rfl (Qm rfl (Qa (Qe ?_))))
            exact nx_meet _ ⟨F, pv, Mx, b, g9, xe, mx, rfl, lcur, rfl, hE, hOx, hcase⟩ Qs
           refine wbl_cons rfl ?_ ?_
           ·refine wl_storeAll 0 [_, _, _, _] rfl el42 rfl rfl rfl (by (simp [ox]; done)) rfl rfl rfl rfl rfl ?_
            refine Qa (Qo 20 rfl (Qx (ox_extract rfl rfl rfl) rfl (Qa (Qo 23 rfl (Qm rfl (Qa (Qe ?_)))))))
            exact nx_meet _ ⟨F, pv, Mx, b, g9, xe, mx, rfl, lcur, rfl, hE, hOx, hcase⟩ Qs
           exact wbl_nil
          exact wbl_nil
         refine wbl_cons rfl ?_ ?_
         ·refine Qx (ox_extract rfl rfl rfl) rfl (Qa (wb_step [19, 21] (by kernel_rfl) rfl ?_))
          refine wbl_cons rfl ?_ ?_
          ·refine Qx (ox_extract rfl rfl rfl) rfl (Qa (Qo 21 rfl (AlQ [.int .i64 0, .int .i64 0, .int .i64 0, .slice none 0 0] rfl el42 rfl rfl (fun g9 => Qa (Qo 22 rfl ?_)))))
           refine wl_storeAll 0 [_, _, _, _] rfl el42 rfl rfl rfl (by (simp [ox]; done)) rfl rfl rfl rfl rfl ?_
           refine Qa (Qo 23 rfl (Qm rfl (Qa (Qe ?_))))
           exact nx_meet _ ⟨F, pv, Mx, b, g9, xe, mx, rfl, lcur, rfl, hE, hOx, hcase⟩ Qs
          refine wbl_cons rfl ?_ ?_
          ·refine AlQ [.int .i64 0, .int .i64 0, .int .i64 0, .slice none 0 0] rfl el42 rfl rfl (fun g9 => Qa (Qo 19 rfl (Qx (ox_extract rfl rfl rfl) rfl (Qa (Qo 22 rfl ?_)))))
           refine wl_storeAll 0 [_, _, _, _] rfl el42 rfl rfl rfl (by (simp [ox]; done)) rfl rfl rfl rfl rfl ?_
           refine Qa (Qo 23 rfl (Qm rfl (Qa (Qe ?_))))
           exact nx_meet _ ⟨F, pv, Mx, b, g9, xe, mx, rfl, lcur, rfl, hE, hOx, hcase⟩ Qs
          exact wbl_nil
         refine wbl_cons rfl ?_ ?_
         ·refine AlQ [.int .i64 0, .int .i64 0, .int .i64 0, .slice none 0 0] rfl el42 rfl rfl (fun g9 => Qa (wb_step [19, 20] (by kernel_rfl) rfl ?_))
          refine wbl_cons rfl ?_ ?_
          ·refine Qx (ox_extract rfl rfl rfl) rfl (Qa (wb_step [20, 22] (by kernel_rfl) rfl ?_))
           refine wbl_cons rfl ?_ ?_
           ·refine Qx (ox_extract rfl rfl rfl) rfl (Qa (Qo 22 rfl ?_))
            refine wl_storeAll 0 [_, _, _, _] rfl el42 rfl rfl rfl (by (simp [ox]; done)) rfl rfl rfl rfl rfl ?_
            refine Qa (Qo 23 rfl (Qm rfl (Qa (Qe ?_))))
            exact nx_meet _ ⟨F, pv, Mx, b, g9, xe, mx, rfl, lcur, rfl, hE, hOx, hcase⟩ Qs
           refine wbl_cons rfl ?_ ?_
           ·refine wl_storeAll 0 [_, _, _, _] rfl el42 rfl rfl rfl (by (simp [ox]; done)) rfl rfl rfl rfl rfl ?_
            refine Qa (Qo 20 rfl (Qx (ox_extract rfl rfl rfl) rfl (Qa (Qo 23 rfl (Qm rfl (Qa (Qe ?_)))))))
            exact nx_meet _ ⟨F, pv, Mx, b, g9, xe, mx, rfl, lcur, rfl, hE, hOx, hcase⟩ Qs
           exact wbl_nil
          refine wbl_cons rfl ?_ ?_
          ·refine Qx (ox_extract rfl rfl rfl) rfl (Qa (Qo 19 rfl (Qx (ox_extract rfl rfl rfl) rfl (Qa (Qo 22 rfl ?_)))))
           refine wl_storeAll 0 [_, _, _, _] rfl el42 rfl rfl rfl (by (simp [ox]; done)) rfl rfl rfl rfl rfl ?_
           refine Qa (Qo 23 rfl (Qm rfl (Qa (Qe ?_))))
           exact nx_meet _ ⟨F, pv, Mx, b, g9, xe, mx, rfl, lcur, rfl, hE, hOx, hcase⟩ Qs
          exact wbl_nil
         exact wbl_nil
        refine wbl_cons rfl ?_ ?_
        ·refine AlQ [.int .i64 0, .int .i64 0, .int .i64 0, .slice none 0 0] rfl el42 rfl rfl (fun g9 => Qa (Qo 18 rfl (Qm rfl (Qa (wb_step [19, 20] (by kernel_rfl) rfl ?_)))))
         refine wbl_cons rfl ?_ ?_
         ·refine Qx (ox_extract rfl rfl rfl) rfl (Qa (wb_step [20, 22] (by kernel_rfl) rfl ?_))
          refine wbl_cons rfl ?_ ?_
          ·refine Qx (ox_extract rfl rfl rfl) rfl (Qa (Qo 22 rfl ?_))
           refine wl_storeAll 0 [_, _, _, _] rfl el42 rfl rfl rfl (by (simp [ox]; done)) rfl rfl rfl rfl rfl ?_
           refine Qa (Qo 23 rfl (Qm rfl (Qa (Qe ?_))))
           exact nx_meet _ ⟨F, pv, Mx, b, g9, xe, mx, rfl, lcur, rfl, hE, hOx, hcase⟩ Qs
          refine wbl_cons rfl ?_ ?_
          ·refine wl_storeAll 0 [_, _, _, _] rfl el42 rfl rfl rfl (by (simp [ox]; done)) rfl rfl rfl rfl rfl ?_
           refine Qa (Qo 20 rfl (Qx (ox_extract rfl rfl rfl) rfl (Qa (Qo 23 rfl (Qm rfl (Qa (Qe ?_)))))))
           exact nx_meet _ ⟨F, pv, Mx, b, g9, xe, mx, rfl, lcur, rfl, hE, hOx, hcase⟩ Qs
          exact wbl_nil
         refine wbl_cons rfl ?_ ?_
         ·refine Qx (ox_extract rfl rfl rfl) rfl (Qa (Qo 19 rfl (Qx (ox_extract rfl rfl rfl) rfl (Qa (Qo 22 rfl ?_)))))
          refine wl_storeAll 0 [_, _, _, _] rfl el42 rfl rfl rfl (by (simp [ox]; done)) rfl rfl rfl rfl rfl ?_
          refine Qa (Qo 23 rfl (Qm rfl (Qa (Qe ?_))))
          exact nx_meet _ ⟨F, pv, Mx, b, g9, xe, mx, rfl, lcur, rfl, hE, hOx, hcase⟩ Qs
         exact wbl_nil
        exact wbl_nil
       refine wbl_cons rfl ?_ ?_
       ·refine AlQ [.int .i64 0, .int .i64 0, .int .i64 0, .slice none 0 0] rfl el42 rfl rfl (fun g9 => Qa (Qo 17 rfl (wl_call rfl call115 rfl (solve_one Z.p (Z.d (k + 1)) st.length (fun a t => w t a) (fun a _ => apf Z.p (Z.d k) (Z.mat k) ((S (al.getD i 0)).v k) a) ec ed h10 wr vr (hRc.up l10) hRd) rfl rfl rfl (fun x11 h11 ms11 l11 hF => ?_))))
        obtain ⟨l11, F, pv, Mx, b, xe, mx, hE, rfl, rfl, hOx, hcase⟩ := hF
        have lcur := Hp.le_trans lcur l11
        have ox : xe.oneCell' = true := (hOx.rd (h := h) (ms := [mx]) (List.Mem.head _)).rd.one
        refine Qa (Qo 18 rfl (Qm rfl (Qa (wb_step [19, 20] (by kernel_rfl) rfl ?_))))
        refine wbl_cons rfl ?_ ?_
        ·refine Qx (ox_extract rfl rfl rfl) rfl (Qa (wb_step [20, 22] (by kernel_rfl) rfl ?_))
         refine wbl_cons rfl ?_ ?_
         ·refine Qx (ox_extract rfl rfl rfl) rfl (Qa (Qo 22 rfl ?_))
          refine wl_storeAll 1 [_, _, _, _] rfl el42 rfl rfl rfl (by (simp [ox]; done)) rfl rfl rfl rfl rfl ?_
          refine Qa (Qo 23 rfl (Qm rfl (Qa (Qe ?_))))
          exact nx_swap (nx_meet _ ⟨F, pv, Mx, b, g9, xe, mx, rfl, lcur, rfl, hE, hOx, hcase⟩ Qs)
         refine wbl_cons rfl ?_ ?_
         ·refine wl_storeAll 1 [_, _, _, _] rfl el42 rfl rfl rfl (by (simp [ox]; done)) rfl rfl rfl rfl rfl ?_
          refine Qa (Qo 20 rfl (Qx (ox_extract rfl rfl rfl) rfl (Qa (Qo 23 rfl (Qm rfl (Qa (Qe ?_)))))))
          exact nx_swap (nx_meet _ ⟨F, pv, Mx, b, g9, xe, mx, rfl, lcur, rfl, hE, hOx, hcase⟩ Qs)
         exact wbl_nil
        refine wbl_cons rfl ?_ ?_
        ·refine Qx (ox_extract rfl rfl rfl) rfl (Qa (Qo 19 rfl (Qx (ox_extract rfl rfl rfl) rfl (Qa (Qo 22 rfl ?_)))))
         refine wl_storeAll 1 [_, _, _, _] rfl el42 rfl rfl rfl (by (simp [ox]; done)) rfl rfl rfl rfl rfl ?_
         refine Qa (Qo 23 rfl (Qm rfl (Qa (Qe ?_))))
         exact nx_swap (nx_meet _ ⟨F, pv, Mx, b, g9, xe, mx, rfl, lcur, rfl, hE, hOx, hcase⟩ Qs)
        exact wbl_nil
       exact wbl_nil
      refine wbl_cons rfl ?_ ?_
      ·refine AlQ [.int .i64 0, .int .i64 0, .int .i64 0, .slice none 0 0] rfl el42 rfl rfl (fun g9 => Qa (Qo 16 rfl (wl_call rfl call97 rfl (columns_ok Z.p (Z.d (k + 1)) 1 (fun _ => apf Z.p (Z.d k) (Z.mat k) ((S (al.getD i 0)).v k)) _ _ wr.i64 wr.rl (by omega) (sgl hSg (hRv.up lcur))) rfl rfl rfl (fun x9 h9 ms9 l9 hF => ?_))))
       obtain ⟨rfl, ed, md, rfl, rfl, hOd⟩ := hF
       refine wl_freezeL hOd fun h10 l10 hRd => ?_
       have lcur := Hp.le_trans lcur l10
       refine Qa (Qo 17 rfl (wl_call rfl call115 rfl (solve_one Z.p (Z.d (k + 1)) st.length (fun a t => w t a) (fun a _ => apf Z.p (Z.d k) (Z.mat k) ((S (al.getD i 0)).v k) a) ec ed h10 wr vr (hRc.up l10) hRd) rfl rfl rfl (fun x11 h11 ms11 l11 hF => ?_)))
       obtain ⟨l11, F, pv, Mx, b, xe, mx, hE, rfl, rfl, hOx, hcase⟩ := hF
       have lcur := Hp.le_trans lcur l11
       have ox : xe.oneCell' = true := (hOx.rd (h := h) (ms := [mx]) (List.Mem.head _)).rd.one
       refine Qa (Qo 18 rfl (Qm rfl (Qa (wb_step [19, 20] (by kernel_rfl) rfl ?_))))
       refine wbl_cons rfl ?_ ?_
       ·refine Qx (ox_extract rfl rfl rfl) rfl (Qa (wb_step [20, 22] (by kernel_rfl) rfl ?_))
        refine wbl_cons rfl ?_ ?_
        ·refine Qx (ox_extract rfl rfl rfl) rfl (Qa (Qo 22 rfl ?_))
         refine wl_storeAll 1 [_, _, _, _] rfl el42 rfl rfl rfl (by (simp [ox]; done)) rfl rfl rfl rfl rfl ?_
         refine Qa (Qo 23 rfl (Qm rfl (Qa (Qe ?_))))
         exact nx_swap (nx_meet _ ⟨F, pv, Mx, b, g9, xe, mx, rfl, lcur, rfl, hE, hOx, hcase⟩ Qs)
        refine wbl_cons rfl ?_ ?_
        ·refine wl_storeAll 1 [_, _, _, _] rfl el42 rfl rfl rfl (by (simp [ox]; done)) rfl rfl rfl rfl rfl ?_
         refine Qa (Qo 20 rfl (Qx (ox_extract rfl rfl rfl) rfl (Qa (Qo 23 rfl (Qm rfl (Qa (Qe ?_)))))))
         exact nx_swap (nx_meet _ ⟨F, pv, Mx, b, g9, xe, mx, rfl, lcur, rfl, hE, hOx, hcase⟩ Qs)
        exact wbl_nil
       refine wbl_cons rfl ?_ ?_
       ·refine Qx (ox_extract rfl rfl rfl) rfl (Qa (Qo 19 rfl (Qx (ox_extract rfl rfl rfl) rfl (Qa (Qo 22 rfl ?_)))))
        refine wl_storeAll 1 [_, _, _, _] rfl el42 rfl rfl rfl (by (simp [ox]; done)) rfl rfl rfl rfl rfl ?_
        refine Qa (Qo 23 rfl (Qm rfl (Qa (Qe ?_))))
        exact nx_swap (nx_meet _ ⟨F, pv, Mx, b, g9, xe, mx, rfl, lcur, rfl, hE, hOx, hcase⟩ Qs)
       exact wbl_nil
      exact wbl_nil
     refine wbl_cons rfl ?_ ?_
     ·refine AlQ [.int .i64 0, .int .i64 0, .int .i64 0, .slice none 0 0] rfl el42 rfl rfl (fun g9 => Qa (Qo 15 rfl (wl_buildSlice1 [_] rfl underlying62 el24 rfl (hRv.rd.cells) rfl rfl (by omega) rfl rfl rfl (fun g46 => wl_freezeB fun h8 l8 hSg => ?_))))
      have hRc := hRc.up l8
      have lcur := Hp.le_trans lcur l8
      refine Qa (Qo 16 rfl (wl_call rfl call97 rfl (columns_ok Z.p (Z.d (k + 1)) 1 (fun _ => apf Z.p (Z.d k) (Z.mat k) ((S (al.getD i 0)).v k)) _ _ wr.i64 wr.rl (by omega) (sgl hSg (hRv.up lcur))) rfl rfl rfl (fun x9 h9 ms9 l9 hF => ?_)))
      obtain ⟨rfl, ed, md, rfl, rfl, hOd⟩ := hF
      refine wl_freezeL hOd fun h10 l10 hRd => ?_
      have lcur := Hp.le_trans lcur l10
      refine Qa (Qo 17 rfl (wl_call rfl call115 rfl (solve_one Z.p (Z.d (k + 1)) st.length (fun a t => w t a) (fun a _ => apf Z.p (Z.d k) (Z.mat k) ((S (al.getD i 0)).v k) a) ec ed h10 wr vr (hRc.up l10) hRd) rfl rfl rfl (fun x11 h11 ms11 l11 hF => ?_)))
      obtain ⟨l11, F, pv, Mx, b, xe, mx, hE, rfl, rfl, hOx, hcase⟩ := hF
      have lcur := Hp.le_trans lcur l11
      have ox : xe.oneCell' = true := (hOx.rd (h := h) (ms := [mx]) (List.Mem.head _)).rd.one
      refine Qa (Qo 18 rfl (Qm rfl (Qa (wb_step [19, 20] (by kernel_rfl) rfl ?_))))
      refine wbl_cons rfl ?_ ?_
      ·refine Qx (ox_extract rfl rfl rfl) rfl (Qa (wb_step [20, 22] (by kernel_rfl) rfl ?_))
       refine wbl_cons rfl ?_ ?_
       ·refine Qx (ox_extract rfl rfl rfl) rfl (Qa (Qo 22 rfl ?_))
        refine wl_storeAll 1 [_, _, _, _] rfl el42 rfl rfl rfl (by (simp [ox]; done)) rfl rfl rfl rfl rfl ?_
        refine Qa (Qo 23 rfl (Qm rfl (Qa (Qe ?_))))
        exact nx_swap (nx_meet _ ⟨F, pv, Mx, b, g9, xe, mx, rfl, lcur, rfl, hE, hOx, hcase⟩ Qs)
       refine wbl_cons rfl ?_ ?_
       ·refine wl_storeAll 1 [_, _, _, _] rfl el42 rfl rfl rfl (by (simp [ox]; done)) rfl rfl rfl rfl rfl ?_
        refine Qa (Qo 20 rfl (Qx (ox_extract rfl rfl rfl) rfl (Qa (Qo 23 rfl (Qm rfl (Qa (Qe ?_)))))))
        exact nx_swap (nx_meet _ ⟨F, pv, Mx, b, g9, xe, mx, rfl, lcur, rfl, hE, hOx, hcase⟩ Qs)
       exact wbl_nil
      refine wbl_cons rfl ?_ ?_
      ·refine Qx (ox_extract rfl rfl rfl) rfl (Qa (Qo 19 rfl (Qx (ox_extract rfl rfl rfl) rfl (Qa (Qo 22 rfl ?_)))))
       refine wl_storeAll 1 [_, _, _, _] rfl el42 rfl rfl rfl (by (simp [ox]; done)) rfl rfl rfl rfl rfl ?_
       refine Qa (Qo 23 rfl (Qm rfl (Qa (Qe ?_))))
       exact nx_swap (nx_meet _ ⟨F, pv, Mx, b, g9, xe, mx, rfl, lcur, rfl, hE, hOx, hcase⟩ Qs)
      exact wbl_nil
     exact wbl_nil
    refine wbl_cons rfl ?_ ?_
    ·refine wl_buildSlice1 [_] rfl underlying62 el24 rfl (hRv.rd.cells) rfl rfl (by omega) rfl rfl rfl (fun g46 => wl_freezeB fun h8 l8 hSg => ?_)
     have lcur := l8
     refine Qa (wb_step [7, 21] (by kernel_rfl) rfl ?_)
     refine wbl_cons rfl ?_ ?_
     ·refine wl_call rfl call97 rfl (columns_ok Z.p (Z.d (k + 1)) st.length w vim _ wr.i64 wr.rl wr.cl (hRim.up (by assumption))) rfl rfl rfl (fun x7 h7 ms7 l7 hF => ?_)
      obtain ⟨rfl, ec, mc, rfl, rfl, hOc⟩ := hF
      refine wl_freezeL hOc fun h7 l7 hRc => ?_
      have hSg := hSg.le l7
      have lcur := Hp.le_trans lcur l7
      refine Qa (wb_step [16, 21] (by kernel_rfl) rfl ?_)
      refine wbl_cons rfl ?_ ?_
      ·refine wl_call rfl call97 rfl (columns_ok Z.p (Z.d (k + 1)) 1 (fun _ => apf Z.p (Z.d k) (Z.mat k) ((S (al.getD i 0)).v k)) _ _ wr.i64 wr.rl (by omega) (sgl hSg (hRv.up lcur))) rfl rfl rfl (fun x9 h9 ms9 l9 hF => ?_)
       obtain ⟨rfl, ed, md, rfl, rfl, hOd⟩ := hF
       refine wl_freezeL hOd fun h10 l10 hRd => ?_
       have lcur := Hp.le_trans lcur l10
       refine Qa (wb_step [17, 21] (by kernel_rfl) rfl ?_)
       refine wbl_cons rfl ?_ ?_
       ·refine wl_call rfl call115 rfl (solve_one Z.p (Z.d (k + 1)) st.length (fun a t => w t a) (fun a _ => apf Z.p (Z.d k) (Z.mat k) ((S (al.getD i 0)).v k) a) ec ed h10 wr vr (hRc.up l10) hRd) rfl rfl rfl (fun x11 h11 ms11 l11 hF => ?_)
        obtain ⟨l11, F, pv, Mx, b, xe, mx, hE, rfl, rfl, hOx, hcase⟩ := hF
        have lcur := Hp.le_trans lcur l11
        have ox : xe.oneCell' = true := (hOx.rd (h := h) (ms := [mx]) (List.Mem.head _)).rd.one
        refine Qa (wb_step [18, 21] (by kernel_rfl) rfl ?_)
        refine wbl_cons rfl ?_ ?_
        ·refine Qm rfl (Qa (wb_step [19, 20, 21] (by kernel_rfl) rfl ?_))
         refine wbl_cons rfl ?_ ?_
         ·refine Qx (ox_extract rfl rfl rfl) rfl (Qa (wb_step [20, 21] (by kernel_rfl) rfl ?_))
          refine wbl_cons rfl ?_ ?_
          ·refine Qx (ox_extract rfl rfl rfl) rfl (Qa (Qo 21 rfl (AlQ [.int .i64 0, .int .i64 0, .int .i64 0, .slice none 0 0] rfl el42 rfl rfl (fun g9 => Qa (Qo 22 rfl ?_)))))
           refine wl_storeAll 0 [_, _, _, _] rfl el42 rfl rfl rfl (by (simp [ox]; done)) rfl rfl rfl rfl rfl ?_
           refine Qa (Qo 23 rfl (Qm rfl (Qa (Qe ?_))))
           exact nx_meet _ ⟨F, pv, Mx, b, g9, xe, mx, rfl, lcur, rfl, hE, hOx, hcase⟩ Qs
          refine wbl_cons rfl ?_ ?_
          ·refine AlQ [.int .i64 0, .int .i64 0, .int .i64 0, .slice none 0 0] rfl el42 rfl rfl (fun g9 => Qa (wb_step [20, 22] (by kernel_rfl) rfl ?_))
           refine wbl_cons rfl ?_ ?_
           ·refine Qx (ox_extract rfl rfl rfl) rfl (Qa (Qo 22 rfl ?_))
            refine wl_storeAll 0 [_, _, _, _] rfl el42 rfl rfl rfl (by (simp [ox]; done)) rfl rfl rfl rfl rfl ?_
            refine Qa (Qo 23 rfl (Qm rfl (Qa (Qe ?_))))
            exact nx_meet _ ⟨F, pv, Mx, b, g9, xe, mx, rfl, lcur, rfl, hE, hOx, hcase⟩ Qs
           refine wbl_cons rfl ?_ ?_
           ·refine wl_storeAll 0 [_, _, _, _] rfl el42 rfl rfl rfl (by (simp [ox]; done)) rfl rfl rfl rfl rfl ?_
            refine Qa (Qo 20 rfl (Qx (ox_extract rfl rfl rfl) rfl (Qa (Qo 23 rfl (Qm rfl (Qa (Qe ?_)))))))
            exact nx_meet _ ⟨F, pv, Mx, b, g9, xe, mx, rfl, lcur, rfl, hE, hOx, hcase⟩ Qs
           exact wbl_nil
          exact wbl_nil
         refine wbl_cons rfl ?_ ?_
         ·refine Qx (ox_extract rfl rfl rfl) rfl (Qa (wb_step [19, 21] (by kernel_rfl) rfl ?_))
          refine wbl_cons rfl ?_ ?_
          ·refine Qx (ox_extract rfl rfl rfl) rfl (Qa (Qo 21 rfl (AlQ [.int .i64 0, .int .i64 0, .int .i64 0, .slice none 0 0] rfl el42 rfl rfl (fun g9 => Qa (Qo 22 rfl ?_)))))
           refine wl_storeAll 0 [_, _, _, _] rfl el42 rfl rfl rfl (by (simp [ox]; done)) rfl rfl rfl rfl rfl ?_
           refine Qa (Qo 23 rfl (Qm rfl (Qa (Qe ?_))))
           exact nx_meet _ ⟨F, pv, Mx, b, g9, xe, mx, rfl, lcur, rfl, hE, hOx, hcase⟩ Qs
          refine wbl_cons rfl ?_ ?_
          ·refine AlQ [.int .i64 0, .int .i64 0, .int .i64 0, .slice none 0 0] rfl el42 rfl rfl (fun g9 => Qa (Qo 19 rfl (Qx (ox_extract rfl rfl rfl) rfl (Qa (Qo 22 rfl ?_)))))
           refine wl_storeAll 0 [_, _, _, _] rfl el42 rfl rfl rfl (by (simp [ox]; done)) rfl rfl rfl rfl rfl ?_
           refine Qa (Qo 23 rfl (Qm rfl (Qa (Qe ?_))))
           exact nx_meet _ ⟨F, pv, Mx, b, g9, xe, mx, rfl, lcur, rfl, hE, hOx, hcase⟩ Qs
          exact wbl_nil
         refine wbl_cons rfl ?_ ?_
         ·refine AlQ [.int .i64 0, .int .i64 0, .int .i64 0, .slice none 0 0] rfl el42 rfl rfl (fun g9 => Qa (wb_step [19, 20] (by kernel_rfl) rfl ?_))
          refine wbl_cons rfl ?_ ?_
          ·refine Qx (ox_extract rfl rfl rfl) rfl (Qa (wb_step [20, 22] (by kernel_rfl) rfl ?_))
           refine wbl_cons rfl ?_ ?_
           ·refine Qx (ox_extract rfl rfl rfl) rfl (Qa (Qo 22 rfl ?_))
            refine wl_storeAll 0 [_, _, _, _] rfl el42 rfl rfl rfl (by (simp [ox]; done)) rfl rfl rfl rfl rfl ?_
            refine Qa (Qo 23 rfl (Qm rfl (Qa (Qe ?_))))
            exact nx_meet _ ⟨F, pv, Mx, b, g9, xe, mx, rfl, lcur, rfl, hE, hOx, hcase⟩ Qs
           refine wbl_cons rfl ?_ ?_
           ·refine wl_storeAll 0 [_, _, _, _] rfl el42 rfl rfl rfl (by (simp [ox]; done)) rfl rfl rfl rfl rfl ?_
            refine Qa (Qo 20 rfl (Qx (ox_extract rfl rfl rfl) rfl (Qa (Qo 23 rfl (Qm rfl (Qa (Qe ?_)))))))
            exact nx_meet _ ⟨F, pv, Mx, b, g9, xe, mx, rfl, lcur, rfl, hE, hOx, hcase⟩ Qs
           exact wbl_nil
          refine wbl_cons rfl ?_ ?_
          ·refine Qx (ox_extract rfl rfl rfl) rfl (Qa (Qo 19 rfl (Qx (ox_extract rfl rfl rfl) rfl (Qa (Qo 22 rfl ?_)))))
           refine wl_storeAll 0 [_, _, _, _] rfl el42 rfl rfl rfl (by (simp [ox]; done)) rfl rfl rfl rfl rfl ?_
           refine Qa (Qo 23 rfl (Qm rfl (Qa (Qe ?_))))
           exact nx_meet _ ⟨F, pv, Mx, b, g9, xe, mx, rfl, lcur, rfl, hE, hOx, hcase⟩ Qs
          exact wbl_nil
         exact wbl_nil
        refine wbl_cons rfl ?_ ?_
        ·refine AlQ [.int .i64 0, .int .i64 0, .int .i64 0, .slice none 0 0] rfl el42 rfl rfl (fun g9 => Qa (Qo 18 rfl (Qm rfl (Qa (wb_step [19, 20] (by kernel_rfl) rfl ?_)))))
         refine wbl_cons rfl ?_ ?_
         ·refine Qx (ox_extract rfl rfl rfl) rfl (Qa (wb_step [20, 22] (by kernel_rfl) rfl ?_))
          refine wbl_cons rfl ?_ ?_
          ·refine Qx (ox_extract rfl rfl rfl) rfl (Qa (Qo 22 rfl ?_))
           refine wl_storeAll 0 [_, _, _, _] rfl el42 rfl rfl rfl (by (simp [ox]; done)) rfl rfl rfl rfl rfl ?_
           refine Qa (Qo 23 rfl (Qm rfl (Qa (Qe ?_))))
           exact nx_meet _ ⟨F, pv, Mx, b, g9, xe, mx, rfl, lcur, rfl, hE, hOx, hcase⟩ Qs
          refine wbl_cons rfl ?_ ?_
          ·refine wl_storeAll 0 [_, _, _, _] rfl el42 rfl rfl rfl (by (simp [ox]; done)) rfl rfl rfl rfl rfl ?_
           refine Qa (Qo 20 rfl (Qx (ox_extract rfl rfl rfl) rfl (Qa (Qo 23 rfl (Qm rfl (Qa (Qe ?_)))))))
           exact nx_meet _ ⟨F, pv, Mx, b, g9, xe, mx, rfl, lcur, rfl, hE, hOx, hcase⟩ Qs
          exact wbl_nil
         refine wbl_cons rfl ?_ ?_
         ·refine Qx (ox_extract rfl rfl rfl) rfl (Qa (Qo 19 rfl (Qx (ox_extract rfl rfl rfl) rfl (Qa (Qo 22 rfl ?_)))))
          refine wl_storeAll 0 [_, _, _, _] rfl el42 rfl rfl rfl (by (simp [ox]; done)) rfl rfl rfl rfl rfl ?_
          refine Qa (Qo 23 rfl (Qm rfl (Qa (Qe ?_))))
          exact nx_meet _ ⟨F, pv, Mx, b, g9, xe, mx, rfl, lcur, rfl, hE, hOx, hcase⟩ Qs
         exact wbl_nil
        exact wbl_nil
       refine wbl_cons rfl ?_ ?_
       ·refine AlQ [.int .i64 0, .int .i64 0, .int .i64 0, .slice none 0 0] rfl el42 rfl rfl (fun g9 => Qa (Qo 17 rfl (wl_call rfl call115 rfl (solve_one Z.p (Z.d (k + 1)) st.length (fun a t => w t a) (fun a _ => apf Z.p (Z.d k) (Z.mat k) ((S (al.getD i 0)).v k) a) ec ed h10 wr vr (hRc.up l10) hRd) rfl rfl rfl (fun x11 h11 ms11 l11 hF => ?_))))
        obtain ⟨l11, F, pv, Mx, b, xe, mx, hE, rfl, rfl, hOx, hcase⟩ := hF
        have lcur := Hp.le_trans lcur l11
        have ox : xe.oneCell' = true := (hOx.rd (h := h) (ms := [mx]) (List.Mem.head _)).rd.one
        refine Qa (Qo 18 rfl (Qm rfl (Qa (wb_step [19, 20] (by kernel_rfl) rfl ?_))))
        refine wbl_cons rfl ?_ ?_
        ·refine Qx (ox_extract rfl rfl rfl) rfl (Qa (wb_step [20, 22] (by kernel_rfl) rfl ?_))
         refine wbl_cons rfl ?_ ?_
         ·refine Qx (ox_extract rfl rfl rfl) rfl (Qa (Qo 22 rfl ?_))
          refine wl_storeAll 1 [_, _, _, _] rfl el42 rfl rfl rfl (by (simp [ox]; done)) rfl rfl rfl rfl rfl ?_
          refine Qa (Qo 23 rfl (Qm rfl (Qa (Qe ?_))))
          exact nx_swap (nx_meet _ ⟨F, pv, Mx, b, g9, xe, mx, rfl, lcur, rfl, hE, hOx, hcase⟩ Qs)
         refine wbl_cons rfl ?_ ?_
         ·refine wl_storeAll 1 [_, _, _, _] rfl el42 rfl rfl rfl (by (simp [ox]; done)) rfl rfl rfl rfl rfl ?_
          refine Qa (Qo 20 rfl (Qx (ox_extract rfl rfl rfl) rfl (Qa (Qo 23 rfl (Qm rfl (Qa (Qe ?_)))))))
          exact nx_swap (nx_meet _ ⟨F, pv, Mx, b, g9, xe, mx, rfl, lcur, rfl, hE, hOx, hcase⟩ Qs)
         exact wbl_nil
        refine wbl_cons rfl ?_ ?_
        ·refine Qx (ox_extract rfl rfl rfl) rfl (Qa (Qo 19 rfl (Qx (ox_extract rfl rfl rfl) rfl (Qa (Qo 22 rfl ?_)))))
         refine wl_storeAll 1 [_, _, _, _] rfl el42 rfl rfl rfl (by (simp [ox]; done)) rfl rfl rfl rfl rfl ?_
         refine Qa (Qo 23 rfl (Qm rfl (Qa (Qe ?_))))
         exact nx_swap (nx_meet _ ⟨F, pv, Mx, b, g9, xe, mx, rfl, lcur, rfl, hE, hOx, hcase⟩ Qs)
        exact wbl_nil
       exact wbl_nil
      refine wbl_cons rfl ?_ ?_
      ·refine AlQ [.int .i64 0, .int .i64 0, .int .i64 0, .slice none 0 0] rfl el42 rfl rfl (fun g9 => Qa (Qo 16 rfl (wl_call rfl call97 rfl (columns_ok Z.p (Z.d (k + 1)) 1 (fun _ => apf Z.p (Z.d k) (Z.mat k) ((S (al.getD i 0)).v k)) _ _ wr.i64 wr.rl (by omega) (sgl hSg (hRv.up lcur))) rfl rfl rfl (fun x9 h9 ms9 l9 hF => ?_))))
       obtain ⟨rfl, ed, md, rfl, rfl, hOd⟩ := hF
       refine wl_freezeL hOd fun h10 l10 hRd => ?_
       have lcur := Hp.le_trans lcur l10
       refine Qa (Qo 17 rfl (wl_call rfl call115 rfl (solve_one Z.p (Z.d (k + 1)) st.length (fun a t => w t a) (fun a _ => apf Z.p (Z.d k) (Z.mat k) ((S (al.getD i 0)).v k) a) ec ed h10 wr vr (hRc.up l10) hRd) rfl rfl rfl (fun x11 h11 ms11 l11 hF => ?_)))
       obtain ⟨l11, F, pv, Mx, b, xe, mx, hE, rfl, rfl, hOx, hcase⟩ := hF
       have lcur := Hp.le_trans lcur l11
       have ox : xe.oneCell' = true := (hOx.rd (h := h) (ms := [mx]) (List.Mem.head _)).rd.one
       refine Qa (Qo 18 rfl (Qm rfl (Qa (wb_step [19, 20] (by kernel_rfl) rfl ?_))))
       refine wbl_cons rfl ?_ ?_
       ·refine Qx (ox_extract rfl rfl rfl) rfl (Qa (wb_step [20, 22] (by kernel_rfl) rfl ?_))
        refine wbl_cons rfl ?_ ?_
        ·refine Qx (ox_extract rfl rfl rfl) rfl (Qa (Qo 22 rfl ?_))
         refine wl_storeAll 1 [_, _, _, _] rfl el42 rfl rfl rfl (by (simp [ox]; done)) rfl rfl rfl rfl rfl ?_
         refine Qa (Qo 23 rfl (Qm rfl (Qa (Qe ?_))))
         exact nx_swap (nx_meet _ ⟨F, pv, Mx, b, g9, xe, mx, rfl, lcur, rfl, hE, hOx, hcase⟩ Qs)
        refine wbl_cons rfl ?_ ?_
        ·refine wl_storeAll 1 [_, _, _, _] rfl el42 rfl rfl rfl (by (simp [ox]; done)) rfl rfl rfl rfl rfl ?_
         refine Qa (Qo 20 rfl (Qx (ox_extract rfl rfl rfl) rfl (Qa (Qo 23 rfl (Qm rfl (Qa (Qe ?_)))))))
         exact nx_swap (nx_meet _ ⟨F, pv, Mx, b, g9, xe, mx, rfl, lcur, rfl, hE, hOx, hcase⟩ Qs)
        exact wbl_nil
       refine wbl_cons rfl ?_ ?_
       ·refine Qx (ox_extract rfl rfl rfl) rfl (Qa (Qo 19 rfl (Qx (ox_extract rfl rfl rfl) rfl (Qa (Qo 22 rfl ?_)))))
        refine wl_storeAll 1 [_, _, _, _] rfl el42 rfl rfl rfl (by (simp [ox]; done)) rfl rfl rfl rfl rfl ?_
        refine Qa (Qo 23 rfl (Qm rfl (Qa (Qe ?_))))
        exact nx_swap (nx_meet _ ⟨F, pv, Mx, b, g9, xe, mx, rfl, lcur, rfl, hE, hOx, hcase⟩ Qs)
       exact wbl_nil
      exact wbl_nil
     refine wbl_cons rfl ?_ ?_
     ·refine AlQ [.int .i64 0, .int .i64 0, .int .i64 0, .slice none 0 0] rfl el42 rfl rfl (fun g9 => Qa (Qo 7 rfl (wl_call rfl call97 rfl (columns_ok Z.p (Z.d (k + 1)) st.length w vim _ wr.i64 wr.rl wr.cl (hRim.up (by assumption))) rfl rfl rfl (fun x7 h7 ms7 l7 hF => ?_))))
      obtain ⟨rfl, ec, mc, rfl, rfl, hOc⟩ := hF
      refine wl_freezeL hOc fun h7 l7 hRc => ?_
      have hSg := hSg.le l7
      have lcur := Hp.le_trans lcur l7
      refine Qa (Qo 16 rfl (wl_call rfl call97 rfl (columns_ok Z.p (Z.d (k + 1)) 1 (fun _ => apf Z.p (Z.d k) (Z.mat k) ((S (al.getD i 0)).v k)) _ _ wr.i64 wr.rl (by omega) (sgl hSg (hRv.up lcur))) rfl rfl rfl (fun x9 h9 ms9 l9 hF => ?_)))
      obtain ⟨rfl, ed, md, rfl, rfl, hOd⟩ := hF
      refine wl_freezeL hOd fun h10 l10 hRd => ?_
      have lcur := Hp.le_trans lcur l10
      refine Qa (Qo 17 rfl (wl_call rfl call115 rfl (solve_one Z.p (Z.d (k + 1)) st.length (fun a t => w t a) (fun a _ => apf Z.p (Z.d k) (Z.mat k) ((S (al.getD i 0)).v k) a) ec ed h10 wr vr (hRc.up l10) hRd) rfl rfl rfl (fun x11 h11 ms11 l11 hF => ?_)))
      obtain ⟨l11, F, pv, Mx, b, xe, mx, hE, rfl, rfl, hOx, hcase⟩ := hF
      have lcur := Hp.le_trans lcur l11
      have ox : xe.oneCell' = true := (hOx.rd (h := h) (ms := [mx]) (List.Mem.head _)).rd.one
      refine Qa (Qo 18 rfl (Qm rfl (Qa (wb_step [19, 20] (by kernel_rfl) rfl ?_))))
      refine wbl_cons rfl ?_ ?_
      ·refine Qx (ox_extract rfl rfl rfl) rfl (Qa (wb_step [20, 22] (by kernel_rfl) rfl ?_))
       refine wbl_cons rfl ?_ ?_
       ·refine Qx (ox_extract rfl rfl rfl) rfl (Qa (Qo 22 rfl ?_))
        refine wl_storeAll 1 [_, _, _, _] rfl el42 rfl rfl rfl (by (simp [ox]; done)) rfl rfl rfl rfl rfl ?_
        refine Qa (Qo 23 rfl (Qm rfl (Qa (Qe ?_))))
        exact nx_swap (nx_meet _ ⟨F, pv, Mx, b, g9, xe, mx, rfl, lcur, rfl, hE, hOx, hcase⟩ Qs)
       refine wbl_cons rfl ?_ ?_
       ·refine wl_storeAll 1 [_, _, _, _] rfl el42 rfl rfl rfl (by (simp [ox]; done)) rfl rfl rfl rfl rfl ?_
        refine Qa (Qo 20 rfl (Qx (ox_extract rfl rfl rfl) rfl (Qa (Qo 23 rfl (Qm rfl (Qa (Qe ?_)))))))
        exact nx_swap (nx_meet _ ⟨F, pv, Mx, b, g9, xe, mx, rfl, lcur, rfl, hE, hOx, hcase⟩ Qs)
       exact wbl_nil
      refine wbl_cons rfl ?_ ?_
      ·refine Qx (ox_extract rfl rfl rfl) rfl (Qa (Qo 19 rfl (Qx (ox_extract rfl rfl rfl) rfl (Qa (Qo 22 rfl ?_)))))
       refine wl_storeAll 1 [_, _, _, _] rfl el42 rfl rfl rfl (by (simp [ox]; done)) rfl rfl rfl rfl rfl ?_
       refine Qa (Qo 23 rfl (Qm rfl (Qa (Qe ?_))))
       exact nx_swap (nx_meet _ ⟨F, pv, Mx, b, g9, xe, mx, rfl, lcur, rfl, hE, hOx, hcase⟩ Qs)
      exact wbl_nil
     exact wbl_nil
    refine wbl_cons rfl ?_ ?_
    ·refine AlQ [.int .i64 0, .int .i64 0, .int .i64 0, .slice none 0 0] rfl el42 rfl rfl (fun g9 => Qw (wb_step [7, 15] (by kernel_rfl) rfl ?_))
     refine wbl_cons rfl ?_ ?_
     ·refine wl_call rfl call97 rfl (columns_ok Z.p (Z.d (k + 1)) st.length w vim _ wr.i64 wr.rl wr.cl (hRim.up (Hp.le_refl _))) rfl rfl rfl (fun x7 h7 ms7 l7 hF => ?_)
      obtain ⟨rfl, ec, mc, rfl, rfl, hOc⟩ := hF
      refine wl_freezeL hOc fun h7 l7 hRc => ?_
      have lcur := l7
      refine Qa (Qo 15 rfl (wl_buildSlice1 [_] rfl underlying62 el24 rfl (hRv.rd.cells) rfl rfl (by omega) rfl rfl rfl (fun g46 => wl_freezeB fun h8 l8 hSg => ?_)))
      have hRc := hRc.up l8
      have lcur := Hp.le_trans lcur l8
      refine Qa (Qo 16 rfl (wl_call rfl call97 rfl (columns_ok Z.p (Z.d (k + 1)) 1 (fun _ => apf Z.p (Z.d k) (Z.mat k) ((S (al.getD i 0)).v k)) _ _ wr.i64 wr.rl (by omega) (sgl hSg (hRv.up lcur))) rfl rfl rfl (fun x9 h9 ms9 l9 hF => ?_)))
      obtain ⟨rfl, ed, md, rfl, rfl, hOd⟩ := hF
      refine wl_freezeL hOd fun h10 l10 hRd => ?_
      have lcur := Hp.le_trans lcur l10
      refine Qa (Qo 17 rfl (wl_call rfl call115 rfl (solve_one Z.p (Z.d (k + 1)) st.length (fun a t => w t a) (fun a _ => apf Z.p (Z.d k) (Z.mat k) ((S (al.getD i 0)).v k) a) ec ed h10 wr vr (hRc.up l10) hRd) rfl rfl rfl (fun x11 h11 ms11 l11 hF => ?_)))
      obtain ⟨l11, F, pv, Mx, b, xe, mx, hE, rfl, rfl, hOx, hcase⟩ := hF
      have lcur := Hp.le_trans lcur l11
      have ox : xe.oneCell' = true := (hOx.rd (h := h) (ms := [mx]) (List.Mem.head _)).rd.one
      refine Qa (Qo 18 rfl (Qm rfl (Qa (wb_step [19, 20] (by kernel_rfl) rfl ?_))))
      refine wbl_cons rfl ?_ ?_
      ·refine Qx (ox_extract rfl rfl rfl) rfl (Qa (wb_step [20, 22] (by kernel_rfl) rfl ?_))
       refine wbl_cons rfl ?_ ?_
       ·refine Qx (ox_extract rfl rfl rfl) rfl (Qa (Qo 22 rfl ?_))
        refine wl_storeAll 1 [_, _, _, _] rfl el42 rfl rfl rfl (by (simp [ox]; done)) rfl rfl rfl rfl rfl ?_
        refine Qa (Qo 23 rfl (Qm rfl (Qa (Qe ?_))))
        exact nx_swap (nx_meet _ ⟨F, pv, Mx, b, g9, xe, mx, rfl, lcur, rfl, hE, hOx, hcase⟩ Qs)
       refine wbl_cons rfl ?_ ?_
       ·refine wl_storeAll 1 [_, _, _, _] rfl el42 rfl rfl rfl (by (simp [ox]; done)) rfl rfl rfl rfl rfl ?_
        refine Qa (Qo 20 rfl (Qx (ox_extract rfl rfl rfl) rfl (Qa (Qo 23 rfl (Qm rfl (Qa (Qe ?_)))))))
        exact nx_swap (nx_meet _ ⟨F, pv, Mx, b, g9, xe, mx, rfl, lcur, rfl, hE, hOx, hcase⟩ Qs)
       exact wbl_nil
      refine wbl_cons rfl ?_ ?_
      ·refine Qx (ox_extract rfl rfl rfl) rfl (Qa (Qo 19 rfl (Qx (ox_extract rfl rfl rfl) rfl (Qa (Qo 22 rfl ?_)))))
       refine wl_storeAll 1 [_, _, _, _] rfl el42 rfl rfl rfl (by (simp [ox]; done)) rfl rfl rfl rfl rfl ?_
       refine Qa (Qo 23 rfl (Qm rfl (Qa (Qe ?_))))
       exact nx_swap (nx_meet _ ⟨F, pv, Mx, b, g9, xe, mx, rfl, lcur, rfl, hE, hOx, hcase⟩ Qs)
      exact wbl_nil
     refine wbl_cons rfl ?_ ?_
     ·refine wl_buildSlice1 [_] rfl underlying62 el24 rfl (hRv.rd.cells) rfl rfl (by omega) rfl rfl rfl (fun g46 => wl_freezeB fun h8 l8 hSg => ?_)
      have lcur := l8
      refine Qa (Qo 7 rfl (wl_call rfl call97 rfl (columns_ok Z.p (Z.d (k + 1)) st.length w vim _ wr.i64 wr.rl wr.cl (hRim.up (by assumption))) rfl rfl rfl (fun x7 h7 ms7 l7 hF => ?_)))
      obtain ⟨rfl, ec, mc, rfl, rfl, hOc⟩ := hF
      refine wl_freezeL hOc fun h7 l7 hRc => ?_
      have hSg := hSg.le l7
      have lcur := Hp.le_trans lcur l7
      refine Qa (Qo 16 rfl (wl_call rfl call97 rfl (columns_ok Z.p (Z.d (k + 1)) 1 (fun _ => apf Z.p (Z.d k) (Z.mat k) ((S (al.getD i 0)).v k)) _ _ wr.i64 wr.rl (by omega) (sgl hSg (hRv.up lcur))) rfl rfl rfl (fun x9 h9 ms9 l9 hF => ?_)))
      obtain ⟨rfl, ed, md, rfl, rfl, hOd⟩ := hF
      refine wl_freezeL hOd fun h10 l10 hRd => ?_
      have lcur := Hp.le_trans lcur l10
      refine Qa (Qo 17 rfl (wl_call rfl call115 rfl (solve_one Z.p (Z.d (k + 1)) st.length (fun a t => w t a) (fun a _ => apf Z.p (Z.d k) (Z.mat k) ((S (al.getD i 0)).v k) a) ec ed h10 wr vr (hRc.up l10) hRd) rfl rfl rfl (fun x11 h11 ms11 l11 hF => ?_)))
      obtain ⟨l11, F, pv, Mx, b, xe, mx, hE, rfl, rfl, hOx, hcase⟩ := hF
      have lcur := Hp.le_trans lcur l11
      have ox : xe.oneCell' = true := (hOx.rd (h := h) (ms := [mx]) (List.Mem.head _)).rd.one
      refine Qa (Qo 18 rfl (Qm rfl (Qa (wb_step [19, 20] (by kernel_rfl) rfl ?_))))
      refine wbl_cons rfl ?_ ?_
      ·refine Qx (ox_extract rfl rfl rfl) rfl (Qa (wb_step [20, 22] (by kernel_rfl) rfl ?_))
       refine wbl_cons rfl ?_ ?_
       ·refine Qx (ox_extract rfl rfl rfl) rfl (Qa (Qo 22 rfl ?_))
        refine wl_storeAll 1 [_, _, _, _] rfl el42 rfl rfl rfl (by (simp [ox]; done)) rfl rfl rfl rfl rfl ?_
        refine Qa (Qo 23 rfl (Qm rfl (Qa (Qe ?_))))
        exact nx_swap (nx_meet _ ⟨F, pv, Mx, b, g9, xe, mx, rfl, lcur, rfl, hE, hOx, hcase⟩ Qs)
       refine wbl_cons rfl ?_ ?_
       ·refine wl_storeAll 1 [_, _, _, _] rfl el42 rfl rfl rfl (by (simp [ox]; done)) rfl rfl rfl rfl rfl ?_
        refine Qa (Qo 20 rfl (Qx (ox_extract rfl rfl rfl) rfl (Qa (Qo 23 rfl (Qm rfl (Qa (Qe ?_)))))))
        exact nx_swap (nx_meet _ ⟨F, pv, Mx, b, g9, xe, mx, rfl, lcur, rfl, hE, hOx, hcase⟩ Qs)
       exact wbl_nil
      refine wbl_cons rfl ?_ ?_
      ·refine Qx (ox_extract rfl rfl rfl) rfl (Qa (Qo 19 rfl (Qx (ox_extract rfl rfl rfl) rfl (Qa (Qo 22 rfl ?_)))))
       refine wl_storeAll 1 [_, _, _, _] rfl el42 rfl rfl rfl (by (simp [ox]; done)) rfl rfl rfl rfl rfl ?_
       refine Qa (Qo 23 rfl (Qm rfl (Qa (Qe ?_))))
       exact nx_swap (nx_meet _ ⟨F, pv, Mx, b, g9, xe, mx, rfl, lcur, rfl, hE, hOx, hcase⟩ Qs)
      exact wbl_nil
     exact wbl_nil
    exact wbl_nil
   ·obtain ⟨F, pv, Mx, b, g9, xe, mx, rfl, l7, rfl, hE, hOx, hcase⟩ := hI
    -- what was lent comes back
    refine ws_back Lim (Hp.le_trans lim l7) fun h8 q8 b8 => ?_
    have e1 : ∀ a : Hp, a.le h6 → a.disj mim → a.le h8 := fun a q1 q2 => b8 a (Hp.le_trans q1 l7) q2
    refine ws_perm (ms' := [Blk g9 42 [.int .i64 Mx.p, .int .i64 Mx.rows, .int .i64 Mx.cols, xe], mx, me', mst, mim]) (List.perm_append_comm (l₁ := [_]) (l₂ := [_, _, _, _])) ?_
    have hl58 : h5.le h8 := e1 _ l6 dim
    refine ws_back Lv (Hp.le_trans lv hl58) fun h9 q9 b9 => ?_
    have hl49 : h4.le h9 := b9 _ (Hp.le_trans l5 hl58) dv
    refine ws_back LM (Hp.le_trans lM (Hp.le_trans l4 hl49)) fun h10 q10 b10 => ?_
    have hl2 : h2.le h10 := b10 _ (Hp.le_trans l3 (Hp.le_trans l4 hl49)) dM
    refine ws_back LB (Hp.le_trans lB hl2) fun h11 q11 b11 => ?_
    have hl11 : hh.le h11 := b11 _ (Hp.le_trans l2 hl2) dB
    have hA := hA.up hl11
    have ha := ha.up hl11
    have hG := hG.le hl11
    have hIm := hIm.up hl11
    have hlh := Hp.le_trans hlh hl11
    refine ws_top 2 rfl (ws_freezeL hOv fun h12 l12 hRv => ?_)
    have hA := hA.up l12
    have ha := ha.up l12
    have hG := hG.le l12
    have hGA := Seg.all hG
    have hIm0 := hIm00
    have hIm := (hIm.up l12).snoc hRv
    have hlh := Hp.le_trans hlh l12
    have ov := hRv.rd.one
    rcases hcase with ⟨hyes, rfl, rfl⟩ | ⟨hno, rfl⟩
    ·-- it ends here
     refine ws_top 3 rfl (ws_freezeL hOx fun h13 l13 hRx => (ws_top 2 rfl (ws_freezeB fun h14 l14 hGx => ?_)))
     have l1314 := Hp.le_trans l13 l14
     have hA := hA.up l1314
     have ha := ha.up l1314
     have hG := hG.le l1314
     have hGA := Seg.all hG
     have hIm := hIm.up l1314
     have hlh := Hp.le_trans hlh l1314
     have hRx : RdL cI 1 h14 [] xe (mat st.length 1 (solf pv F st.length)) := hRx.up l14
     have hxA := Seg.all hGx
     have hxe : ∀ j, j < st.length → 0 ≤ solf pv F st.length j 0 ∧ solf pv F st.length j 0 < Z.p := fun j hj => by
      unfold solf solp
      split
      ·rename_i h2
       exact hE.red.bd _ (by have := hE.red.len; omega) _ (by omega)
      ·omega
     refine ws_seq (RsQ (Qm rfl (Qx (ox_not rfl rfl) rfl (RnQ (ws_cond_f rfl (ws_skip (nx_then (ws_seq (RsQ (Qm rfl (Qx (ox_lenR (ptr_rd (hst.rd (List.Mem.tail _ (List.Mem.tail _ (List.Mem.tail _ (List.Mem.head _)))))) rfl underlying106 rfl) rfl (Qm rfl (RnQ (ws_block ?_))))))))))))))
     refine ws_loop (fun q s hh ms' => ∃ (j : Nat) (S' : Nat → SM) (mB : Hp), q = st.length - j ∧ s = [(0, .pointer (some ⟨gm, 0, none⟩)), (3, .pointer (some ⟨g3, 0, none⟩)), (4, vst), (5, vim), (7, .pointer (some ⟨(S (al.getD i 0)).g, 0, none⟩)), (9, .pointer (some ⟨g9, 0, none⟩)), (20, va), (21, .int .i64 al.length), (22, .int .i64 i), (61, vst), (62, .int .i64 st.length), (63, .int .i64 j)] ∧ h14.le hh ∧ ms' = [mB, Blk gm 132 [.int .i64 Z.p, .int .i64 k, va, ve'], me', mst, mim] ∧ j ≤ st.length ∧ FwI Z k N S S' st (al.getD i 0) (fun a => solf pv F st.length a 0) j ∧ BagS Z.d N S' mB)
      (st.length - 0) _ ⟨0, S, mB, rfl, rfl, Hp.le_refl _, rfl, by omega, FwI.start W.val W.bd, B⟩ Qs ?_
     rintro q s hh3 ms' ⟨j, S', mB, rfl, rfl, lj, rfl, hj, I, B⟩
     have hRx := hRx.up lj
     have hGx := hGx.le lj
     refine RsQ (Qx (ox_lss rfl rfl rfl) rfl (RnQ (ws_seq ?_)))
     refine ws_if rfl (fun hltj => ?_) (fun hltj => ?_)
     ·have hjl : j < st.length := nat_lt_of hltj
      have hcj : ∀ ms, mst ∈ ms → Cell hh3 ms ((vbase vst).add (j * 1)) (ptrS S0 (st.getD j 0)) := fun ms hm => ptr_cell (hst.rd hm) hjl
      refine ws_skip (nx_then (ws_seq (ws_block (RsQ (Qm rfl (Qx (ox_indexR _ (ptr_rd (hst.rd (List.Mem.tail _ (List.Mem.tail _ (List.Mem.tail _ (List.Mem.head _)))))) rfl underlying106 el108 rfl rfl rfl (by omega)) rfl (Qx (ox_load rfl underlying108 rfl rfl (hcj _ (List.Mem.tail _ (List.Mem.tail _ (List.Mem.tail _ (List.Mem.head _)))))) rfl (Qm rfl (Qm rfl (RnQ ?_))))))))))
      have htal : st.getD j 0 ∈ al.take i := W.sub.subset (getD_mem hjl)
      have hta : st.getD j 0 ∈ al := List.mem_of_mem_take htal
      have htN : st.getD j 0 < N := M.lt hta
      have hne : st.getD j 0 ≠ al.getD i 0 := fun he => nodup_take_not M.nodup hil (he ▸ htal)
      have htk : (S (st.getD j 0)).to = k := by rw [(W.same _).2.2]; exact M.live _ hta
      have hmay : (dcOf N S).may Z (st.getD j 0) (al.getD i 0) := by
       have h1 := M.ord
       have h2 : (al.take (i + 1)).Pairwise ((dcOf N S0).may Z) := h1.sublist (List.take_sublist _ _)
       rw [take_succ' hil] at h2
       have h3 := (List.pairwise_append.1 h2).2.2 _ htal (al.getD i 0) (by simp)
       unfold Dc.may at h3 ⊢
       show (S (st.getD j 0)).fr = (S (al.getD i 0)).fr ∨ ((S (al.getD i 0)).fr < (S (st.getD j 0)).fr ∧ Z.back ((S (st.getD j 0)).fr - 1) = true) ∨ ((S (st.getD j 0)).fr < (S (al.getD i 0)).fr ∧ Z.back ((S (al.getD i 0)).fr - 1) = false)
       rw [(W.same (st.getD j 0)).2.1, (W.same (al.getD i 0)).2.1]
       exact h3
      have hgt : ptrS S0 (st.getD j 0) = .pointer (some ⟨(S' (st.getD j 0)).g, 0, none⟩) := by unfold ptrS; rw [(I.same _).1, (W.same _).1]
      have hgs2 : (S (al.getD i 0)).g = (S' (al.getD i 0)).g := (I.same _).1.symm
      rw [hgt, hgs2]
      refine ws_swap (ws_lend fun h15 l15 lM2 dM2 LM2 => ?_)
      have hMA2 := Seg.all (Seg.ofLe lM2)
      have hxj := hxe j hjl
      have hRx5 := hRx.up l15
      have hxA5 := Seg.all (hGx.le l15)
      have hcx : ∀ ms, Cell h15 ms ((vbase xe).add (j * 1)) (.int .i64 (solf pv F st.length j 0)) := fun ms => by
       have := (hRx5.any (ms := ms)).ent (i := j) (j := 0) hjl (by omega)
       rwa [show j * 1 + 0 = j by omega] at this
      have elx : (mat st.length 1 (solf pv F st.length)).length = st.length * 1 := mat_len _ _ _
      refine ws_stab (n := 17) (bs := [true, true, true, true, true, true, true, true, true, true, true, true, true, true, true, true, false]) [true, true, true, true, true, true, true, true, true, true, true, true, true, true, true, true] fol (by kernel_rfl) (by kernel_rfl) rfl rfl (Qp rfl (ox_move rfl rfl) (Qp rfl (ox_move rfl rfl) (Qp rfl (ox_nilCheck rfl rfl) (Qp rfl (ox_fieldF fd132_0 rfl rfl) (Qp rfl (ox_load rfl underlying3 rfl rfl (hMA2 0 _ rfl _)) (Qp rfl (ox_move rfl rfl) (Qp rfl (ox_nilCheck rfl rfl) (Qp rfl (ox_fieldF fd132_0 rfl rfl) (Qp rfl (ox_load rfl underlying3 rfl rfl (hMA2 0 _ rfl _)) (Qp rfl (ox_fieldF fd42_3 rfl rfl) (Qp rfl (ox_load rfl underlying24 rfl rfl (hxA5 3 _ rfl _)) (Qp rfl (ox_move rfl rfl) (Qp rfl (ox_indexR (j) hRx5.rd.any rfl underlying24 el3 rfl rfl (by omega) (by omega)) (Qp rfl (ox_load rfl underlying3 rfl rfl (hcx _)) (Qp rfl (ox_sub rfl rfl rfl (by omega)) (Qp rfl (ox_move rfl rfl) ?_))))))))))))))))
      unfold PZs
      simp only [List.cons_append, List.nil_append]
      refine Qo 16 rfl ?_
      refine wl_call_ (pre := [mB]) rfl call112 rfl (addB_ok Z.p (Z.p - solf pv F st.length j 0) Z.d N (al.getD i 0) (st.getD j 0) S' mB h15 hbp (by omega) (fun j => Nat.le_trans (hd j) (by omega)) hsN htN (Ne.symm hne) (by rw [(I.same _).2.2, (I.same (st.getD j 0)).2.2, hsk, htk]) (by rw [(I.same _).2.2, hsk]; omega) (I.bd _ hsN) (I.bd _ htN) B) rfl rfl rfl rfl (fun x h16 ms16 l16 hF => ?_)
      obtain ⟨rfl, mB', rfl, B'⟩ := hF
      refine Qw (Qe (nx_back LM2 lM2 fun h17 q17 b17 => (nx_swap (nx_block (nx_then (ws_region (Qx (ox_add rfl rfl rfl (by omega)) rfl (Qm rfl (wl_nil ?_)))))))))
      refine nx_round (st.length - (j + 1)) _ (by omega) ⟨j + 1, _, mB', rfl, rfl, Hp.le_trans lj (b17 _ l15 dM2), rfl, by omega, I.step (by omega) hsN htN hne hsk htk hmay, B'⟩ Qs
     ·obtain rfl : j = st.length := by omega
      have W' := W.ends hil M.nodup I (fun a ha => by
       have h1 := solve_sol hE.red hyes (s := 0) (by omega) ha
       refine h1.trans ?_
       unfold apf
       exact Cg.mod _ _)
      have hel : ((en ++ de).map (ptrS S0)).length = en.length + de.length := by simp
      have hend : en.length + de.length ≤ N + N := by
       have h1 := (List.Perm.length_eq M.perm)
       have h2 := (List.Perm.length_eq W.perm)
       rw [List.length_append, List.length_range] at h1
       rw [List.length_append, List.length_take] at h2
       omega
      refine ws_exit (nx_then_exit (nx_then_exit (nx_block_exit (nx_then (ws_region (Qm rfl (Qm rfl (Qx (ox_nilCheck rfl rfl) rfl (Qx (ox_fieldF fd132_3 rfl rfl) rfl (Qx (ox_load rfl underlying106 rfl rfl (Cell.blk 1 (k := 3) rfl rfl)) rfl (Qm rfl ?_)))))))))))
      refine wl_buildSlice1 [_] rfl underlying106 el108 rfl (by rfl) rfl rfl (by omega) rfl rfl rfl (fun g92 => ?_)
      refine wl_appendV 3 hen (RdL.one cV_len (List.Mem.head _) rfl) rfl underlying106 el108 rfl (by omega) rfl rfl rfl (one_of rfl) (by simp only [List.length_singleton]; omega) (by simp only [List.length_singleton]; omega) rfl rfl rfl (fun ve2 me2 hen2 => ?_)
      have oe2 : ve2.oneCell' = true := (hen2.rd (h := h) (ms := [me2]) (List.Mem.head _)).rd.one
      refine Qx (ox_nilCheck rfl rfl) rfl (Qx (ox_fieldF fd132_3 rfl rfl) rfl ?_)
      refine wl_storeAt 2 _ rfl el106 rfl rfl (by assumption) rfl rfl (by (simp; done)) rfl rfl ?_
      refine wl_nil (nx_block (nx_then (ws_region (Qx (ox_add rfl rfl rfl (by omega)) rfl (Qm rfl (wl_nil (nx_drop ?_)))))))
      refine nx_round (al.length - (i + 1)) _ (by omega) ⟨i + 1, S', st, de ++ [al.getD i 0], w, es, vst, vim, ve2, mB, me2, mst, mim, rfl, rfl, Hp.le_trans hlh lj, rfl, by omega, W', hst, him, ?_, ?_, B⟩ Qs
      ·exact (hIm0.up (Hp.le_trans (Hp.le_trans hl11 l12) (Hp.le_trans l1314 lj)))
      ·rw [List.map_append, List.map_append, ← List.append_assoc, ← List.map_append]
       have e2 : [al.getD i 0].map (ptrS S0) = [ptrS S0 (al.getD i 0)] := rfl
       rw [e2, hgs]
       exact hen2
    ·-- it stays
     have hstm : (st.map (ptrS S0)).length ≤ 400 := by rw [ptr_len]; omega
     have hesl : es.length ≤ 400 := by rw [hIm0.1]; omega
     refine ws_seq (RsQ (Qm rfl (Qx (ox_not rfl rfl) rfl (RnQ (ws_cond_t rfl (RsQ (Qm rfl (Qm rfl ?_))))))))
     refine wl_buildSlice1 [_] rfl underlying106 el108 rfl (by rfl) rfl rfl (by omega) rfl rfl rfl (fun g55 => ?_)
     refine wl_appendV 6 hst (RdL.one cV_len (List.Mem.head _) rfl) rfl underlying106 el108 rfl (by omega) rfl rfl rfl (one_of rfl) (by simp only [List.length_singleton]; omega) (by simp only [List.length_singleton]; omega) rfl rfl rfl (fun vst2 mst2 hst2 => ?_)
     refine Qm rfl (Qm rfl (wl_buildSlice1 [_] rfl underlying62 el24 rfl ((hRv.rd).cells) rfl rfl (by omega) rfl rfl rfl (fun g59 => ?_)))
     refine wl_appendV 8 him (RdL.one cV_len (List.Mem.head _) rfl) rfl underlying62 el24 rfl (by omega) rfl rfl rfl (one_of ov) (by simp only [List.length_singleton]; omega) (by simp only [List.length_singleton]; omega) rfl rfl rfl (fun vim2 mim2 him2 => ?_)
     refine Qm rfl (Qm rfl (RnQ (ws_exit (nx_then_exit (nx_block_exit (nx_then (ws_region (Qx (ox_add rfl rfl rfl (by omega)) rfl (Qm rfl (wl_nil (nx_dropAt 0 rfl (nx_dropAt 0 rfl (nx_dropAt 2 rfl (nx_dropAt 2 rfl ?_))))))))))))))
     have eu : ∀ a, snocW st.length w (apf Z.p (Z.d k) (Z.mat k) ((S (al.getD i 0)).v k)) st.length a = apf Z.p (Z.d k) (Z.mat k) ((S (al.getD i 0)).v k) a := fun a => by unfold snocW; rw [if_pos rfl]
     refine nx_round (al.length - (i + 1)) _ (by omega) ⟨i + 1, S, st ++ [al.getD i 0], de, snocW st.length w (apf Z.p (Z.d k) (Z.mat k) ((S (al.getD i 0)).v k)), es ++ [v], vst2, vim2, ve', mB, me', mst2, mim2, rfl, rfl, hlh, rfl, by omega, ?_, ?_, him2, ?_, hen, B⟩ Qs
     ·refine W.stay hFp hil (fun t ht a ha => ?_) (fun a ha => eu a) fun x hx => solve_no hbp.1 hE.red hno x fun a ha => ?_
      ·unfold snocW; rw [if_neg (by omega)]
      ·have := hx a ha
       rw [eu] at this
       exact this
     ·rw [List.map_append]
      have e2 : [al.getD i 0].map (ptrS S0) = [ptrS S0 (al.getD i 0)] := rfl
      rw [e2, hgs]
      exact hst2
     ·rw [List.length_append, List.length_singleton]
      exact hIm
  ·obtain rfl : i = al.length := by omega
   refine ws_exit (nx_then_exit (nx_then_exit (nx_block_exit ?_)))
   exact nx_meet _ ⟨S, st, de, w, es, vst, vim, ve', mB, me', mst, mim, rfl, hlh, rfl, W, hst, him, hIm, hen, B⟩ Qs
 ·obtain ⟨S, st, de, w, es, vst, vim, ve', mB, me', mst, mim, rfl, hlh, rfl, W, hst, him, hIm, hen, B⟩ := hI
  refine ws_top 4 rfl (ws_freezeL him fun h2 l2 hRi => ?_)
  have hsub : st.Sublist al := by have := W.sub; rwa [List.take_length] at this
  have hstl : st.length ≤ al.length := hsub.length_le
  have hnd : st.Nodup := M.nodup.sublist hsub
  have hA := hA.up (Hp.le_trans hlh l2)
  have hG := hG.le (Hp.le_trans hlh l2)
  have hIm := hIm.up l2
  have hlh := Hp.le_trans hlh l2
  have hRin : ∀ (h : Hp), h2.le h → Rd h [] vim 1 st.length (es.flatMap cV) := fun h l => by
   have := (hRi.up l).rd
   rwa [hIm.1] at this
  refine ws_cut (fun s hh ms' => ∃ (mB : Hp), s = [(0, .pointer (some ⟨gm, 0, none⟩)), (3, .pointer (some ⟨g3, 0, none⟩)), (4, vst), (5, vim)] ∧ h2 = hh ∧ ms' = [mB, Blk gm 132 [.int .i64 Z.p, .int .i64 k, va, ve'], me', mst] ∧ BagS Z.d N (growN k w st st.length S) mB) ?_ (fun s h ms hI => ?_)
  ·refine ws_seq (ws_region (Qm rfl (Qx (ox_lenR (ptr_rd (hst.rd (List.Mem.tail _ (List.Mem.tail _ (List.Mem.tail _ (List.Mem.head _)))))) rfl underlying106 rfl) rfl (Qm rfl (RnQ (ws_block ?_))))))
   refine ws_loop (fun q s hh ms' => ∃ (i : Nat) (mB : Hp), q = st.length - i ∧ s = [(0, .pointer (some ⟨gm, 0, none⟩)), (3, .pointer (some ⟨g3, 0, none⟩)), (4, vst), (5, vim), (97, vst), (98, .int .i64 st.length), (99, .int .i64 i)] ∧ h2 = hh ∧ ms' = [mB, Blk gm 132 [.int .i64 Z.p, .int .i64 k, va, ve'], me', mst] ∧ i ≤ st.length ∧ BagS Z.d N (growN k w st i S) mB)
    (st.length - 0) _ ⟨0, mB, rfl, rfl, rfl, rfl, by omega, by rw [growN_zero]; exact B⟩ Qs ?_
   rintro q s hh ms' ⟨i, mB, rfl, rfl, rfl, rfl, hi, B⟩
   refine RsQ (Qx (ox_lss rfl rfl rfl) rfl (RnQ (ws_seq ?_)))
   refine ws_if rfl (fun hlt => ?_) (fun hlt => ?_)
   ·have hil : i < st.length := nat_lt_of hlt
    have hcs : ∀ ms, mst ∈ ms → Cell h2 ms ((vbase vst).add (i * 1)) (ptrS S0 (st.getD i 0)) := fun ms hm => ptr_cell (hst.rd hm) hil
    have hie : i < es.length := by rw [hIm.1]; exact hil
    have hsN : st.getD i 0 < N := M.lt (hsub.subset (getD_mem hil))
    have hsg := growN_not (k := k) (w := w) (S := S) (nodup_take_not hnd hil)
    have hgs : ptrS S0 (st.getD i 0) = .pointer (some ⟨(growN k w st i S (st.getD i 0)).g, 0, none⟩) := by unfold ptrS; rw [hsg, (W.same _).1]
    have hsk : (growN k w st i S (st.getD i 0)).to = k := by rw [hsg, (W.same _).2.2]; exact M.live _ (hsub.subset (getD_mem hil))
    refine ws_skip (nx_then (ws_seq (ws_block (RsQ (Qm rfl (Qx (ox_indexR _ (ptr_rd (hst.rd (List.Mem.tail _ (List.Mem.tail _ (List.Mem.tail _ (List.Mem.head _)))))) rfl underlying106 el108 rfl rfl rfl (by omega)) rfl (Qx (ox_load rfl underlying108 rfl rfl (hcs _ (List.Mem.tail _ (List.Mem.tail _ (List.Mem.tail _ (List.Mem.head _)))))) rfl (Qm rfl (Qm rfl (RnQ ?_))))))))))
    rw [hgs]
    refine ws_region (Qm rfl (Qm rfl (Qm rfl (Qx (ox_indexR _ (hRin _ (Hp.le_refl _)).any rfl underlying62 el24 rfl rfl rfl (by omega)) rfl (Qx (ox_load rfl underlying24 rfl rfl (hRi.any.cell0 hie rfl)) rfl ?_)))))
    refine wl_call_ (pre := [mB]) rfl call113 rfl (growB_ok Z.d N (st.getD i 0) (growN k w st i S) (w i) es[i] mB h2 hsN (by rw [hsk]; exact hIm.2 i hie) (by rw [hsk]; omega) (by omega) B) rfl rfl rfl rfl (fun x h16 ms16 l16 hF => ?_)
    obtain ⟨rfl, mB', rfl, B'⟩ := hF
    refine wl_nil (nx_block (nx_then (ws_region (Qx (ox_add rfl rfl rfl (by omega)) rfl (Qm rfl (wl_nil ?_))))))
    refine nx_round (st.length - (i + 1)) _ (by omega) ⟨i + 1, mB', rfl, rfl, rfl, rfl, by omega, ?_⟩ Qs
    rw [growN_step hnd hil (by rw [(W.same _).2.2]; exact M.live _ (hsub.subset (getD_mem hil)))] at B'
    exact B'
   ·obtain rfl : i = st.length := by omega
    refine ws_exit (nx_then_exit (nx_then_exit (nx_block_exit ?_)))
    exact nx_meet _ ⟨mB, rfl, rfl, rfl, B⟩ Qs
  ·obtain ⟨mB, rfl, rfl, rfl, B⟩ := hI
   have wr : RtM Z.p (Z.d (k + 1)) st.length (fun a t => w t a) := ⟨hp, by omega, by omega, fun a ha t ht => by
    show 0 ≤ w t a ∧ w t a < Z.p
    rw [W.im t ht a ha]
    exact ⟨Int.emod_nonneg _ (by omega), Int.emod_lt_of_pos _ (by omega)⟩⟩
   have hGA := Seg.all hG
   refine RsQ (Qm rfl (Qx (ox_nilCheck rfl rfl) rfl (Qx (ox_fieldF fd132_1 rfl rfl) rfl (Qx (ox_load rfl underlying3 rfl rfl (Cell.blk 1 (k := 1) rfl rfl)) rfl (Qx (ox_add rfl rfl rfl (by omega)) rfl (Qx (ox_nilCheck rfl rfl) rfl (Qx (ox_fieldF fd132_1 rfl rfl) rfl ?_)))))))
   refine wl_storeAt 1 _ rfl el3 rfl rfl (by rfl) rfl rfl (by (simp; done)) rfl rfl ?_
   refine RnQ ?_
   refine ws_cut (fun s hh ms' => ∃ (F : Nat → Nat → Int) (pv : List Nat) (gb : Nat → Nat) (vst : Value) (mB mst : Hp), s = [(0, .pointer (some ⟨gm, 0, none⟩)), (4, vst)] ∧ h2.le hh ∧ ms' = [mB, Blk gm 132 [.int .i64 Z.p, .int .i64 ((k : Int) + 1), va, ve'], me', mst] ∧ Ech Z.p (Z.d (k + 1)) (st.length + Z.d (k + 1)) (jn st.length (fun i j => w j i) eye) F pv ∧ (from_ st.length pv).length ≤ 200 ∧ BagS Z.d (N + (from_ st.length pv).length) (bornN N k gb (fun t i => jn st.length (fun i j => w j i) eye i ((from_ st.length pv).getD t 0)) (growN k w st st.length S)) mB ∧ OwnL cV 1 108 mst vst ((st ++ List.range' N (from_ st.length pv).length).map (ptrS (bornN N k gb (fun t i => jn st.length (fun i j => w j i) eye i ((from_ st.length pv).getD t 0)) (growN k w st st.length S))))) ?_ (fun s h ms hI => ?_)
   ·refine ws_seq (ws_stab (n := 10) (bs := [true, true, true, false, true, true, true, false, false, true]) [true, true, true, false, true, true, true, false, false, true] fol (by kernel_rfl) (by kernel_rfl) rfl rfl (Qp rfl (ox_move rfl rfl) (Qp rfl (ox_nilCheck rfl rfl) (Qp rfl (ox_fieldF fd132_0 rfl rfl) (Qp rfl (ox_fieldF fd42_1 rfl rfl) (Qp rfl (ox_load rfl underlying3 rfl rfl (hGA 1 _ rfl _)) (Qp rfl (ox_move rfl rfl) (Qp rfl (ox_move rfl rfl) ?_))))))))
    unfold PZs
    simp only [List.cons_append, List.nil_append]
    refine Qo 3 rfl (Qx (ox_load rfl underlying3 rfl rfl (Cell.blk0 1 rfl rfl)) rfl (Qw (Qo 7 rfl (wl_call rfl call116 rfl (basis_ok Z.p (Z.d (k + 1)) st.length w vim h2 wr (by omega) (hIm.rd hRi)) rfl rfl rfl (fun vb h3 ms3 l3 hF => ?_)))))
    obtain ⟨l3, F, pv, ma2, mb2, es2, hEch, rfl, hOa, hBb⟩ := hF
    have hRbl : Rd h3 [ma2, mb2] vb 1 (from_ st.length pv).length (es2.flatMap cV) := by have := (hOa.rd (h := h3) (ms := [ma2, mb2]) (List.Mem.head _)).rd; rwa [hBb.1] at this
    refine Qa (Qo 8 rfl (Qx (ox_lenS hRbl rfl underlying62 rfl) rfl (Qa (Qe (nx_then (ws_block (ws_freezeL hOa fun h4 l4 hRa => (ws_lend fun h5 l5 lm5 _ _ => ?_))))))))
    have hRa := hRa.up l5
    have hRV : RdV h5 vb (from_ st.length pv).length (Z.d (k + 1)) (fun t i => jn st.length (fun i j => w j i) eye i ((from_ st.length pv).getD t 0)) := hBb.rd hRa lm5
    have l25 := Hp.le_trans l3 (Hp.le_trans l4 l5)
    have hlh := Hp.le_trans hlh l25
    have hev : ∀ t (ht : t < es2.length), RdL cI 1 h5 [] es2[t] (vec (Z.d (k + 1)) fun i => jn st.length (fun i j => w j i) eye i ((from_ st.length pv).getD t 0)) := fun t ht => by
     obtain ⟨x, hx, O⟩ := Bag.all hBb.2 t (by rw [← hBb.1]; exact ht)
     rw [es_getD ht] at O
     exact O.rdh (Hp.le_trans hx lm5)
    have hnbl : (from_ st.length pv).length ≤ 200 := by
     have h1 := hEch.red.len
     have h2 : (from_ st.length pv).length ≤ pv.length := List.length_filter_le _ _
     omega
    generalize hu : (fun t i => jn st.length (fun i j => w j i) eye i ((from_ st.length pv).getD t 0)) = u at *
    generalize hnb : (from_ st.length pv).length = nb at *
    have hRbn : ∀ h, h5.le h → Rd h [] vb 1 nb (es2.flatMap cV) := fun h l => by
     have := (hRa.up l).rd
     rwa [hBb.1] at this
    refine ws_loop (fun q s hh ms' => ∃ (b : Nat) (gb : Nat → Nat) (vst : Value) (mB mst : Hp), q = nb - b ∧ s = [(0, .pointer (some ⟨gm, 0, none⟩)), (4, vst), (125, vb), (126, .int .i64 nb), (127, .int .i64 b)] ∧ h5.le hh ∧ ms' = [mB, Blk gm 132 [.int .i64 Z.p, .int .i64 ((k : Int) + 1), va, ve'], me', mst] ∧ b ≤ nb ∧ BagS Z.d (N + b) (bornN N k gb u (growN k w st st.length S)) mB ∧ OwnL cV 1 108 mst vst ((st ++ List.range' N b).map (ptrS (bornN N k gb u (growN k w st st.length S)))))
     (nb - 0) _ ⟨0, fun _ => 0, vst, mB, mst, rfl, rfl, Hp.le_refl _, rfl, by omega, ?_, ?_⟩ Qs ?_
    ·exact B.mono fun l hl x O => by rw [bornN_lt hl]; exact O
    ·rw [List.range'_zero, List.append_nil]
     have e1 : st.map (ptrS (bornN N k (fun _ => 0) u (growN k w st st.length S))) = st.map (ptrS S0) := List.map_congr_left fun l hl => by
      unfold ptrS; rw [bornN_lt (M.lt (hsub.subset hl)), (growN_g _).1, (W.same l).1]
     rw [e1]
     exact hst
    rintro q s hh ms' ⟨b, gb, vst, mB, mst, rfl, rfl, lb, rfl, hb2, B, hst⟩
    refine RsQ (Qx (ox_lss rfl rfl rfl) rfl (RnQ (ws_seq ?_)))
    refine ws_if rfl (fun hltb => ?_) (fun hltb => ?_)
    ·have hbl : b < nb := nat_lt_of hltb
     have hbe : b < es2.length := by rw [hBb.1]; exact hbl
     have hRv : RdL cI 1 hh [] es2[b] (vec (Z.d (k + 1)) (u b)) := by
      have := (hev b hbe).up lb
      rw [← hu]
      exact this
     have ov := hRv.rd.one
     refine ws_skip (nx_then (ws_seq (ws_block (RsQ (Qx (ox_indexR _ (hRbn _ lb).any rfl underlying62 el24 rfl rfl rfl (by omega)) rfl (Qx (ox_load rfl underlying24 rfl rfl ((hRa.up lb).any.cell0 hbe rfl)) rfl (Qm rfl (RnQ (ws_swap (ws_lend fun h6 l6 lM dM LM => (ws_region (Qm rfl (Qm rfl (Qm rfl (wl_call rfl call88 rfl (born_ok Z.d gm (k + 1) (u b) es2[b] _ _ _ h6 (Seg.ofLe lM) (hRv.up l6) (by omega)) rfl rfl rfl (fun x h7 ms7 l7 hF => ?_))))))))))))))))
     obtain ⟨rfl, g, m, rfl, rfl, hS⟩ := hF
     have hstl2 : ((st ++ List.range' N b).map (ptrS (bornN N k gb u (growN k w st st.length S)))).length ≤ 1000 := by simp; omega
     refine wl_buildSlice1 [_] rfl underlying106 el108 rfl (by rfl) rfl rfl (by omega) rfl rfl rfl (fun g135 => ?_)
     refine wl_appendV 4 hst (RdL.one cV_len (List.Mem.head _) rfl) rfl underlying106 el108 rfl (by omega) rfl rfl rfl (one_of rfl) (by simp only [List.length_singleton]; omega) (by simp only [List.length_singleton]; omega) rfl rfl rfl (fun vst2 mst2 hst2 => ?_)
     refine Qm rfl (wl_nil (nx_block (nx_then (ws_region (Qx (ox_add rfl rfl rfl (by omega)) rfl (Qm rfl (wl_nil (nx_drop (nx_back LM lM fun h8 q8 b8 => (nx_apart fun hap => ?_))))))))))
     have hdj : mB.disj m := by
      have h1 := (List.pairwise_cons.1 hap).2
      exact Hp.disj_symm ((List.pairwise_cons.1 h1).1 _ (by simp))
     refine nx_top 1 rfl (nx_top 2 rfl (nx_join ?_))
     refine nx_round (nb - (b + 1)) _ (by omega) ⟨b + 1, gbS gb (N + b) g, vst2, mB.join m, mst2, rfl, rfl, Hp.le_trans lb (b8 _ l6 dM), rfl, by omega, ?_, ?_⟩ Qs
     ·refine Bag.snoc (N := N + b) (B.mono fun l hl x O => ?_) ?_ hdj
      ·rw [bornN_other (by omega)]; exact O
      ·rw [bornN_ge (Nat.le_add_right N b)]
       show StO Z.d (if N + b = N + b then g else gb (N + b)) (k + 1) (k + 1) (fun _ => u (N + b - N)) m
       rw [if_pos rfl, Nat.add_sub_cancel_left]
       exact hS
     ·have e1 : (st ++ List.range' N (b + 1)).map (ptrS (bornN N k (gbS gb (N + b) g) u (growN k w st st.length S))) = (st ++ List.range' N b).map (ptrS (bornN N k gb u (growN k w st st.length S))) ++ [.pointer (some ⟨g, 0, none⟩)] := by
       rw [List.range'_1_concat, ← List.append_assoc, List.map_append]
       congr 1
       ·refine List.map_congr_left fun l hl => ?_
        unfold ptrS
        rw [bornN_other]
        rcases List.mem_append.1 hl with h | h
        ·have := M.lt (hsub.subset h); omega
        ·have := List.mem_range'_1.1 h; omega
       ·show [ptrS _ (N + b)] = _
        unfold ptrS
        rw [bornN_ge (Nat.le_add_right N b)]
        show [Value.pointer (some ⟨(if N + b = N + b then g else gb (N + b)), 0, none⟩)] = _
        rw [if_pos rfl]
      rw [e1]
      exact hst2
    ·obtain rfl : b = nb := by omega
     refine ws_exit (nx_then_exit (nx_then_exit (nx_block_exit ?_)))
     subst hnb
     subst hu
     exact nx_meet _ ⟨F, pv, gb, vst, mB, mst, rfl, Hp.le_trans l25 lb, rfl, hEch, hnbl, B, hst⟩ Qs
   ·obtain ⟨F, pv, gb, vst, mB, mst, rfl, lb, rfl, hEch, hnbl, B, hst⟩ := hI
    have ost : vst.oneCell' = true := (hst.rd (h := h) (ms := [mst]) (List.Mem.head _)).rd.one
    refine ws_region (Qm rfl (Qm rfl (Qx (ox_nilCheck rfl rfl) rfl (Qx (ox_fieldF fd132_2 rfl rfl) rfl ?_))))
    refine wl_storeAt 1 _ rfl el106 rfl rfl (by assumption) rfl rfl (by (simp; done)) rfl rfl ?_
    refine wl_nil (nx_top 3 rfl (nx_freezeL hst fun h9 l9 hRst => ?_))
    have Mn := Fw.done (gb := gb) hFp hbp.1 M W hb hEch.red
    have e1 : (en ++ de).map (ptrS (bornN N k gb (fun t i => jn st.length (fun i j => w j i) eye i ((from_ st.length pv).getD t 0)) (growN k w st st.length S))) = (en ++ de).map (ptrS S0) := List.map_congr_left fun l hl => by
     have hlN : l < N := by
      rcases List.mem_append.1 hl with h1 | h1
      ·exact List.mem_range.1 (M.perm.mem_iff.1 (List.mem_append_left _ h1))
      ·have h2 := W.perm.mem_iff.1 (List.mem_append_right _ h1)
       exact M.lt (List.mem_of_mem_take h2)
     unfold ptrS; rw [bornN_lt hlN, (growN_g _).1, (W.same l).1]
    exact nx_end0 rfl (⟨Hp.le_trans l1 (Hp.le_trans hlh (Hp.le_trans lb l9)), _, _, _, _, vst, ve', me', mB, rfl, hnbl, hRst, by rw [e1]; exact hen, B, Mn⟩)
end Go.Proofs.YtdnelknieikbaaaGreat
namespace Go.Proofs.YtdnelknieikbaaaGreat
open Go.Eng Go.RowKit Go.Lin
variable {a b : Nat}
structure LeadP (p : Int) (r c : Nat) (A L : Nat → Nat → Int) (q : Nat) (X U : Nat → Nat → Int) : Prop where
 rank : ∀ F pv, Ech p r c A F pv → pv.length = q
 bdX : ∀ t, t < q → ∀ i, i < r → 0 ≤ X t i ∧ X t i < p
 bdU : ∀ t, t < q → ∀ i, i < c → 0 ≤ U t i ∧ U t i < p
 top : ∃ top : Nat → Nat, ∀ t, t < q → top t < r ∧ X t (top t) = 1 ∧ (∀ i, top t < i → i < r → X t i = 0) ∧ ∀ t', t' < q → t' ≠ t → X t' (top t) = 0
 lift : ∀ t, t < q → ∀ i, i < r → Cg p (ap A c (U t) i) (ap L r (X t) i)
theorem rank_uniq {p : Int} (Fp : Lin.Fld p) {r c : Nat} {f F F' : Nat → Nat → Int} {pv pv' : List Nat} (R : Red p r c f F pv c) (R' : Red p r c f F' pv' c) : pv.length = pv'.length := by
 have h1 := exchange Fp (piv_ind R) fun l hl _ => piv_spn R' hl
 have h2 := exchange Fp (piv_ind R') fun l hl _ => piv_spn R hl
 rw [piv_cnt R, piv_cnt R'] at h1
 rw [piv_cnt R, piv_cnt R'] at h2
 omega
theorem rows_full {p : Int} (Fp : Lin.Fld p) {r c : Nat} {f F : Nat → Nat → Int} {pv : List Nat} (R : Red p r c f F pv c) (hI : Ind p r tt c (fun l b => f l b)) : pv.length = r := by
 refine Nat.le_antisymm R.len (Nat.le_of_not_lt fun hlt => ?_)
 obtain ⟨u, ⟨j, hj, hnd⟩, hu⟩ := unknowns Fp pv.length r (fun k i => f i (pv.getD k 0)) hlt
 refine hnd (hI u (fun b hb => ?_) j hj rfl)
 rw [comb_tt]
 have h1 : Cg p (sm r fun l => u l * f l b) (sm r fun l => u l * ap f c (piv pv fun k => F k b) l) := Cg.sm fun l hl => (Cg.refl p (u l)).mul (ker_col R hb hl)
 refine h1.trans ?_
 have h2 : (sm r fun l => u l * ap f c (piv pv fun k => F k b) l) = sm c fun a => piv pv (fun k => F k b) a * sm r fun l => u l * f l a := by
  unfold ap
  rw [sm_congr (g := fun l => sm c fun a => piv pv (fun k => F k b) a * (u l * f l a)) fun l _ => by
   rw [← sm_mul]
   exact sm_congr fun a _ => by rw [Int.mul_comm (f l a), ← Int.mul_assoc, ← Int.mul_assoc, Int.mul_comm (u l)], sm_comm]
  exact sm_congr fun a _ => sm_mul _ _ _
 rw [h2]
 refine Cg.trans (Cg.sm (g := fun _ => 0) fun a ha => ?_) (Cg.of_eq (sm_zero c))
 by_cases hm : a ∈ pv
 ·obtain ⟨k, hk, rfl⟩ := List.mem_iff_getElem.1 hm
  have h3 := hu k hk
  have h4 : Cg p (sm r fun l => u l * f l pv[k]) 0 := by
   refine Cg.trans (Cg.of_eq (sm_congr fun l _ => ?_)) h3
   rw [pv_getD hk, Int.mul_comm]
  have := (Cg.refl p (piv pv (fun k => F k b) pv[k])).mul h4
  rwa [Int.mul_zero] at this
 ·rw [piv_no _ hm, Int.zero_mul]; exact Cg.refl _ _
theorem ap_ap (A B : Nat → Nat → Int) (n m : Nat) (x : Nat → Int) (i : Nat) : ap A n (fun j => ap B m x j) i = ap (fun i k => sm n fun j => A i j * B j k) m x i := by
 unfold ap
 rw [sm_congr (g := fun j => sm m fun k => A i j * B j k * x k) fun j _ => by
  rw [← sm_mul]
  exact sm_congr fun k _ => by rw [Int.mul_assoc], sm_comm]
 exact sm_congr fun k _ => sm_mul_r _ _ _
section
variable {p : Int} {r c : Nat} {A L : Nat → Nat → Int} {F : Nat → Nat → Int} {pv : List Nat} {Fa : Nat → Nat → Int} {pa : List Nat}
theorem inv_img (hp : 2 ≤ p) (Fp : Lin.Fld p) (hI : Ind p r tt r (fun l i => L i l)) (R : Red p r (r + r) (jn r L eye) F pv (r + r)) (k : Nat) {i : Nat} (hi : i < r) : Cg p (ap L r (fun j => mulf p r (solf pv F r) (imgf pa A) j k) i) (imgf pa A i k) := by
 have hlt := inv_ok Fp hp hI R
 have h1 : Cg p (ap L r (fun j => mulf p r (solf pv F r) (imgf pa A) j k) i) (ap L r (fun j => ap (solf pv F r) r (fun t => imgf pa A t k) j) i) := ap_cg (fun j _ => Cg.mod _ _) i
 refine h1.trans ?_
 rw [ap_ap]
 have h2 : ∀ t, t < r → Cg p (sm r fun j => L i j * solf pv F r j t) (if i = t then 1 else 0) := fun t ht => solve_sol R hlt ht hi
 refine (Cg.sm (g := fun t => (if i = t then 1 else 0) * imgf pa A t k) fun t ht => (h2 t ht).mul (Cg.refl _ _)).trans (Cg.of_eq ?_)
 rw [sm_one r i _ hi fun t _ hne => by rw [if_neg (Ne.symm hne), Int.zero_mul], if_pos rfl, Int.one_mul]
def trn (r : Nat) (C : Nat → Nat → Int) (k b : Nat) : Int := C (r - 1 - b) k
def trnp (r : Nat) (C : Nat → Nat → Int) (k i a b : Nat) : Int := if a < k ∨ (a = k ∧ r - 1 - b < i) then trn r C a b else 0
theorem trnp_step {r k i : Nat} (C : Nat → Nat → Int) (hi : i < r) (hb : b < r) : upd2 (trnp r C k i) k (r - 1 - i) (C i k) a b = trnp r C k (i + 1) a b := by
 unfold upd2 trnp trn
 by_cases h : a = k ∧ b = r - 1 - i
 ·obtain ⟨rfl, rfl⟩ := h
  rw [if_pos ⟨rfl, rfl⟩, if_pos (by omega)]; congr 1; omega
 ·rw [if_neg h]
  by_cases h2 : a < k ∨ (a = k ∧ r - 1 - b < i)
  ·rw [if_pos h2, if_pos (by omega)]
  ·rw [if_neg h2, if_neg (by omega)]
theorem trnp_row {r k : Nat} (C : Nat → Nat → Int) (hb : b < r) : trnp r C k r a b = trnp r C (k + 1) 0 a b := by
 unfold trnp
 by_cases h2 : a < k ∨ (a = k ∧ r - 1 - b < r)
 ·rw [if_pos h2, if_pos (by omega)]
 ·rw [if_neg h2, if_neg (by omega)]
theorem trnp_zero (r : Nat) (C : Nat → Nat → Int) (a b : Nat) : trnp r C 0 0 a b = 0 := if_neg (by omega)
theorem trnp_all {r q : Nat} (C : Nat → Nat → Int) (ha : a < q) : trnp r C q 0 a b = trn r C a b := if_pos (.inl ha)
theorem lead_ok (hp : 2 ≤ p) (Fp : Lin.Fld p) (hI : Ind p r tt r (fun l i => L i l)) (R : Red p r (r + r) (jn r L eye) F pv (r + r)) (Ra : Red p r c A Fa pa c) {T : Nat → Nat → Int} {pt : List Nat} (RT : Red p pa.length r (trn r (mulf p r (solf pv F r) (imgf pa A))) T pt r) :
  (∃ top : Nat → Nat, ∀ t, t < pa.length → top t < r ∧ T t (r - 1 - top t) = 1 ∧ (∀ i, top t < i → i < r → T t (r - 1 - i) = 0) ∧ ∀ t', t' < pa.length → t' ≠ t → T t' (r - 1 - top t) = 0) ∧
  ∀ t, t < pa.length → ∃ y : Nat → Int, ∀ i, i < r → Cg p (ap A c y i) (ap L r (fun i => T t (r - 1 - i)) i) := by
 generalize hC : mulf p r (solf pv F r) (imgf pa A) = C at *
 have hLC : ∀ k i, i < r → Cg p (ap L r (fun j => C j k) i) (imgf pa A i k) := fun k i hi => by rw [← hC]; exact inv_img hp Fp hI R k hi
 -- the columns of C are independent
 have hCI : Ind p pa.length tt r (fun l i => C i l) := fun u hu l hl hb => by
  refine piv_indL Ra u (fun i hi => ?_) l hl hb
  rw [comb_tt]
  have h1 : Cg p (sm pa.length fun l => u l * A i (pa.getD l 0)) (sm pa.length fun l => u l * ap L r (fun j => C j l) i) := Cg.sm fun l _ => (Cg.refl p (u l)).mul (hLC l i hi).symm
  refine h1.trans ?_
  have h2 : (sm pa.length fun l => u l * ap L r (fun j => C j l) i) = ap L r (fun j => comb pa.length tt u (fun l i => C i l) j) i := by
   unfold ap
   rw [sm_congr (g := fun l => sm r fun j => L i j * (u l * C j l)) fun l _ => by
    rw [← sm_mul]
    exact sm_congr fun j _ => by rw [← Int.mul_assoc, ← Int.mul_assoc, Int.mul_comm (u l)], sm_comm]
   exact sm_congr fun j _ => by
    show _ = L i j * comb pa.length tt u (fun l i => C i l) j
    rw [comb_tt, ← sm_mul]
  rw [h2]
  refine (ap_cg (fun j hj => hu j hj) i).trans (Cg.of_eq (ap_zero L r i))
 have hTI : Ind p pa.length tt r (fun l b => trn r C l b) := fun u hu l hl hb => by
  refine hCI u (fun i hi => ?_) l hl hb
  have := hu (r - 1 - i) (by omega)
  unfold trn at this
  rw [comb_tt] at this ⊢
  rwa [show r - 1 - (r - 1 - i) = i by omega] at this
 have hlen := rows_full Fp RT hTI
 refine ⟨⟨fun t => r - 1 - pt.getD t 0, fun t ht => ?_⟩, fun t ht => ?_⟩
 ·have htl : t < pt.length := by omega
  have hlt := RT.lt t htl
  dsimp only
  rw [pv_getD htl]
  have e : r - 1 - (r - 1 - pt[t]) = pt[t] := by omega
  refine ⟨by omega, ?_, fun i hi hir => ?_, fun t' ht' hne => ?_⟩
  ·rw [e, RT.col t ht t htl, if_pos rfl]
  ·exact RT.left t htl _ (by omega)
  ·rw [e, RT.col t' ht' t htl, if_neg hne]
 ·obtain ⟨u, hu⟩ := RT.row t ht
  -- the row is a sum of multiples of rows; so the combination is one of columns of the image
  refine ⟨fun a => piv pa u a, fun i hi => ?_⟩
  have h1 : Cg p (ap L r (fun i => T t (r - 1 - i)) i) (ap L r (fun i => sm pa.length fun l => u l * C i l) i) := ap_cg (fun j hj => by
   have := hu (r - 1 - j) (by omega)
   unfold trn at this
   rwa [show r - 1 - (r - 1 - j) = j by omega] at this) i
  have h2 : ap L r (fun i => sm pa.length fun l => u l * C i l) i = sm pa.length fun l => u l * ap L r (fun j => C j l) i := by
   unfold ap
   rw [sm_congr (g := fun j => sm pa.length fun l => u l * (L i j * C j l)) fun j _ => by
    rw [← sm_mul]
    exact sm_congr fun l _ => by rw [← Int.mul_assoc, ← Int.mul_assoc, Int.mul_comm (L i j)], sm_comm]
   exact sm_congr fun l _ => sm_mul _ _ _
  have h3 : Cg p (sm pa.length fun l => u l * ap L r (fun j => C j l) i) (sm pa.length fun l => u l * A i (pa.getD l 0)) := Cg.sm fun l _ => (Cg.refl p (u l)).mul (hLC l i hi)
  have h4 : ap A c (fun a => piv pa u a) i = sm pa.length fun l => u l * A i (pa.getD l 0) := by
   unfold ap
   have e1 : (sm c fun a => A i a * piv pa u a) = sm c fun a => if pa.contains a then A i a * piv pa u a else 0 := sm_congr fun a _ => by
    by_cases hm : a ∈ pa
    ·rw [if_pos (List.contains_iff_mem.2 hm)]
    ·rw [if_neg (fun h => hm (List.contains_iff_mem.1 h)), piv_no _ hm, Int.mul_zero]
   rw [e1, sm_sel c (fun b => pa.contains b) fun a => A i a * piv pa u a, piv_cnt Ra, sel_sorted Ra.sorted Ra.mem_lt]
   exact sm_congr fun l hl => by rw [pv_getD hl, piv_at Ra.nodup u hl, Int.mul_comm]
  rw [h4]
  exact (h1.trans ((Cg.of_eq h2).trans h3)).symm
end
end Go.Proofs.YtdnelknieikbaaaGreat
namespace Go.Proofs.YtdnelknieikbaaaGreat
open Tryz
open Go.Eng Go.RowKit Go.Lin
theorem snocW_self (n : Nat) (w : Nat → Nat → Int) : snocW n w (w n) = w := funext fun t => by
 unfold snocW
 split
 ·rename_i h; rw [h]
 ·rfl
theorem leading_ok (p : Int) (r c : Nat) (A L : Nat → Nat → Int) (av lv : Value) (h : Hp) (RA : RtM p r c A) (RL : RtM p r r L) (hr : r ≤ 200) (hc : c ≤ 200) (hI : Ind p r tt r (fun l i => L i l)) (hA : RdL cI 1 h [] av (mat r c A)) (hL : RdL cI 1 h [] lv (mat r r L)) :
  FnT Tryz.prog 108 #[.agg #[.int .i64 p, .int .i64 r, .int .i64 c, av], .agg #[.int .i64 p, .int .i64 r, .int .i64 r, lv]] h [] (fun x h' ms' => h.le h' ∧ ∃ (q : Nat) (X U : Nat → Nat → Int) (vc vl : Value), x = .tuple #[vc, vl] ∧ LeadP p r c A L q X U ∧ RdV h' vc q r X ∧ RdV h' vl q c U ∧ ms' = []) := by
 have hb := RA.bd
 have Fp := RA.pr.fld
 have oav := hA.rd.one
 have olv := hL.rd.one
 refine fn_enter func108 ntmps108 rfl rfl (fun w0 hw0 => ?_)
 simp only [argS]
 refine RsQ ?_
 refine wl_box [_, _, _, _] rfl rfl (by rfl) rfl rfl rfl (fun g2 => ?_)
 refine wl_box [_, _, _, _] rfl rfl (by rfl) rfl rfl rfl (fun g3 => ?_)
 refine Qm rfl (Qm rfl (RnQ (ws_freezeBi 0 rfl fun h1 l1 hG3 => (ws_freezeBi 0 rfl fun h2 l2 hG2 => ?_))))
 have hG3 := hG3.le l2
 have hA := hA.up (Hp.le_trans l1 l2)
 have hL := hL.up (Hp.le_trans l1 l2)
 have l02 := Hp.le_trans l1 l2
 refine RsQ (Qx (ox_loadG rfl underlying42 rfl el42 rfl rfl (Seg.any hG3)) rfl (wl_call rfl call132 rfl (inverse_ok p r L lv h2 RL hL (fun F pv hE => (full_ind Fp hE.red).2 hI) (fun F pv hE => inv_ok Fp hb.1 hI hE.red)) rfl rfl rfl (fun x3 h3 ms3 l3 hF => ?_)))
 obtain ⟨l3', Fi, pi, vi, hEi, rfl, ei, mi, rfl, rfl, hOi⟩ := hF
 refine wl_freezeL hOi fun h4 l4 hRi => ?_
 have oi := hRi.rd.one
 refine Qm rfl (Qx (ox_extract rfl rfl rfl) rfl (Qx (ox_extract rfl rfl rfl) rfl (AlQ [.int .i64 0, .int .i64 0, .int .i64 0, .slice none 0 0] rfl el42 rfl rfl (fun g6 => ?_))))
 refine wl_storeAll 0 [_, _, _, _] rfl el42 rfl rfl rfl (by (simp [oi]; done)) rfl rfl rfl rfl rfl ?_
 refine Qm rfl (RnQ (ws_freezeBi 0 rfl fun h5 l5 hG6 => ?_))
 have l25 := Hp.le_trans l3 (Hp.le_trans l4 l5)
 have hA := hA.up l25
 have hL := hL.up l25
 have hG2 := hG2.le l25
 have hG3 := hG3.le l25
 have hRi := hRi.up l5
 have Rin : RtM p r r (solf pi Fi r) := ⟨RA.pr, RA.rl, RA.rl, fun i hi j hj => by
  unfold solf solp
  split
  ·rename_i h2
   exact hEi.red.bd _ (by have := hEi.red.len; omega) _ (by omega)
  ·omega⟩
 have l05 := Hp.le_trans l02 l25
 clear l1 l2 l3 l3' l4 l5 l25 l02
 refine ws_cut (fun s hh ms' => ∃ (Fa : Nat → Nat → Int) (pa : List Nat) (ec : Value) (g8 : Nat) (mc : Hp), s = [(2, .pointer (some ⟨g2, 0, none⟩)), (3, .pointer (some ⟨g3, 0, none⟩)), (4, .slice none 0 0), (5, .slice none 0 0), (8, .pointer (some ⟨g8, 0, none⟩))] ∧ h5.le hh ∧ ms' = [Blk g8 42 [.int .i64 p, .int .i64 r, .int .i64 pa.length, ec], mc] ∧ Ech p r c A Fa pa ∧ OwnL cI 1 3 mc ec (mat r pa.length (mulf p r (solf pi Fi r) (imgf pa A)))) ?_ (fun s h ms hI => ?_)
 ·refine ws_stab (n := 10) (bs := [true, true, false, false, false, false, false, false, false, false]) [true, true] fol (by kernel_rfl) (by kernel_rfl) rfl rfl (Qp rfl (ox_loadG rfl underlying42 rfl el42 rfl rfl (Seg.any hG6)) (Qp rfl (ox_loadG rfl underlying42 rfl el42 rfl rfl (Seg.any hG2)) ?_))
  unfold PZs
  simp only [List.cons_append, List.nil_append]
  refine wb_step [2, 7] (by kernel_rfl) rfl ?_
  refine wbl_cons rfl ?_ ?_
  ·refine wl_call rfl call133 rfl (image_ok p r c A av _ RA hA) rfl rfl rfl (fun x6 h6 ms6 l6 hF => ?_)
   obtain ⟨l6', Fa, pa, hEa, em, mm, rfl, rfl, hOm⟩ := hF
   refine wl_freezeL hOm fun h7 l7 hRm => ?_
   have lcur := Hp.le_trans l6 l7
   refine Qa (wb_step [3, 7] (by kernel_rfl) rfl ?_)
   refine wbl_cons rfl ?_ ?_
   ·refine wl_call rfl call98 rfl (mul_ok p r r pa.length (solf pi Fi r) (imgf pa A) ei em h7 Rin ⟨RA.pr, RA.rl, by have := hEa.red.lenc; omega, fun i hi j hj => RA.en i hi _ (by rw [pv_getD hj]; exact hEa.red.lt j hj)⟩ (hRi.up lcur) hRm) rfl rfl rfl (fun x8 h8 ms8 l8 hF => ?_)
    obtain ⟨rfl, v8, rfl, ec, mc, rfl, rfl, hOc⟩ := hF
    have oc : ec.oneCell' = true := (hOc.rd (h := h) (ms := [mc]) (List.Mem.head _)).rd.one
    refine Qa (wb_step [4, 7] (by kernel_rfl) rfl ?_)
    refine wbl_cons rfl ?_ ?_
    ·refine Qm rfl (Qa (wb_step [5, 6, 7] (by kernel_rfl) rfl ?_))
     refine wbl_cons rfl ?_ ?_
     ·refine Qx (ox_extract rfl rfl rfl) rfl (Qa (wb_step [6, 7] (by kernel_rfl) rfl ?_))
      refine wbl_cons rfl ?_ ?_
      ·refine Qx (ox_extract rfl rfl rfl) rfl (Qa (Qo 7 rfl (AlQ [.int .i64 0, .int .i64 0, .int .i64 0, .slice none 0 0] rfl el42 rfl rfl (fun g8 => Qa (Qo 8 rfl ?_)))))
       refine wl_storeAll 0 [_, _, _, _] rfl el42 rfl rfl rfl (by (simp [oc]; done)) rfl rfl rfl rfl rfl ?_
       refine Qa (Qo 9 rfl (Qm rfl (Qa (Qe ?_))))
       exact nx_meet _ ⟨Fa, pa, ec, g8, mc, rfl, lcur, rfl, hEa, hOc⟩ Qs
      refine wbl_cons rfl ?_ ?_
      ·refine AlQ [.int .i64 0, .int .i64 0, .int .i64 0, .slice none 0 0] rfl el42 rfl rfl (fun g8 => Qa (wb_step [6, 8] (by kernel_rfl) rfl ?_))
       refine wbl_cons rfl ?_ ?_
       ·refine Qx (ox_extract rfl rfl rfl) rfl (Qa (Qo 8 rfl ?_))
        refine wl_storeAll 0 [_, _, _, _] rfl el42 rfl rfl rfl (by (simp [oc]; done)) rfl rfl rfl rfl rfl ?_
        refine Qa (Qo 9 rfl (Qm rfl (Qa (Qe ?_))))
        exact nx_meet _ ⟨Fa, pa, ec, g8, mc, rfl, lcur, rfl, hEa, hOc⟩ Qs
       refine wbl_cons rfl ?_ ?_
       ·refine wl_storeAll 0 [_, _, _, _] rfl el42 rfl rfl rfl (by (simp [oc]; done)) rfl rfl rfl rfl rfl ?_
        refine Qa (Qo 6 rfl (Qx (ox_extract rfl rfl rfl) rfl (Qa (Qo 9 rfl (Qm rfl (Qa (Qe ?_)))))))
        exact nx_meet _ ⟨Fa, pa, ec, g8, mc, rfl, lcur, rfl, hEa, hOc⟩ Qs
       exact wbl_nil
      exact wbl_nil
     refine wbl_cons rfl ?_ ?_
     ·refine Qx (ox_extract rfl rfl rfl) rfl (Qa (wb_step [5, 7] (by kernel_rfl) rfl ?_))
      refine wbl_cons rfl ?_ ?_
      ·refine Qx (ox_extract rfl rfl rfl) rfl (Qa (Qo 7 rfl (AlQ [.int .i64 0, .int .i64 0, .int .i64 0, .slice none 0 0] rfl el42 rfl rfl (fun g8 => Qa (Qo 8 rfl ?_)))))
       refine wl_storeAll 0 [_, _, _, _] rfl el42 rfl rfl rfl (by (simp [oc]; done)) rfl rfl rfl rfl rfl ?_
       refine Qa (Qo 9 rfl (Qm rfl (Qa (Qe ?_))))
       exact nx_meet _ ⟨Fa, pa, ec, g8, mc, rfl, lcur, rfl, hEa, hOc⟩ Qs
      refine wbl_cons rfl ?_ ?_
      ·refine AlQ [.int .i64 0, .int .i64 0, .int .i64 0, .slice none 0 0] rfl el42 rfl rfl (fun g8 => Qa (Qo 5 rfl (Qx (ox_extract rfl rfl rfl) rfl (Qa (Qo 8 rfl ?_)))))
       refine wl_storeAll 0 [_, _, _, _] rfl el42 rfl rfl rfl (by (simp [oc]; done)) rfl rfl rfl rfl rfl ?_
       refine Qa (Qo 9 rfl (Qm rfl (Qa (Qe ?_))))
       exact nx_meet _ ⟨Fa, pa, ec, g8, mc, rfl, lcur, rfl, hEa, hOc⟩ Qs
      exact wbl_nil
     refine wbl_cons rfl ?_ ?_
     ·refine AlQ [.int .i64 0, .int .i64 0, .int .i64 0, .slice none 0 0] rfl el42 rfl rfl (fun g8 => Qa (wb_step [5, 6] (by kernel_rfl) rfl ?_))
      refine wbl_cons rfl ?_ ?_
      ·refine Qx (ox_extract rfl rfl rfl) rfl (Qa (wb_step [6, 8] (by kernel_rfl) rfl ?_))
       refine wbl_cons rfl ?_ ?_
       ·refine Qx (ox_extract rfl rfl rfl) rfl (Qa (Qo 8 rfl ?_))
        refine wl_storeAll 0 [_, _, _, _] rfl el42 rfl rfl rfl (by (simp [oc]; done)) rfl rfl rfl rfl rfl ?_
        refine Qa (Qo 9 rfl (Qm rfl (Qa (Qe ?_))))
        exact nx_meet _ ⟨Fa, pa, ec, g8, mc, rfl, lcur, rfl, hEa, hOc⟩ Qs
       refine wbl_cons rfl ?_ ?_
       ·refine wl_storeAll 0 [_, _, _, _] rfl el42 rfl rfl rfl (by (simp [oc]; done)) rfl rfl rfl rfl rfl ?_
        refine Qa (Qo 6 rfl (Qx (ox_extract rfl rfl rfl) rfl (Qa (Qo 9 rfl (Qm rfl (Qa (Qe ?_)))))))
        exact nx_meet _ ⟨Fa, pa, ec, g8, mc, rfl, lcur, rfl, hEa, hOc⟩ Qs
       exact wbl_nil
      refine wbl_cons rfl ?_ ?_
      ·refine Qx (ox_extract rfl rfl rfl) rfl (Qa (Qo 5 rfl (Qx (ox_extract rfl rfl rfl) rfl (Qa (Qo 8 rfl ?_)))))
       refine wl_storeAll 0 [_, _, _, _] rfl el42 rfl rfl rfl (by (simp [oc]; done)) rfl rfl rfl rfl rfl ?_
       refine Qa (Qo 9 rfl (Qm rfl (Qa (Qe ?_))))
       exact nx_meet _ ⟨Fa, pa, ec, g8, mc, rfl, lcur, rfl, hEa, hOc⟩ Qs
      exact wbl_nil
     exact wbl_nil
    refine wbl_cons rfl ?_ ?_
    ·refine AlQ [.int .i64 0, .int .i64 0, .int .i64 0, .slice none 0 0] rfl el42 rfl rfl (fun g8 => Qa (Qo 4 rfl (Qm rfl (Qa (wb_step [5, 6] (by kernel_rfl) rfl ?_)))))
     refine wbl_cons rfl ?_ ?_
     ·refine Qx (ox_extract rfl rfl rfl) rfl (Qa (wb_step [6, 8] (by kernel_rfl) rfl ?_))
      refine wbl_cons rfl ?_ ?_
      ·refine Qx (ox_extract rfl rfl rfl) rfl (Qa (Qo 8 rfl ?_))
       refine wl_storeAll 0 [_, _, _, _] rfl el42 rfl rfl rfl (by (simp [oc]; done)) rfl rfl rfl rfl rfl ?_
       refine Qa (Qo 9 rfl (Qm rfl (Qa (Qe ?_))))
       exact nx_meet _ ⟨Fa, pa, ec, g8, mc, rfl, lcur, rfl, hEa, hOc⟩ Qs
      refine wbl_cons rfl ?_ ?_
      ·refine wl_storeAll 0 [_, _, _, _] rfl el42 rfl rfl rfl (by (simp [oc]; done)) rfl rfl rfl rfl rfl ?_
       refine Qa (Qo 6 rfl (Qx (ox_extract rfl rfl rfl) rfl (Qa (Qo 9 rfl (Qm rfl (Qa (Qe ?_)))))))
       exact nx_meet _ ⟨Fa, pa, ec, g8, mc, rfl, lcur, rfl, hEa, hOc⟩ Qs
      exact wbl_nil
     refine wbl_cons rfl ?_ ?_
     ·refine Qx (ox_extract rfl rfl rfl) rfl (Qa (Qo 5 rfl (Qx (ox_extract rfl rfl rfl) rfl (Qa (Qo 8 rfl ?_)))))
      refine wl_storeAll 0 [_, _, _, _] rfl el42 rfl rfl rfl (by (simp [oc]; done)) rfl rfl rfl rfl rfl ?_
      refine Qa (Qo 9 rfl (Qm rfl (Qa (Qe ?_))))
      exact nx_meet _ ⟨Fa, pa, ec, g8, mc, rfl, lcur, rfl, hEa, hOc⟩ Qs
     exact wbl_nil
    exact wbl_nil
   refine wbl_cons rfl ?_ ?_
   ·refine AlQ [.int .i64 0, .int .i64 0, .int .i64 0, .slice none 0 0] rfl el42 rfl rfl (fun g8 => Qa (Qo 3 rfl ?_))
    refine wl_call rfl call98 rfl (mul_ok p r r pa.length (solf pi Fi r) (imgf pa A) ei em h7 Rin ⟨RA.pr, RA.rl, by have := hEa.red.lenc; omega, fun i hi j hj => RA.en i hi _ (by rw [pv_getD hj]; exact hEa.red.lt j hj)⟩ (hRi.up lcur) hRm) rfl rfl rfl (fun x8 h8 ms8 l8 hF => ?_)
    obtain ⟨rfl, v8, rfl, ec, mc, rfl, rfl, hOc⟩ := hF
    have oc : ec.oneCell' = true := (hOc.rd (h := h) (ms := [mc]) (List.Mem.head _)).rd.one
    refine Qa (Qo 4 rfl (Qm rfl (Qa (wb_step [5, 6] (by kernel_rfl) rfl ?_))))
    refine wbl_cons rfl ?_ ?_
    ·refine Qx (ox_extract rfl rfl rfl) rfl (Qa (wb_step [6, 8] (by kernel_rfl) rfl ?_))
     refine wbl_cons rfl ?_ ?_
     ·refine Qx (ox_extract rfl rfl rfl) rfl (Qa (Qo 8 rfl ?_))
      refine wl_storeAll 1 [_, _, _, _] rfl el42 rfl rfl rfl (by (simp [oc]; done)) rfl rfl rfl rfl rfl ?_
      refine Qa (Qo 9 rfl (Qm rfl (Qa (Qe ?_))))
      exact nx_swap (nx_meet _ ⟨Fa, pa, ec, g8, mc, rfl, lcur, rfl, hEa, hOc⟩ Qs)
     refine wbl_cons rfl ?_ ?_
     ·refine wl_storeAll 1 [_, _, _, _] rfl el42 rfl rfl rfl (by (simp [oc]; done)) rfl rfl rfl rfl rfl ?_
      refine Qa (Qo 6 rfl (Qx (ox_extract rfl rfl rfl) rfl (Qa (Qo 9 rfl (Qm rfl (Qa (Qe ?_)))))))
      exact nx_swap (nx_meet _ ⟨Fa, pa, ec, g8, mc, rfl, lcur, rfl, hEa, hOc⟩ Qs)
     exact wbl_nil
    refine wbl_cons rfl ?_ ?_
    ·refine Qx (ox_extract rfl rfl rfl) rfl (Qa (Qo 5 rfl (Qx (ox_extract rfl rfl rfl) rfl (Qa (Qo 8 rfl ?_)))))
     refine wl_storeAll 1 [_, _, _, _] rfl el42 rfl rfl rfl (by (simp [oc]; done)) rfl rfl rfl rfl rfl ?_
     refine Qa (Qo 9 rfl (Qm rfl (Qa (Qe ?_))))
     exact nx_swap (nx_meet _ ⟨Fa, pa, ec, g8, mc, rfl, lcur, rfl, hEa, hOc⟩ Qs)
    exact wbl_nil
   exact wbl_nil
  refine wbl_cons rfl ?_ ?_
  ·refine AlQ [.int .i64 0, .int .i64 0, .int .i64 0, .slice none 0 0] rfl el42 rfl rfl (fun g8 => Qw (Qo 2 rfl (wl_call rfl call133 rfl (image_ok p r c A av _ RA hA) rfl rfl rfl (fun x6 h6 ms6 l6 hF => ?_))))
   obtain ⟨l6', Fa, pa, hEa, em, mm, rfl, rfl, hOm⟩ := hF
   refine wl_freezeL hOm fun h7 l7 hRm => ?_
   have lcur := Hp.le_trans l6 l7
   refine Qa (Qo 3 rfl ?_)
   refine wl_call rfl call98 rfl (mul_ok p r r pa.length (solf pi Fi r) (imgf pa A) ei em h7 Rin ⟨RA.pr, RA.rl, by have := hEa.red.lenc; omega, fun i hi j hj => RA.en i hi _ (by rw [pv_getD hj]; exact hEa.red.lt j hj)⟩ (hRi.up lcur) hRm) rfl rfl rfl (fun x8 h8 ms8 l8 hF => ?_)
   obtain ⟨rfl, v8, rfl, ec, mc, rfl, rfl, hOc⟩ := hF
   have oc : ec.oneCell' = true := (hOc.rd (h := h) (ms := [mc]) (List.Mem.head _)).rd.one
   refine Qa (Qo 4 rfl (Qm rfl (Qa (wb_step [5, 6] (by kernel_rfl) rfl ?_))))
   refine wbl_cons rfl ?_ ?_
   ·refine Qx (ox_extract rfl rfl rfl) rfl (Qa (wb_step [6, 8] (by kernel_rfl) rfl ?_))
    refine wbl_cons rfl ?_ ?_
    ·refine Qx (ox_extract rfl rfl rfl) rfl (Qa (Qo 8 rfl ?_))
     refine wl_storeAll 1 [_, _, _, _] rfl el42 rfl rfl rfl (by (simp [oc]; done)) rfl rfl rfl rfl rfl ?_
     refine Qa (Qo 9 rfl (Qm rfl (Qa (Qe ?_))))
     exact nx_swap (nx_meet _ ⟨Fa, pa, ec, g8, mc, rfl, lcur, rfl, hEa, hOc⟩ Qs)
    refine wbl_cons rfl ?_ ?_
    ·refine wl_storeAll 1 [_, _, _, _] rfl el42 rfl rfl rfl (by (simp [oc]; done)) rfl rfl rfl rfl rfl ?_
     refine Qa (Qo 6 rfl (Qx (ox_extract rfl rfl rfl) rfl (Qa (Qo 9 rfl (Qm rfl (Qa (Qe ?_)))))))
     exact nx_swap (nx_meet _ ⟨Fa, pa, ec, g8, mc, rfl, lcur, rfl, hEa, hOc⟩ Qs)
    exact wbl_nil
   refine wbl_cons rfl ?_ ?_
   ·refine Qx (ox_extract rfl rfl rfl) rfl (Qa (Qo 5 rfl (Qx (ox_extract rfl rfl rfl) rfl (Qa (Qo 8 rfl ?_)))))
    refine wl_storeAll 1 [_, _, _, _] rfl el42 rfl rfl rfl (by (simp [oc]; done)) rfl rfl rfl rfl rfl ?_
    refine Qa (Qo 9 rfl (Qm rfl (Qa (Qe ?_))))
    exact nx_swap (nx_meet _ ⟨Fa, pa, ec, g8, mc, rfl, lcur, rfl, hEa, hOc⟩ Qs)
   exact wbl_nil
  exact wbl_nil
 ·obtain ⟨Fa, pa, ec, g8, mc, rfl, l6, rfl, hEa, hOc⟩ := hI
  have hql := hEa.red.lenc
  have hLead := fun T pt RT => lead_ok (T := T) (pt := pt) hb.1 Fp hI hEi.red hEa.red RT
  have hrank : ∀ F pv, Ech p r c A F pv → pv.length = pa.length := fun F pv hE => rank_uniq Fp hE.red hEa.red
  have RC : RtM p r pa.length (mulf p r (solf pi Fi r) (imgf pa A)) := ⟨RA.pr, RA.rl, by omega, fun i hi j hj => ⟨Int.emod_nonneg _ (by omega), Int.emod_lt_of_pos _ (by omega)⟩⟩
  generalize mulf p r (solf pi Fi r) (imgf pa A) = C at *
  generalize hq : pa.length = q at *
  have hqr : q * r ≤ 200 * 200 := Nat.mul_le_mul (by omega) hr
  refine ws_top 1 rfl (ws_freezeL hOc fun h7 l7 hRc => (ws_freezeB fun h8 l8 hG8 => ?_))
  have hRc := hRc.up l8
  have l58 := Hp.le_trans l6 (Hp.le_trans l7 l8)
  have hA := hA.up l58
  have hL := hL.up l58
  have hG2 := hG2.le l58
  have hG3 := hG3.le l58
  have l08 := Hp.le_trans l05 l58
  have oc := hRc.rd.one
  have hA2 := Seg.all hG2
  have hA3 := Seg.all hG3
  have hA8 := Seg.all hG8
  clear l6 l7 l8 l58 l05
  refine RsQ (Qx (ox_fieldF fd42_1 rfl rfl) rfl (Qx (ox_load rfl underlying3 rfl rfl (hA8 1 _ rfl _)) rfl (Qm rfl (RnQ ?_))))
  refine ws_cut (fun s hh ms' => ∃ (g11 g41 : Nat), s = [(2, .pointer (some ⟨g2, 0, none⟩)), (3, .pointer (some ⟨g3, 0, none⟩)), (4, .slice none 0 0), (5, .slice none 0 0), (8, .pointer (some ⟨g8, 0, none⟩)), (10, .int .i64 r), (11, .pointer (some ⟨g11, 0, none⟩))] ∧ h8 = hh ∧ ms' = [Blk g11 42 [.int .i64 p, .int .i64 q, .int .i64 r, .slice (some ⟨g41, 0, none⟩) (q * r : Nat) (q * r : Nat)], Blk g41 3 (List.replicate (q * r) (.int .i64 0))]) ?_ (fun s h ms hI => ?_)
  ·have em : ((r : Int) * q) = ((q * r : Nat) : Int) := by rw [Nat.mul_comm]; simp
   refine ws_stab (n := 13) (bs := [true, true, true, true, true, true, true, true, true, false, false, false, false]) [true, true, true, true, true, true, true, true, true] fol (by kernel_rfl) (by kernel_rfl) rfl rfl (Qp rfl (ox_fieldF fd42_0 rfl rfl) (Qp rfl (ox_load rfl underlying3 rfl rfl (hA2 0 _ rfl _)) (Qp rfl (ox_fieldF fd42_2 rfl rfl) (Qp rfl (ox_load rfl underlying3 rfl rfl (hA8 2 _ rfl _)) (Qp rfl (ox_move rfl rfl) (Qp rfl (ox_move rfl rfl) (Qp rfl (ox_fieldF fd42_2 rfl rfl) (Qp rfl (ox_load rfl underlying3 rfl rfl (hA8 2 _ rfl _)) (Qp rfl (ox_mul rfl rfl rfl (by omega)) ?_)))))))))
   unfold PZs
   simp only [List.cons_append, List.nil_append]
   refine wb_step [9, 11] (by kernel_rfl) rfl ?_
   refine wbl_cons rfl ?_ ?_
   ·refine wl_make (n := (q * r)) rfl underlying24 el3 rfl rfl rfl (by omega) (by omega) (by omega) (by omega) rfl rfl rfl (fun g41 => Qw (wb_step [10, 11] (by kernel_rfl) rfl ?_))
    refine wbl_cons rfl ?_ ?_
    ·refine Qx (ox_buildS st42 [.int .i64 0, .int .i64 0, .int .i64 0, .slice none 0 0] [(0, _), (1, _), (2, _), (3, _)] [_, _, _, _] rfl el42 rfl rfl (by repeat (first | exact trivial | refine ⟨⟨rfl, rfl, rfl⟩, ?_⟩)) rfl) rfl ?_
     refine Qw (Qo 11 rfl (AlQ [.int .i64 0, .int .i64 0, .int .i64 0, .slice none 0 0] rfl el42 rfl rfl (fun g11 => Qw (Qo 12 rfl ?_))))
     refine wl_storeAll 0 [_, _, _, _] rfl el42 rfl rfl rfl (by (simp [Value.oneCell']; done)) rfl rfl rfl rfl rfl ?_
     refine Qw (Qe ?_)
     exact nx_meet _ ⟨g11, g41, rfl, rfl, rfl⟩ Qs
    refine wbl_cons rfl ?_ ?_
    ·refine AlQ [.int .i64 0, .int .i64 0, .int .i64 0, .slice none 0 0] rfl el42 rfl rfl (fun g11 => Qw (Qo 10 rfl ?_))
     refine Qx (ox_buildS st42 [.int .i64 0, .int .i64 0, .int .i64 0, .slice none 0 0] [(0, _), (1, _), (2, _), (3, _)] [_, _, _, _] rfl el42 rfl rfl (by repeat (first | exact trivial | refine ⟨⟨rfl, rfl, rfl⟩, ?_⟩)) rfl) rfl ?_
     refine Qw (Qo 12 rfl ?_)
     refine wl_storeAll 0 [_, _, _, _] rfl el42 rfl rfl rfl (by (simp [Value.oneCell']; done)) rfl rfl rfl rfl rfl ?_
     refine Qw (Qe ?_)
     exact nx_meet _ ⟨g11, g41, rfl, rfl, rfl⟩ Qs
    exact wbl_nil
   refine wbl_cons rfl ?_ ?_
   ·refine AlQ [.int .i64 0, .int .i64 0, .int .i64 0, .slice none 0 0] rfl el42 rfl rfl (fun g11 => Qw (Qo 9 rfl (wl_make (n := (q * r)) rfl underlying24 el3 rfl rfl rfl (by omega) (by omega) (by omega) (by omega) rfl rfl rfl (fun g41 => Qw (Qo 10 rfl ?_)))))
    refine Qx (ox_buildS st42 [.int .i64 0, .int .i64 0, .int .i64 0, .slice none 0 0] [(0, _), (1, _), (2, _), (3, _)] [_, _, _, _] rfl el42 rfl rfl (by repeat (first | exact trivial | refine ⟨⟨rfl, rfl, rfl⟩, ?_⟩)) rfl) rfl ?_
    refine Qw (Qo 12 rfl ?_)
    refine wl_storeAll 1 [_, _, _, _] rfl el42 rfl rfl rfl (by (simp [Value.oneCell']; done)) rfl rfl rfl rfl rfl ?_
    refine Qw (Qe ?_)
    exact nx_swap (nx_meet _ ⟨g11, g41, rfl, rfl, rfl⟩ Qs)
   exact wbl_nil
  ·obtain ⟨g11, g41, rfl, rfl, rfl⟩ := hI
   have hO0 := OwnL.rep (g := g41) (el := 3) (q * r) 0 (by omega)
   rw [mat_rep] at hO0
   refine ws_cut (fun s hh ms' => ∃ (m : Hp), s = [(2, .pointer (some ⟨g2, 0, none⟩)), (3, .pointer (some ⟨g3, 0, none⟩)), (4, .slice none 0 0), (5, .slice none 0 0), (10, .int .i64 r), (11, .pointer (some ⟨g11, 0, none⟩))] ∧ h8 = hh ∧ ms' = [Blk g11 42 [.int .i64 p, .int .i64 q, .int .i64 r, .slice (some ⟨g41, 0, none⟩) (q * r : Nat) (q * r : Nat)], m] ∧ OwnL cI 1 3 m (.slice (some ⟨g41, 0, none⟩) (q * r : Nat) (q * r : Nat)) (mat q r (trn r C))) ?_ (fun s h ms hI => ?_)
   ·refine ws_seq (ws_region (Qx (ox_fieldF fd42_2 rfl rfl) rfl (Qx (ox_load rfl underlying3 rfl rfl (hA8 2 _ rfl _)) rfl (Qm rfl (RnQ (ws_block ?_))))))
    refine ws_loop (fun n s hh ms' => ∃ (k : Nat) (m : Hp), n = q - k ∧ s = [(2, .pointer (some ⟨g2, 0, none⟩)), (3, .pointer (some ⟨g3, 0, none⟩)), (4, .slice none 0 0), (5, .slice none 0 0), (8, .pointer (some ⟨g8, 0, none⟩)), (10, .int .i64 r), (11, .pointer (some ⟨g11, 0, none⟩)), (44, .int .i64 q), (45, .int .i64 k)] ∧ h8 = hh ∧ ms' = [Blk g11 42 [.int .i64 p, .int .i64 q, .int .i64 r, .slice (some ⟨g41, 0, none⟩) (q * r : Nat) (q * r : Nat)], m] ∧ k ≤ q ∧ OwnL cI 1 3 m (.slice (some ⟨g41, 0, none⟩) (q * r : Nat) (q * r : Nat)) (mat q r (trnp r C k 0)))
     (q - 0) _ ⟨0, _, rfl, rfl, rfl, rfl, by omega, by rw [mat_congr (fun a _ b _ => trnp_zero r C a b)]; exact hO0⟩ Qs ?_
    rintro n s hh ms' ⟨k, m, rfl, rfl, rfl, rfl, hk, hO⟩
    refine RsQ (Qx (ox_lss rfl rfl rfl) rfl (RnQ (ws_seq ?_)))
    refine ws_if rfl (fun hlt => ?_) (fun hlt => ?_)
    ·have hkq : k < q := nat_lt_of hlt
     refine ws_skip (nx_then (ws_seq (ws_block (RsQ (Qm rfl (Qm rfl (RtQ (Qm rfl (Qm rfl (RnQ (ws_block ?_)))))))))))
     refine ws_loop (fun n s hh ms' => ∃ (i : Nat) (m : Hp), n = r - i ∧ s = [(2, .pointer (some ⟨g2, 0, none⟩)), (3, .pointer (some ⟨g3, 0, none⟩)), (4, .slice none 0 0), (5, .slice none 0 0), (8, .pointer (some ⟨g8, 0, none⟩)), (10, .int .i64 r), (11, .pointer (some ⟨g11, 0, none⟩)), (12, .int .i64 k), (44, .int .i64 q), (45, .int .i64 k), (48, .int .i64 r), (49, .int .i64 i)] ∧ h8 = hh ∧ ms' = [Blk g11 42 [.int .i64 p, .int .i64 q, .int .i64 r, .slice (some ⟨g41, 0, none⟩) (q * r : Nat) (q * r : Nat)], m] ∧ i ≤ r ∧ OwnL cI 1 3 m (.slice (some ⟨g41, 0, none⟩) (q * r : Nat) (q * r : Nat)) (mat q r (trnp r C k i)))
      (r - 0) _ ⟨0, m, rfl, rfl, rfl, rfl, by omega, hO⟩ Qs ?_
     rintro n s hh ms' ⟨i, m, rfl, rfl, rfl, rfl, hi, hO⟩
     refine RsQ (Qx (ox_lss rfl rfl rfl) rfl (RnQ (ws_seq ?_)))
     refine ws_if rfl (fun hlti => ?_) (fun hlti => ?_)
     ·have hir : i < r := nat_lt_of hlti
      have hrr : r - 1 - i < r := by omega
      have hix := ix_lt hkq hrr
      have hix2 := ix_lt hir hkq
      have hrq : r * q ≤ 200 * 200 := Nat.mul_le_mul hr (by omega)
      have el1 : (mat q r (trnp r C k i)).length = q * r := mat_len _ _ _
      have el2 : (mat r q C).length = r * q := mat_len _ _ _
      have elc : (mkM p r q C).e.length = r * q := mat_len _ _ _
      have cC : ∀ ms, Cell h8 ms ((vbase ec).add ((i * q + k) * 1)) (.int .i64 (C i k)) := fun ms => (hRc.any (ms := ms)).ent hir hkq
      refine ws_skip (nx_then (ws_seq (ws_block (RsQ (Qm rfl (Qm rfl (RnQ (ws_stab (n := 22) (bs := [true, false, true, true, true, true, true, true, true, true, true, true, true, true, true, true, true, true, true, true, false, false]) [true, false, true, true, true, true, true, true, true, true, true, true, true, true, true, true, true, true, true, true] fol (by kernel_rfl) (by kernel_rfl) rfl rfl (Qp rfl (ox_fieldF fd42_3 rfl rfl) (Qp rfl (ox_move rfl rfl) (Qp rfl (ox_move rfl rfl) (Qp rfl (ox_mul rfl rfl rfl (by omega)) (Qp rfl (ox_move rfl rfl) (Qp rfl (ox_add rfl rfl rfl (by omega)) (Qp rfl (ox_sub rfl rfl rfl (by omega)) (Qp rfl (ox_move rfl rfl) (Qp rfl (ox_sub rfl rfl rfl (by omega)) (Qp rfl (ox_fieldF fd42_3 rfl rfl) (Qp rfl (ox_load rfl underlying24 rfl rfl (hA8 3 _ rfl _)) (Qp rfl (ox_move rfl rfl) (Qp rfl (ox_fieldF fd42_2 rfl rfl) (Qp rfl (ox_load rfl underlying3 rfl rfl (hA8 2 _ rfl _)) (Qp rfl (ox_mul rfl rfl rfl (by omega)) (Qp rfl (ox_move rfl rfl) (Qp rfl (ox_add rfl rfl rfl (by omega)) (Qp rfl (ox_indexR (i * q + k) hRc.rd.any rfl underlying24 el3 rfl rfl (by omega) (by omega)) (Qp rfl (ox_load rfl underlying3 rfl rfl (cC _)) ?_)))))))))))))))))))))))))))
      unfold PZs
      simp only [List.cons_append, List.nil_append]
      refine Qo 1 rfl (Qx (ox_load rfl underlying24 rfl rfl (Cell.blk 0 (k := 3) rfl rfl)) rfl (Qw (Qo 20 rfl (Qx (ox_index (k * r + (r - 1 - i)) rfl underlying24 el3 rfl rfl (by omega) (by omega)) rfl (Qw (Qo 21 rfl (wl_storeN 1 (k * r + (r - 1 - i)) hO rfl el3 rfl rfl rfl (by omega) rfl rfl (fun m' hO' => Qw (Qe (nx_block (nx_then (ws_region (Qx (ox_add rfl rfl rfl (by omega)) rfl (Qm rfl (wl_nil ?_)))))))))))))))
      refine nx_round (r - (i + 1)) _ (by omega) ⟨i + 1, m', rfl, rfl, rfl, rfl, by omega, ?_⟩ Qs
      rw [mat_set _ hrr, mat_congr (fun a _ b hb => trnp_step C hir hb)] at hO'
      exact hO'
     ·obtain rfl : i = r := by omega
      refine ws_exit (nx_then_exit (nx_then_exit (nx_block_exit (nx_block (nx_then (ws_region (Qx (ox_add rfl rfl rfl (by omega)) rfl (Qm rfl (wl_nil ?_)))))))))
      refine nx_round (q - (k + 1)) _ (by omega) ⟨k + 1, m, rfl, rfl, rfl, rfl, by omega, ?_⟩ Qs
      rw [mat_congr (fun a _ b hb => trnp_row C hb)] at hO
      exact hO
    ·obtain rfl : k = q := by omega
     refine ws_exit (nx_then_exit (nx_then_exit (nx_block_exit ?_)))
     rw [mat_congr (fun a ha b _ => trnp_all C ha)] at hO
     exact nx_meet _ ⟨m, rfl, rfl, rfl, hO⟩ Qs
   ·obtain ⟨m, rfl, rfl, rfl, hO⟩ := hI
    refine ws_top 1 rfl (ws_freezeL hO fun h9 l9 hR9 => ?_)
    have o9 := hR9.rd.one
    have Rt : RtM p q r (trn r C) := ⟨RA.pr, by omega, by omega, fun a ha b hb => RC.en (r - 1 - b) (by omega) a ha⟩
    refine RsQ (Qx (ox_loadG rfl underlying42 rfl el42 rfl rfl (Seg.blk 0 rfl)) rfl (wl_call rfl call120 rfl (echelon_ok p q r (trn r C) _ h9 Rt hR9) rfl rfl rfl (fun x10 h10 ms10 l10 hF => ?_)))
    obtain ⟨l10', T, pt, eu, vp, m, m2, rfl, rfl, hOT, hOp, hE⟩ := hF
    have ou : eu.oneCell' = true := (hOT.rd (h := h) (ms := [m]) (List.Mem.head _)).rd.one
    refine Qm rfl (Qx (ox_extract rfl rfl rfl) rfl (Qx (ox_extract rfl rfl rfl) rfl ?_))
    refine wl_storeAll 2 [_, _, _, _] rfl el42 rfl rfl rfl (by (simp [ou]; done)) rfl rfl rfl rfl rfl ?_
    refine RnQ (ws_freezeL hOT fun h11 l11 hRT => (ws_dropAt 0 rfl (ws_freezeB fun h12 l12 hG11 => ?_)))
    have hRT := hRT.up l12
    have l812 := Hp.le_trans l9 (Hp.le_trans l10 (Hp.le_trans l11 l12))
    have hA := hA.up l812
    have hL := hL.up l812
    have hG2 := hG2.le l812
    have hG3 := hG3.le l812
    have l012 := Hp.le_trans l08 l812
    obtain ⟨⟨top, htop⟩, hlift⟩ := hLead T pt hE.red
    have hTb : ∀ t, t < q → ∀ i, i < r → 0 ≤ T t (r - 1 - i) ∧ T t (r - 1 - i) < p := fun t ht i hi => hE.red.bd t ht _ (by omega)
    clear hO hOT hOp l9 l10 l10' l11 l12 l812 l08
    refine ws_emp (ws_emp ?_)
    have hA11 := Seg.all hG11
    refine ws_seq (RsQ (Qx (ox_fieldF fd42_1 rfl rfl) rfl (Qx (ox_load rfl underlying3 rfl rfl (hA11 1 _ rfl _)) rfl (Qm rfl (RnQ (ws_block ?_))))))
    refine ws_loop (fun n s hh ms' => ∃ (t : Nat) (U : Nat → Nat → Int) (esc esl : List Value) (vc vl : Value) (mc ml : Hp), n = q - t ∧ s = [(2, .pointer (some ⟨g2, 0, none⟩)), (3, .pointer (some ⟨g3, 0, none⟩)), (4, vc), (5, vl), (10, .int .i64 r), (11, .pointer (some ⟨g11, 0, none⟩)), (81, .int .i64 q), (82, .int .i64 t)] ∧ h12.le hh ∧ ms' = [mc, ml] ∧ t ≤ q ∧ OwnL cV 1 24 mc vc esc ∧ OwnL cV 1 24 ml vl esl ∧ ImV hh r t esc (fun t i => T t (r - 1 - i)) ∧ ImV hh c t esl U ∧ (∀ t', t' < t → ∀ i, i < c → 0 ≤ U t' i ∧ U t' i < p) ∧ ∀ t', t' < t → ∀ i, i < r → Cg p (ap A c (U t') i) (ap L r (fun i => T t' (r - 1 - i)) i))
     (q - 0) _ ⟨0, fun _ _ => 0, [], [], _, _, _, _, rfl, rfl, Hp.le_refl _, rfl, by omega, OwnL.nil cV_len, OwnL.nil cV_len, ⟨rfl, fun t ht => by simp at ht⟩, ⟨rfl, fun t ht => by simp at ht⟩, fun t ht => by omega, fun t ht => by omega⟩ Qs ?_
    rintro n s hh ms' ⟨t, U, esc, esl, vc, vl, mc, ml, rfl, rfl, lh, rfl, ht, hVc, hOl, hIc, hIl, hUb, hUl⟩
    have hA := hA.up lh
    have hL := hL.up lh
    have hG2 := hG2.le lh
    have hG3 := hG3.le lh
    have hRT := hRT.up lh
    have hG11 := hG11.le lh
    have hA11 := Seg.all hG11
    refine RsQ (Qx (ox_lss rfl rfl rfl) rfl (RnQ (ws_seq ?_)))
    refine ws_if rfl (fun hlt => ?_) (fun hlt => ?_)
    ·have htq : t < q := nat_lt_of hlt
     have htr : (t + 1) * r ≤ q * r := Nat.mul_le_mul_right r (by omega)
     have htr2 : t * r ≤ (t + 1) * r := Nat.mul_le_mul_right r (by omega)
     have elT : (mat q r T).length = q * r := mat_len _ _ _
     have etr : ((t : Int) + 1) * r = ((t + 1 : Nat) : Int) * r := rfl
     have elv := vec_len r (T t)
     refine ws_skip (nx_then (ws_seq (ws_block (RsQ (Qm rfl (Qm rfl (RtQ (Qx (ox_fieldF fd42_3 rfl rfl) rfl (Qx (ox_load rfl underlying24 rfl rfl (hA11 3 _ rfl _)) rfl (Qm rfl (Qm rfl (Qx (ox_mul rfl rfl rfl (by omega)) rfl (Qm rfl (Qx (ox_add rfl rfl rfl (by omega)) rfl (Qm rfl (Qx (ox_mul rfl rfl rfl (by omega)) rfl (Qx (ox_sliceR_lh (t * r) ((t + 1) * r) hRT.rd.any rfl underlying24 el3 rfl rfl rfl (by omega) (by omega) (by omega) (by omega)) rfl (wl_call rfl call51 rfl (clone_ok (vec r (T t)) _ hh (hRT.row htq) (by omega)) rfl rfl rfl (fun x h13 ms13 l13 hF => ?_)))))))))))))))))))
     obtain ⟨rfl, mx, rfl, hOx⟩ := hF
     refine Qm rfl (RtQ (Qm rfl (wl_call_ (pre := [mx]) rfl call52 rfl (reverse_ok r (T t) x mx hh (by omega) hOx) rfl rfl rfl rfl (fun x2 h14 ms14 l14 hF => ?_))))
     obtain ⟨rfl, mx, rfl, hOx⟩ := hF
     refine RnQ (ws_freezeL hOx fun h15 l15 hRx => ?_)
     have ox := hRx.rd.one
     have hA := hA.up l15
     have hL := hL.up l15
     have hG2 := hG2.le l15
     have hG3 := hG3.le l15
     have hA2 := Seg.all hG2
     have hXb := hTb t htq
     refine ws_cut (fun s hh ms' => ∃ (F : Nat → Nat → Int) (pv : List Nat) (g16 : Nat) (xe : Value) (mx : Hp), s = [(2, .pointer (some ⟨g2, 0, none⟩)), (3, .pointer (some ⟨g3, 0, none⟩)), (4, vc), (5, vl), (10, .int .i64 r), (11, .pointer (some ⟨g11, 0, none⟩)), (15, x), (16, .pointer (some ⟨g16, 0, none⟩)), (81, .int .i64 q), (82, .int .i64 t)] ∧ h15.le hh ∧ ms' = [Blk g16 42 [.int .i64 p, .int .i64 c, .int .i64 1, xe], mx, mc, ml] ∧ OwnL cI 1 3 mx xe (mat c 1 (solf pv F c)) ∧ (∀ i, i < c → 0 ≤ solf pv F c i 0 ∧ solf pv F c i 0 < p) ∧ ∀ i, i < r → Cg p (ap A c (fun a => solf pv F c a 0) i) (ap L r (fun i => T t (r - 1 - i)) i)) ?_ (fun s h ms hI => ?_)
     ·have yr : RtM p r 1 (fun a _ => apf p r L (fun i => T t (r - 1 - i)) a) := ⟨RA.pr, RA.rl, by omega, fun a ha b hb => ⟨Int.emod_nonneg _ (by omega), Int.emod_lt_of_pos _ (by omega)⟩⟩
      have hfin : ∀ F pv Mx b, Ech p r (c + 1) (jn c A fun a _ => apf p r L (fun i => T t (r - 1 - i)) a) F pv → (((∀ j (hj : j < pv.length), pv[j] < c) ∧ b = true ∧ Mx = mkM p c 1 (solf pv F c)) ∨ (¬ (∀ j (hj : j < pv.length), pv[j] < c) ∧ b = false)) → b = true ∧ Mx = mkM p c 1 (solf pv F c) ∧ (∀ i, i < c → 0 ≤ solf pv F c i 0 ∧ solf pv F c i 0 < p) ∧ ∀ i, i < r → Cg p (ap A c (fun a => solf pv F c a 0) i) (ap L r (fun i => T t (r - 1 - i)) i) := fun F pv Mx b hE2 hcase => by
       rcases hcase with ⟨hyes, e1, e2⟩ | ⟨hno, e1⟩
       ·refine ⟨e1, e2, fun i hi => ?_, fun i hi => ?_⟩
        ·unfold solf solp
         split
         ·exact hE2.red.bd _ (by have := hE2.red.len; omega) _ (by omega)
         ·omega
        ·have h1 := solve_sol hE2.red hyes (s := 0) (by omega) hi
         refine h1.trans ?_
         exact Cg.mod _ _
       ·exfalso
        obtain ⟨y, hy⟩ := hlift t htq
        refine solve_no hb.1 hE2.red hno y fun i hi => (hy i hi).trans ?_
        exact (Cg.mod _ _).symm
      refine ws_stab (n := 17) (bs := [true, true, true, true, true, true, true, false, false, false, false, false, false, false, false, false, false]) [true, true, true, true, true, true, true] fol (by kernel_rfl) (by kernel_rfl) rfl rfl (Qp rfl (ox_loadG rfl underlying42 rfl el42 rfl rfl (Seg.any hG2)) (Qp rfl (ox_fieldF fd42_0 rfl rfl) (Qp rfl (ox_load rfl underlying3 rfl rfl (hA2 0 _ rfl _)) (Qp rfl (ox_fieldF fd42_1 rfl rfl) (Qp rfl (ox_load rfl underlying3 rfl rfl (hA2 1 _ rfl _)) (Qp rfl (ox_loadG rfl underlying42 rfl el42 rfl rfl (Seg.any hG3)) (Qp rfl (ox_move rfl rfl) ?_)))))))
      unfold PZs
      simp only [List.cons_append, List.nil_append]
      refine wb_step [7, 14] (by kernel_rfl) rfl ?_
      refine wbl_cons rfl ?_ ?_
      ·refine wl_call rfl call67 rfl (apply_ok p r r L (fun i => T t (r - 1 - i)) lv x _ RL hXb (hL.up (Hp.le_refl _)) (hRx.up (Hp.le_refl _))) rfl rfl rfl (fun y h16 ms16 l16 hF => ?_)
       obtain ⟨l16', my, rfl, hOy⟩ := hF
       refine wl_freezeL hOy fun h17 l17 hRy => ?_
       have lcur := Hp.le_trans l16 l17
       refine Qa (wb_step [8, 14] (by kernel_rfl) rfl ?_)
       refine wbl_cons rfl ?_ ?_
       ·refine wl_buildSlice1 [_] rfl underlying62 el24 rfl (hRy.rd.cells) rfl rfl (by omega) rfl rfl rfl (fun g107 => wl_freezeB fun h18 l18 hSg => ?_)
        have lcur := Hp.le_trans lcur l18
        refine Qa (wb_step [9, 14] (by kernel_rfl) rfl ?_)
        refine wbl_cons rfl ?_ ?_
        ·refine wl_call rfl call97 rfl (columns_ok p r 1 (fun _ => apf p r L (fun i => T t (r - 1 - i))) _ h18 RA.i64 RA.rl (by omega) (sgl hSg (hRy.up l18))) rfl rfl rfl (fun x9 h19 ms19 l19 hF => ?_)
         obtain ⟨rfl, ed, md, rfl, rfl, hOd⟩ := hF
         refine wl_freezeL hOd fun h20 l20 hRd => ?_
         have lcur := Hp.le_trans lcur l20
         refine Qa (wb_step [10, 14] (by kernel_rfl) rfl ?_)
         refine wbl_cons rfl ?_ ?_
         ·refine wl_call rfl call115 rfl (solve_one p r c A (fun a _ => apf p r L (fun i => T t (r - 1 - i)) a) av ed h20 RA yr (hA.up lcur) hRd) rfl rfl rfl (fun x11 h21 ms21 l21 hF => ?_)
          obtain ⟨l21', F, pv, Mx, b, xe, mx, hE2, rfl, rfl, hOx2, hcase⟩ := hF
          obtain ⟨rfl, rfl, hub, hul⟩ := hfin F pv Mx b hE2 hcase
          have lcur := Hp.le_trans lcur l21
          have oxe : xe.oneCell' = true := (hOx2.rd (h := h) (ms := [mx]) (List.Mem.head _)).rd.one
          refine Qa (wb_step [11, 14] (by kernel_rfl) rfl ?_)
          refine wbl_cons rfl ?_ ?_
          ·refine Qm rfl (Qa (wb_step [12, 13, 14] (by kernel_rfl) rfl ?_))
           refine wbl_cons rfl ?_ ?_
           ·refine Qx (ox_extract rfl rfl rfl) rfl (Qa (wb_step [13, 14] (by kernel_rfl) rfl ?_))
            refine wbl_cons rfl ?_ ?_
            ·refine Qx (ox_extract rfl rfl rfl) rfl (Qa (Qo 14 rfl (AlQ [.int .i64 0, .int .i64 0, .int .i64 0, .slice none 0 0] rfl el42 rfl rfl (fun g16 => Qa (Qo 15 rfl ?_)))))
             refine wl_storeAll 0 [_, _, _, _] rfl el42 rfl rfl rfl (by (simp [oxe]; done)) rfl rfl rfl rfl rfl ?_
             refine Qa (Qo 16 rfl (Qm rfl (Qa (Qe ?_))))
             exact nx_meet _ ⟨F, pv, g16, xe, mx, rfl, lcur, rfl, hOx2, hub, hul⟩ Qs
            refine wbl_cons rfl ?_ ?_
            ·refine AlQ [.int .i64 0, .int .i64 0, .int .i64 0, .slice none 0 0] rfl el42 rfl rfl (fun g16 => Qa (wb_step [13, 15] (by kernel_rfl) rfl ?_))
             refine wbl_cons rfl ?_ ?_
             ·refine Qx (ox_extract rfl rfl rfl) rfl (Qa (Qo 15 rfl ?_))
              refine wl_storeAll 0 [_, _, _, _] rfl el42 rfl rfl rfl (by (simp [oxe]; done)) rfl rfl rfl rfl rfl ?_
              refine Qa (Qo 16 rfl (Qm rfl (Qa (Qe ?_))))
              exact nx_meet _ ⟨F, pv, g16, xe, mx, rfl, lcur, rfl, hOx2, hub, hul⟩ Qs
             refine wbl_cons rfl ?_ ?_
             ·refine wl_storeAll 0 [_, _, _, _] rfl el42 rfl rfl rfl (by (simp [oxe]; done)) rfl rfl rfl rfl rfl ?_
              refine Qa (Qo 13 rfl (Qx (ox_extract rfl rfl rfl) rfl (Qa (Qo 16 rfl (Qm rfl (Qa (Qe ?_)))))))
              exact nx_meet _ ⟨F, pv, g16, xe, mx, rfl, lcur, rfl, hOx2, hub, hul⟩ Qs
             exact wbl_nil
            exact wbl_nil
           refine wbl_cons rfl ?_ ?_
           ·refine Qx (ox_extract rfl rfl rfl) rfl (Qa (wb_step [12, 14] (by kernel_rfl) rfl ?_))
            refine wbl_cons rfl ?_ ?_
            ·refine Qx (ox_extract rfl rfl rfl) rfl (Qa (Qo 14 rfl (AlQ [.int .i64 0, .int .i64 0, .int .i64 0, .slice none 0 0] rfl el42 rfl rfl (fun g16 => Qa (Qo 15 rfl ?_)))))
             refine wl_storeAll 0 [_, _, _, _] rfl el42 rfl rfl rfl (by (simp [oxe]; done)) rfl rfl rfl rfl rfl ?_
             refine Qa (Qo 16 rfl (Qm rfl (Qa (Qe ?_))))
             exact nx_meet _ ⟨F, pv, g16, xe, mx, rfl, lcur, rfl, hOx2, hub, hul⟩ Qs
            refine wbl_cons rfl ?_ ?_
            ·refine AlQ [.int .i64 0, .int .i64 0, .int .i64 0, .slice none 0 0] rfl el42 rfl rfl (fun g16 => Qa (Qo 12 rfl (Qx (ox_extract rfl rfl rfl) rfl (Qa (Qo 15 rfl ?_)))))
             refine wl_storeAll 0 [_, _, _, _] rfl el42 rfl rfl rfl (by (simp [oxe]; done)) rfl rfl rfl rfl rfl ?_
             refine Qa (Qo 16 rfl (Qm rfl (Qa (Qe ?_))))
             exact nx_meet _ ⟨F, pv, g16, xe, mx, rfl, lcur, rfl, hOx2, hub, hul⟩ Qs
            exact wbl_nil
           refine wbl_cons rfl ?_ ?_
           ·refine AlQ [.int .i64 0, .int .i64 0, .int .i64 0, .slice none 0 0] rfl el42 rfl rfl (fun g16 => Qa (wb_step [12, 13] (by kernel_rfl) rfl ?_))
            refine wbl_cons rfl ?_ ?_
            ·refine Qx (ox_extract rfl rfl rfl) rfl (Qa (wb_step [13, 15] (by kernel_rfl) rfl ?_))
             refine wbl_cons rfl ?_ ?_
             ·refine Qx (ox_extract rfl rfl rfl) rfl (Qa (Qo 15 rfl ?_))
              refine wl_storeAll 0 [_, _, _, _] rfl el42 rfl rfl rfl (by (simp [oxe]; done)) rfl rfl rfl rfl rfl ?_
              refine Qa (Qo 16 rfl (Qm rfl (Qa (Qe ?_))))
              exact nx_meet _ ⟨F, pv, g16, xe, mx, rfl, lcur, rfl, hOx2, hub, hul⟩ Qs
             refine wbl_cons rfl ?_ ?_
             ·refine wl_storeAll 0 [_, _, _, _] rfl el42 rfl rfl rfl (by (simp [oxe]; done)) rfl rfl rfl rfl rfl ?_
              refine Qa (Qo 13 rfl (Qx (ox_extract rfl rfl rfl) rfl (Qa (Qo 16 rfl (Qm rfl (Qa (Qe ?_)))))))
              exact nx_meet _ ⟨F, pv, g16, xe, mx, rfl, lcur, rfl, hOx2, hub, hul⟩ Qs
             exact wbl_nil
            refine wbl_cons rfl ?_ ?_
            ·refine Qx (ox_extract rfl rfl rfl) rfl (Qa (Qo 12 rfl (Qx (ox_extract rfl rfl rfl) rfl (Qa (Qo 15 rfl ?_)))))
             refine wl_storeAll 0 [_, _, _, _] rfl el42 rfl rfl rfl (by (simp [oxe]; done)) rfl rfl rfl rfl rfl ?_
             refine Qa (Qo 16 rfl (Qm rfl (Qa (Qe ?_))))
             exact nx_meet _ ⟨F, pv, g16, xe, mx, rfl, lcur, rfl, hOx2, hub, hul⟩ Qs
            exact wbl_nil
           exact wbl_nil
          refine wbl_cons rfl ?_ ?_
          ·refine AlQ [.int .i64 0, .int .i64 0, .int .i64 0, .slice none 0 0] rfl el42 rfl rfl (fun g16 => Qa (Qo 11 rfl (Qm rfl (Qa (wb_step [12, 13] (by kernel_rfl) rfl ?_)))))
           refine wbl_cons rfl ?_ ?_
           ·refine Qx (ox_extract rfl rfl rfl) rfl (Qa (wb_step [13, 15] (by kernel_rfl) rfl ?_))
            refine wbl_cons rfl ?_ ?_
            ·refine Qx (ox_extract rfl rfl rfl) rfl (Qa (Qo 15 rfl ?_))
             refine wl_storeAll 0 [_, _, _, _] rfl el42 rfl rfl rfl (by (simp [oxe]; done)) rfl rfl rfl rfl rfl ?_
             refine Qa (Qo 16 rfl (Qm rfl (Qa (Qe ?_))))
             exact nx_meet _ ⟨F, pv, g16, xe, mx, rfl, lcur, rfl, hOx2, hub, hul⟩ Qs
            refine wbl_cons rfl ?_ ?_
            ·refine wl_storeAll 0 [_, _, _, _] rfl el42 rfl rfl rfl (by (simp [oxe]; done)) rfl rfl rfl rfl rfl ?_
             refine Qa (Qo 13 rfl (Qx (ox_extract rfl rfl rfl) rfl (Qa (Qo 16 rfl (Qm rfl (Qa (Qe ?_)))))))
             exact nx_meet _ ⟨F, pv, g16, xe, mx, rfl, lcur, rfl, hOx2, hub, hul⟩ Qs
            exact wbl_nil
           refine wbl_cons rfl ?_ ?_
           ·refine Qx (ox_extract rfl rfl rfl) rfl (Qa (Qo 12 rfl (Qx (ox_extract rfl rfl rfl) rfl (Qa (Qo 15 rfl ?_)))))
            refine wl_storeAll 0 [_, _, _, _] rfl el42 rfl rfl rfl (by (simp [oxe]; done)) rfl rfl rfl rfl rfl ?_
            refine Qa (Qo 16 rfl (Qm rfl (Qa (Qe ?_))))
            exact nx_meet _ ⟨F, pv, g16, xe, mx, rfl, lcur, rfl, hOx2, hub, hul⟩ Qs
           exact wbl_nil
          exact wbl_nil
         refine wbl_cons rfl ?_ ?_
         ·refine AlQ [.int .i64 0, .int .i64 0, .int .i64 0, .slice none 0 0] rfl el42 rfl rfl (fun g16 => Qa (Qo 10 rfl (wl_call rfl call115 rfl (solve_one p r c A (fun a _ => apf p r L (fun i => T t (r - 1 - i)) a) av ed h20 RA yr (hA.up lcur) hRd) rfl rfl rfl (fun x11 h21 ms21 l21 hF => ?_))))
          obtain ⟨l21', F, pv, Mx, b, xe, mx, hE2, rfl, rfl, hOx2, hcase⟩ := hF
          obtain ⟨rfl, rfl, hub, hul⟩ := hfin F pv Mx b hE2 hcase
          have lcur := Hp.le_trans lcur l21
          have oxe : xe.oneCell' = true := (hOx2.rd (h := h) (ms := [mx]) (List.Mem.head _)).rd.one
          refine Qa (Qo 11 rfl (Qm rfl (Qa (wb_step [12, 13] (by kernel_rfl) rfl ?_))))
          refine wbl_cons rfl ?_ ?_
          ·refine Qx (ox_extract rfl rfl rfl) rfl (Qa (wb_step [13, 15] (by kernel_rfl) rfl ?_))
           refine wbl_cons rfl ?_ ?_
           ·refine Qx (ox_extract rfl rfl rfl) rfl (Qa (Qo 15 rfl ?_))
            refine wl_storeAll 1 [_, _, _, _] rfl el42 rfl rfl rfl (by (simp [oxe]; done)) rfl rfl rfl rfl rfl ?_
            refine Qa (Qo 16 rfl (Qm rfl (Qa (Qe ?_))))
            exact nx_swap (nx_meet _ ⟨F, pv, g16, xe, mx, rfl, lcur, rfl, hOx2, hub, hul⟩ Qs)
           refine wbl_cons rfl ?_ ?_
           ·refine wl_storeAll 1 [_, _, _, _] rfl el42 rfl rfl rfl (by (simp [oxe]; done)) rfl rfl rfl rfl rfl ?_
            refine Qa (Qo 13 rfl (Qx (ox_extract rfl rfl rfl) rfl (Qa (Qo 16 rfl (Qm rfl (Qa (Qe ?_)))))))
            exact nx_swap (nx_meet _ ⟨F, pv, g16, xe, mx, rfl, lcur, rfl, hOx2, hub, hul⟩ Qs)
           exact wbl_nil
          refine wbl_cons rfl ?_ ?_
          ·refine Qx (ox_extract rfl rfl rfl) rfl (Qa (Qo 12 rfl (Qx (ox_extract rfl rfl rfl) rfl (Qa (Qo 15 rfl ?_)))))
           refine wl_storeAll 1 [_, _, _, _] rfl el42 rfl rfl rfl (by (simp [oxe]; done)) rfl rfl rfl rfl rfl ?_
           refine Qa (Qo 16 rfl (Qm rfl (Qa (Qe ?_))))
           exact nx_swap (nx_meet _ ⟨F, pv, g16, xe, mx, rfl, lcur, rfl, hOx2, hub, hul⟩ Qs)
          exact wbl_nil
         exact wbl_nil
        refine wbl_cons rfl ?_ ?_
        ·refine AlQ [.int .i64 0, .int .i64 0, .int .i64 0, .slice none 0 0] rfl el42 rfl rfl (fun g16 => Qa (Qo 9 rfl (wl_call rfl call97 rfl (columns_ok p r 1 (fun _ => apf p r L (fun i => T t (r - 1 - i))) _ h18 RA.i64 RA.rl (by omega) (sgl hSg (hRy.up l18))) rfl rfl rfl (fun x9 h19 ms19 l19 hF => ?_))))
         obtain ⟨rfl, ed, md, rfl, rfl, hOd⟩ := hF
         refine wl_freezeL hOd fun h20 l20 hRd => ?_
         have lcur := Hp.le_trans lcur l20
         refine Qa (Qo 10 rfl (wl_call rfl call115 rfl (solve_one p r c A (fun a _ => apf p r L (fun i => T t (r - 1 - i)) a) av ed h20 RA yr (hA.up lcur) hRd) rfl rfl rfl (fun x11 h21 ms21 l21 hF => ?_)))
         obtain ⟨l21', F, pv, Mx, b, xe, mx, hE2, rfl, rfl, hOx2, hcase⟩ := hF
         obtain ⟨rfl, rfl, hub, hul⟩ := hfin F pv Mx b hE2 hcase
         have lcur := Hp.le_trans lcur l21
         have oxe : xe.oneCell' = true := (hOx2.rd (h := h) (ms := [mx]) (List.Mem.head _)).rd.one
         refine Qa (Qo 11 rfl (Qm rfl (Qa (wb_step [12, 13] (by kernel_rfl) rfl ?_))))
         refine wbl_cons rfl ?_ ?_
         ·refine Qx (ox_extract rfl rfl rfl) rfl (Qa (wb_step [13, 15] (by kernel_rfl) rfl ?_))
          refine wbl_cons rfl ?_ ?_
          ·refine Qx (ox_extract rfl rfl rfl) rfl (Qa (Qo 15 rfl ?_))
           refine wl_storeAll 1 [_, _, _, _] rfl el42 rfl rfl rfl (by (simp [oxe]; done)) rfl rfl rfl rfl rfl ?_
           refine Qa (Qo 16 rfl (Qm rfl (Qa (Qe ?_))))
           exact nx_swap (nx_meet _ ⟨F, pv, g16, xe, mx, rfl, lcur, rfl, hOx2, hub, hul⟩ Qs)
          refine wbl_cons rfl ?_ ?_
          ·refine wl_storeAll 1 [_, _, _, _] rfl el42 rfl rfl rfl (by (simp [oxe]; done)) rfl rfl rfl rfl rfl ?_
           refine Qa (Qo 13 rfl (Qx (ox_extract rfl rfl rfl) rfl (Qa (Qo 16 rfl (Qm rfl (Qa (Qe ?_)))))))
           exact nx_swap (nx_meet _ ⟨F, pv, g16, xe, mx, rfl, lcur, rfl, hOx2, hub, hul⟩ Qs)
          exact wbl_nil
         refine wbl_cons rfl ?_ ?_
         ·refine Qx (ox_extract rfl rfl rfl) rfl (Qa (Qo 12 rfl (Qx (ox_extract rfl rfl rfl) rfl (Qa (Qo 15 rfl ?_)))))
          refine wl_storeAll 1 [_, _, _, _] rfl el42 rfl rfl rfl (by (simp [oxe]; done)) rfl rfl rfl rfl rfl ?_
          refine Qa (Qo 16 rfl (Qm rfl (Qa (Qe ?_))))
          exact nx_swap (nx_meet _ ⟨F, pv, g16, xe, mx, rfl, lcur, rfl, hOx2, hub, hul⟩ Qs)
         exact wbl_nil
        exact wbl_nil
       refine wbl_cons rfl ?_ ?_
       ·refine AlQ [.int .i64 0, .int .i64 0, .int .i64 0, .slice none 0 0] rfl el42 rfl rfl (fun g16 => Qa (Qo 8 rfl (wl_buildSlice1 [_] rfl underlying62 el24 rfl (hRy.rd.cells) rfl rfl (by omega) rfl rfl rfl (fun g107 => wl_freezeB fun h18 l18 hSg => ?_))))
        have lcur := Hp.le_trans lcur l18
        refine Qa (Qo 9 rfl (wl_call rfl call97 rfl (columns_ok p r 1 (fun _ => apf p r L (fun i => T t (r - 1 - i))) _ h18 RA.i64 RA.rl (by omega) (sgl hSg (hRy.up l18))) rfl rfl rfl (fun x9 h19 ms19 l19 hF => ?_)))
        obtain ⟨rfl, ed, md, rfl, rfl, hOd⟩ := hF
        refine wl_freezeL hOd fun h20 l20 hRd => ?_
        have lcur := Hp.le_trans lcur l20
        refine Qa (Qo 10 rfl (wl_call rfl call115 rfl (solve_one p r c A (fun a _ => apf p r L (fun i => T t (r - 1 - i)) a) av ed h20 RA yr (hA.up lcur) hRd) rfl rfl rfl (fun x11 h21 ms21 l21 hF => ?_)))
        obtain ⟨l21', F, pv, Mx, b, xe, mx, hE2, rfl, rfl, hOx2, hcase⟩ := hF
        obtain ⟨rfl, rfl, hub, hul⟩ := hfin F pv Mx b hE2 hcase
        have lcur := Hp.le_trans lcur l21
        have oxe : xe.oneCell' = true := (hOx2.rd (h := h) (ms := [mx]) (List.Mem.head _)).rd.one
        refine Qa (Qo 11 rfl (Qm rfl (Qa (wb_step [12, 13] (by kernel_rfl) rfl ?_))))
        refine wbl_cons rfl ?_ ?_
        ·refine Qx (ox_extract rfl rfl rfl) rfl (Qa (wb_step [13, 15] (by kernel_rfl) rfl ?_))
         refine wbl_cons rfl ?_ ?_
         ·refine Qx (ox_extract rfl rfl rfl) rfl (Qa (Qo 15 rfl ?_))
          refine wl_storeAll 1 [_, _, _, _] rfl el42 rfl rfl rfl (by (simp [oxe]; done)) rfl rfl rfl rfl rfl ?_
          refine Qa (Qo 16 rfl (Qm rfl (Qa (Qe ?_))))
          exact nx_swap (nx_meet _ ⟨F, pv, g16, xe, mx, rfl, lcur, rfl, hOx2, hub, hul⟩ Qs)
         refine wbl_cons rfl ?_ ?_
         ·refine wl_storeAll 1 [_, _, _, _] rfl el42 rfl rfl rfl (by (simp [oxe]; done)) rfl rfl rfl rfl rfl ?_
          refine Qa (Qo 13 rfl (Qx (ox_extract rfl rfl rfl) rfl (Qa (Qo 16 rfl (Qm rfl (Qa (Qe ?_)))))))
          exact nx_swap (nx_meet _ ⟨F, pv, g16, xe, mx, rfl, lcur, rfl, hOx2, hub, hul⟩ Qs)
         exact wbl_nil
        refine wbl_cons rfl ?_ ?_
        ·refine Qx (ox_extract rfl rfl rfl) rfl (Qa (Qo 12 rfl (Qx (ox_extract rfl rfl rfl) rfl (Qa (Qo 15 rfl ?_)))))
         refine wl_storeAll 1 [_, _, _, _] rfl el42 rfl rfl rfl (by (simp [oxe]; done)) rfl rfl rfl rfl rfl ?_
         refine Qa (Qo 16 rfl (Qm rfl (Qa (Qe ?_))))
         exact nx_swap (nx_meet _ ⟨F, pv, g16, xe, mx, rfl, lcur, rfl, hOx2, hub, hul⟩ Qs)
        exact wbl_nil
       exact wbl_nil
      refine wbl_cons rfl ?_ ?_
      ·refine AlQ [.int .i64 0, .int .i64 0, .int .i64 0, .slice none 0 0] rfl el42 rfl rfl (fun g16 => Qw (Qo 7 rfl (wl_call rfl call67 rfl (apply_ok p r r L (fun i => T t (r - 1 - i)) lv x _ RL hXb (hL.up (Hp.le_refl _)) (hRx.up (Hp.le_refl _))) rfl rfl rfl (fun y h16 ms16 l16 hF => ?_))))
       obtain ⟨l16', my, rfl, hOy⟩ := hF
       refine wl_freezeL hOy fun h17 l17 hRy => ?_
       have lcur := Hp.le_trans l16 l17
       refine Qa (Qo 8 rfl (wl_buildSlice1 [_] rfl underlying62 el24 rfl (hRy.rd.cells) rfl rfl (by omega) rfl rfl rfl (fun g107 => wl_freezeB fun h18 l18 hSg => ?_)))
       have lcur := Hp.le_trans lcur l18
       refine Qa (Qo 9 rfl (wl_call rfl call97 rfl (columns_ok p r 1 (fun _ => apf p r L (fun i => T t (r - 1 - i))) _ h18 RA.i64 RA.rl (by omega) (sgl hSg (hRy.up l18))) rfl rfl rfl (fun x9 h19 ms19 l19 hF => ?_)))
       obtain ⟨rfl, ed, md, rfl, rfl, hOd⟩ := hF
       refine wl_freezeL hOd fun h20 l20 hRd => ?_
       have lcur := Hp.le_trans lcur l20
       refine Qa (Qo 10 rfl (wl_call rfl call115 rfl (solve_one p r c A (fun a _ => apf p r L (fun i => T t (r - 1 - i)) a) av ed h20 RA yr (hA.up lcur) hRd) rfl rfl rfl (fun x11 h21 ms21 l21 hF => ?_)))
       obtain ⟨l21', F, pv, Mx, b, xe, mx, hE2, rfl, rfl, hOx2, hcase⟩ := hF
       obtain ⟨rfl, rfl, hub, hul⟩ := hfin F pv Mx b hE2 hcase
       have lcur := Hp.le_trans lcur l21
       have oxe : xe.oneCell' = true := (hOx2.rd (h := h) (ms := [mx]) (List.Mem.head _)).rd.one
       refine Qa (Qo 11 rfl (Qm rfl (Qa (wb_step [12, 13] (by kernel_rfl) rfl ?_))))
       refine wbl_cons rfl ?_ ?_
       ·refine Qx (ox_extract rfl rfl rfl) rfl (Qa (wb_step [13, 15] (by kernel_rfl) rfl ?_))
        refine wbl_cons rfl ?_ ?_
        ·refine Qx (ox_extract rfl rfl rfl) rfl (Qa (Qo 15 rfl ?_))
         refine wl_storeAll 1 [_, _, _, _] rfl el42 rfl rfl rfl (by (simp [oxe]; done)) rfl rfl rfl rfl rfl ?_
         refine Qa (Qo 16 rfl (Qm rfl (Qa (Qe ?_))))
         exact nx_swap (nx_meet _ ⟨F, pv, g16, xe, mx, rfl, lcur, rfl, hOx2, hub, hul⟩ Qs)
        refine wbl_cons rfl ?_ ?_
        ·refine wl_storeAll 1 [_, _, _, _] rfl el42 rfl rfl rfl (by (simp [oxe]; done)) rfl rfl rfl rfl rfl ?_
         refine Qa (Qo 13 rfl (Qx (ox_extract rfl rfl rfl) rfl (Qa (Qo 16 rfl (Qm rfl (Qa (Qe ?_)))))))
         exact nx_swap (nx_meet _ ⟨F, pv, g16, xe, mx, rfl, lcur, rfl, hOx2, hub, hul⟩ Qs)
        exact wbl_nil
       refine wbl_cons rfl ?_ ?_
       ·refine Qx (ox_extract rfl rfl rfl) rfl (Qa (Qo 12 rfl (Qx (ox_extract rfl rfl rfl) rfl (Qa (Qo 15 rfl ?_)))))
        refine wl_storeAll 1 [_, _, _, _] rfl el42 rfl rfl rfl (by (simp [oxe]; done)) rfl rfl rfl rfl rfl ?_
        refine Qa (Qo 16 rfl (Qm rfl (Qa (Qe ?_))))
        exact nx_swap (nx_meet _ ⟨F, pv, g16, xe, mx, rfl, lcur, rfl, hOx2, hub, hul⟩ Qs)
       exact wbl_nil
      exact wbl_nil
     ·obtain ⟨F, pv, g16, xe, mx, rfl, l16, rfl, hOx2, hub, hul⟩ := hI
      refine ws_top 1 rfl (ws_freezeL hOx2 fun h17 l17 hRx2 => (ws_freezeB fun h18 l18 hG16 => ?_))
      have hRx2 : RdL cI 1 h18 [] xe (mat c 1 (solf pv F c)) := hRx2.up l18
      have l1518 := Hp.le_trans l16 (Hp.le_trans l17 l18)
      have hRx := hRx.up l1518
      have hA16 := Seg.all hG16
      have lhc : esc.length ≤ 200 := by rw [hIc.1]; omega
      have lhl : esl.length ≤ 200 := by rw [hIl.1]; omega
      refine ws_stab (n := 11) (bs := [true, true, false, false, true, true, false, false, false, false, false]) [true, true, false, false, true, true] fol (by kernel_rfl) (by kernel_rfl) rfl rfl (Qp rfl (ox_move rfl rfl) (Qp rfl (ox_move rfl rfl) (Qp rfl (ox_move rfl rfl) (Qp rfl (ox_loadG rfl underlying42 rfl el42 rfl rfl (Seg.any hG16)) ?_))))
      unfold PZs
      simp only [List.cons_append, List.nil_append]
      refine Qo 2 rfl (wl_buildSlice1 [_] rfl underlying62 el24 rfl ((hRx.rd).cells) rfl rfl (by omega) rfl rfl rfl (fun g114 => Qw (Qo 3 rfl ?_)))
      refine wl_appendV 1 hVc (RdL.one cV_len (List.Mem.head _) rfl) rfl underlying62 el24 rfl (by omega) rfl rfl rfl (one_of ox) (by simp only [List.length_singleton]; omega) (by simp only [List.length_singleton]; omega) rfl rfl rfl (fun vc2 mc2 hOc2 => ?_)
      refine Qw (Qo 6 rfl (wl_call rfl call89 rfl (column_ok p c 1 (solf pv F c) xe 0 h18 RA.cl (by omega) (by omega) hRx2) rfl rfl rfl (fun y6 h19 ms19 l19 hF => ?_)))
      obtain ⟨rfl, my, rfl, hOy⟩ := hF
      refine wl_freezeL hOy fun h20 l20 hRy => ?_
      have oy := hRy.rd.one
      refine Qa (Qo 7 rfl (wl_buildSlice1 [_] rfl underlying62 el24 rfl (hRy.rd.cells) rfl rfl (by omega) rfl rfl rfl (fun g119 => Qa (Qo 8 rfl ?_))))
      refine wl_appendV 3 hOl (RdL.one cV_len (List.Mem.head _) rfl) rfl underlying62 el24 rfl (by omega) rfl rfl rfl (one_of oy) (by simp only [List.length_singleton]; omega) (by simp only [List.length_singleton]; omega) rfl rfl rfl (fun vl2 ml2 hOl2 => ?_)
      refine Qa (Qo 9 rfl (Qm rfl (Qa (Qo 10 rfl (Qm rfl (Qa (Qe (nx_block (nx_then (ws_region (Qx (ox_add rfl rfl rfl (by omega)) rfl (Qm rfl (wl_nil (nx_dropAt 0 rfl (nx_dropAt 0 rfl ?_)))))))))))))))
      refine nx_round (q - (t + 1)) _ (by omega) ⟨t + 1, snocW t U (fun i => solf pv F c i 0), esc ++ [x], esl ++ [y6], vc2, vl2, mc2, ml2, rfl, rfl, Hp.le_trans lh (Hp.le_trans l15 (Hp.le_trans l1518 l20)), rfl, by omega, hOc2, hOl2, ?_, ?_, fun t' ht' i hi => ?_, fun t' ht' i hi => ?_⟩ Qs
      ·have h1 := (hIc.up (Hp.le_trans l15 (Hp.le_trans l1518 l20))).snoc (hRx.up l20)
       rwa [snocW_self t fun t i => T t (r - 1 - i)] at h1
      ·exact (hIl.up (Hp.le_trans l15 (Hp.le_trans l1518 l20))).snoc hRy
      ·unfold snocW
       by_cases h1 : t' = t
       ·rw [if_pos h1]; exact hub i hi
       ·rw [if_neg h1]; exact hUb t' (by omega) i hi
      ·unfold snocW
       by_cases h1 : t' = t
       ·rw [if_pos h1, h1]; exact hul i hi
       ·rw [if_neg h1]; exact hUl t' (by omega) i hi
    ·obtain rfl : t = q := by omega
     refine ws_exit (nx_then_exit (nx_then_exit (nx_block_exit (nx_then (RsQ (Qm rfl (Qm rfl (Qm rfl (Qm rfl (RnQ (ws_ret (nx_freezeL hVc fun h13 l13 hRc => (nx_freezeL hOl fun h14 l14 hRl => ?_)))))))))))))
     exact nx_ret2 rfl rfl rfl (⟨Hp.le_trans l012 (Hp.le_trans lh (Hp.le_trans l13 l14)), t, fun t i => T t (r - 1 - i), U, vc, vl, rfl, ⟨fun F pv hE2 => hrank F pv hE2, hTb, hUb, ⟨top, htop⟩, hUl⟩, (hIc.up (Hp.le_trans l13 l14)).rd (hRc.up l14), (hIl.up (Hp.le_trans l13 l14)).rd hRl, rfl⟩)
end Go.Proofs.YtdnelknieikbaaaGreat
