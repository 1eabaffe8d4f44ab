/- Parts of the proof: Xf Xw Ln Xr Xq Xs Eng35 ZSh Xg Xh Xi Xt Xu Va Xx Xy Vb Lo Vd. -/
import Derived.Test.YtdnelknieikbaaaGreatTI
import Derived.Shelf.GgSortFunc.InsertionK
import Derived.Ground.SlsfProg
import Derived.Shelf.SlSortCmp.WholeK
import Derived.Shelf.SlSortCmp.NoneTotal
import Derived.Test.YtdnelknieikbaaaGreatProg
import Derived.Laws.StructEq
import Derived.ChangeKeysEq
set_option linter.unusedSimpArgs false
set_option linter.unusedVariables false
set_option maxRecDepth 100000
set_option maxHeartbeats 4000000
namespace Go.Proofs.YtdnelknieikbaaaGreat
open Tryz
open Go.Eng Go.RowKit Go.Lin Go.Sort Go.Srt
def keyAt (T : List ((Int × Int) × Int)) (j : Nat) : Int × Int := (T.getD j ((0, 0), 0)).1
theorem keyAt_eq {T : List ((Int × Int) × Int)} {j : Nat} (hj : j < T.length) : T[j].1 = keyAt T j := by simp [keyAt, List.getD, hj]
theorem keyAt_map (T : List ((Int × Int) × Int)) : (List.range T.length).map (keyAt T) = T.map Prod.fst := by
 refine List.ext_getElem (by simp) fun i h1 h2 => ?_
 have hi : i < T.length := by simpa using h2
 simp [← keyAt_eq hi]
theorem appendSeq_ok (g1 gT : Nat) (m : Hp) (T : List ((Int × Int) × Int)) (bs : List Nat) (h : Hp) (hG : Seg h [] ⟨g1, 0, none⟩ [.map (some gT)]) (O : OwnM kP kI gT POk m T bs) (hm : m.le h) (hT : T.length ≤ 1000000) :
  FnT Tryz.prog 102 #[.slice none 0 0, .func (.func 77) #[] #[.pointer (some ⟨g1, 0, none⟩)]] h [] (fun r h' ms' => h.le h' ∧ ∃ (vis : List Nat) (mo : Hp), ms' = [mo] ∧ vis.Perm (List.range T.length) ∧ OwnL cP 2 53 mo r (vis.map (keyAt T))) := by
 have hI := keys_itr g1 gT m T bs h hG O hm
 refine fn_enterM func102 ntmps102 rfl rfl (fun w0 hw0 => ?_)
 simp only [argS]
 refine RsQ ?_
 refine wl_box [_] rfl rfl (by rfl) rfl rfl rfl (fun g2 => ?_)
 refine Qm rfl (RnQ (ws_seq (RsQ (Qm rfl (RnQ (ws_block (ws_emp (ws_swap ?_))))))))
 refine ws_rangeFuncG (R := keyR T) (fun (vis : List Nat) hh ms => vis.Nodup ∧ (∀ x ∈ vis, x < T.length) ∧ ∃ v mo, ms = [Blk g2 81 [v], mo] ∧ OwnL cP 2 53 mo v (vis.map (keyAt T))) (fun (vis : List Nat) vs vis' s1 hh ms => vis.Nodup ∧ (∀ x ∈ vis, x < T.length) ∧ ∃ g5 v mo j, j < T.length ∧ j ∉ vis ∧ vis' = vis ++ [j] ∧ s1 = [(2, .pointer (some ⟨g2, 0, none⟩)), (5, .pointer (some ⟨g5, 0, none⟩))] ∧ ms = [Blk g5 53 (cP (keyAt T j)), Blk g2 81 [v], mo] ∧ OwnL cP 2 53 mo v (vis.map (keyAt T))) rfl call77 hI ?_ rfl ?_ ?_ ?_ ?_
 ·rintro k vs k' ⟨j, hj, _, rfl, _⟩; rfl
 ·exact ⟨List.Pairwise.nil, by simp, _, _, rfl, OwnL.nil cP_len⟩
 ·rintro w1 vis vs vis' hh ms1 ⟨j, hj, hjv, rfl, rfl⟩ lh ⟨hn, hlt, v, mo, rfl, hO⟩
  rw [keyAt_eq hj]
  refine rs_region_ (by kernel_rfl) (AlQ [.int .i64 0, .int .i64 0] rfl el53 rfl rfl (fun g5 => ?_))
  refine wl_storeAll 0 [_, _] rfl el53 rfl rfl rfl (by (simp [Value.oneCell']; done)) rfl rfl rfl rfl rfl ?_
  refine wl_nil ?_
  exact nx_meet _ ⟨hn, hlt, g5, v, mo, j, hj, hjv, rfl, rfl, rfl, hO⟩ Qs
 ·rintro w1 vis vs vis' s1 hh ms1 hR lh ⟨hn, hlt, g5, v, mo, j, hj, hjv, rfl, rfl, rfl, hO⟩
  have hn' : (vis ++ [j]).Nodup := List.nodup_append.2 ⟨hn, by simp, fun a ha b hb e => by simp at hb; subst hb; subst e; exact hjv ha⟩
  have hlt' : ∀ x ∈ vis ++ [j], x < T.length := fun x hx => by
   rcases List.mem_append.1 hx with h1 | h1
   ·exact hlt x h1
   ·simp at h1; omega
  have hlen : (vis.map (keyAt T)).length ≤ 1000000 := by
   have := hn.length_le_of_subset (l₂ := List.range T.length) fun x hx => List.mem_range.2 (hlt x hx)
   simp at this ⊢; omega
  have ov : v.oneCell' = true := (hO.rd (h := h) (ms := [mo]) (List.Mem.head _)).rd.one
  refine rs_block (rs_region_ (by kernel_rfl) (Qx (ox_load rfl underlying81 rfl rfl (Cell.blk0 1 rfl rfl)) rfl (Qx (ox_loadG rfl underlying53 rfl el53 rfl rfl (Seg.blk 0 rfl)) rfl ?_)))
  refine wl_buildSlice1 [_, _] rfl underlying81 el53 rfl (by rfl) rfl rfl (by omega) rfl rfl rfl (fun g10 => ?_)
  refine wl_appendL 3 hO (RdL.one cP_len (x := keyAt T j) (List.Mem.head _) rfl) rfl underlying81 el53 rfl (by omega) rfl rfl rfl cP_one (by simp only [List.length_singleton]; omega) (by simp only [List.length_singleton]; omega) rfl rfl rfl (fun v2 mo2 hO2 => ?_)
  have ov2 : v2.oneCell' = true := (hO2.rd (h := h) (ms := [mo2]) (List.Mem.head _)).rd.one
  refine wl_storeAt 2 0 rfl el81 rfl rfl (by assumption) rfl rfl (by (simp; done)) rfl rfl ?_
  refine wl_nil (nx_block (nx_drop (nx_drop ?_)))
  refine nx_meet [] ⟨hn', hlt', v2, mo2, rfl, ?_⟩ trivial
  rw [List.map_append]
  exact hO2
 ·intro D vis hh ms1 hfin lh ⟨hn, hlt, v, mo, e, hO⟩
  subst e
  have ov : v.oneCell' = true := (hO.rd (h := h) (ms := [mo]) (List.Mem.head _)).rd.one
  refine nx_block (nx_then (RsQ (Qx (ox_load rfl underlying81 rfl rfl (Cell.blk0 0 rfl rfl)) rfl (Qm rfl (RnQ (ws_ret (nx_drop (nx_mark 1 (.inr rfl) rfl ?_))))))))
  exact nx_ret1 rfl rfl (⟨lh, vis, mo, rfl, hfin, hO⟩)
theorem collect_ok (g1 gT : Nat) (m : Hp) (T : List ((Int × Int) × Int)) (bs : List Nat) (h : Hp) (hG : Seg h [] ⟨g1, 0, none⟩ [.map (some gT)]) (O : OwnM kP kI gT POk m T bs) (hm : m.le h) (hT : T.length ≤ 1000000) :
  FnT Tryz.prog 75 #[.func (.func 77) #[] #[.pointer (some ⟨g1, 0, none⟩)]] h [] (fun r h' ms' => h.le h' ∧ ∃ (vis : List Nat) (mo : Hp), ms' = [mo] ∧ vis.Perm (List.range T.length) ∧ OwnL cP 2 53 mo r (vis.map (keyAt T))) := by
 refine fn_enter func75 ntmps75 rfl rfl (fun w0 hw0 => ?_)
 simp only [argS]
 refine RsQ (Qm rfl (RtQ (Qm rfl (wl_call rfl call102 rfl (appendSeq_ok g1 gT m T bs h hG O hm hT) rfl rfl rfl (fun x h2 ms2 l2 hF => ?_)))))
 obtain ⟨l2', vis, mo, rfl, hp, hO⟩ := hF
 have ov : x.oneCell' = true := (hO.rd (h := h) (ms := [mo]) (List.Mem.head _)).rd.one
 refine Qm rfl (RnQ (ws_ret ?_))
 exact nx_ret1 rfl rfl (⟨l2, vis, mo, rfl, hp, hO⟩)
end Go.Proofs.YtdnelknieikbaaaGreat
namespace Go.Proofs.YtdnelknieikbaaaGreat
open Go.Eng Go.RowKit Go.Lin Go.Sort Go.Srt
structure Iv where
 fr : Int
 to : Int
 n : Int
deriving DecidableEq
def cIv (x : Iv) : List Value := [.int .i64 x.fr, .int .i64 x.to, .int .i64 x.n]
theorem cIv_len : ∀ x, (cIv x).length = 3 := fun _ => rfl
theorem cIv_one (x : Iv) : ∀ c ∈ cIv x, c.oneCell' = true := fun c hc => by
 simp only [cIv, List.mem_cons, List.not_mem_nil, or_false] at hc
 rcases hc with rfl | rfl | rfl <;> rfl
def BarsOf (c : Int × Int → Nat) (bl : List Iv) : Prop := ∃ ks : List (Int × Int), bl = ks.map (fun a => ⟨a.1, a.2, (c a : Nat)⟩) ∧ ks.Pairwise (fun a b => cmp2 a b < 0) ∧ ∀ a, a ∈ ks ↔ 0 < c a
theorem strict_uniq : ∀ (l l' : List (Int × Int)), l.Pairwise (fun a b => cmp2 a b < 0) → l'.Pairwise (fun a b => cmp2 a b < 0) → (∀ a, a ∈ l ↔ a ∈ l') → l = l'
 | [], [], _, _, _ => rfl
 | [], b :: l', _, _, h => absurd ((h b).2 (by simp)) (by simp)
 | a :: l, [], _, _, h => absurd ((h a).1 (by simp)) (by simp)
 | a :: l, b :: l', h1, h2, h => by
  have p1 := List.pairwise_cons.1 h1
  have p2 := List.pairwise_cons.1 h2
  have hab : a = b := by
   rcases List.mem_cons.1 ((h a).1 (by simp)) with e | e
   ·exact e
   ·rcases List.mem_cons.1 ((h b).2 (by simp)) with e' | e'
    ·exact e'.symm
    ·have q1 := p2.1 a e
     have q2 := p1.1 b e'
     rw [cmp2_lt] at q1 q2
     omega
  subst hab
  rw [strict_uniq l l' p1.2 p2.2 fun x => by
   have hx := h x
   have n1 : a ∉ l := fun hm => by have := p1.1 a hm; rw [cmp2_lt] at this; omega
   have n2 : a ∉ l' := fun hm => by have := p2.1 a hm; rw [cmp2_lt] at this; omega
   constructor
   ·intro hm
    rcases List.mem_cons.1 (hx.1 (List.mem_cons_of_mem _ hm)) with e | e
    ·subst e; exact absurd hm n1
    ·exact e
   ·intro hm
    rcases List.mem_cons.1 (hx.2 (List.mem_cons_of_mem _ hm)) with e | e
    ·subst e; exact absurd hm n2
    ·exact e]
theorem bars_uniq {c c' : Int × Int → Nat} {l l' : List Iv} (h : BarsOf c l) (h' : BarsOf c' l') (e : ∀ a, c a = c' a) : l = l' := by
 obtain ⟨ks, rfl, h1, h2⟩ := h
 obtain ⟨ks', rfl, h1', h2'⟩ := h'
 obtain rfl := strict_uniq ks ks' h1 h1' fun a => by rw [h2, h2', e]
 exact List.map_congr_left fun a _ => by rw [e]
def SpecL (Z : Zz) (l : List StE) : Prop := (¬ Z.Rt → l = []) ∧ (Z.Rt → ∃ (N : Nat) (S : Nat → SM) (e : Nat → StE) (L : List Nat), l = L.map e ∧ L.Perm (List.range N) ∧ Valid Z.zg (dcOf N S) ∧ ∀ k, k < N → (e k).fr = (S k).fr ∧ (e k).to = (S k).to)
theorem key_ok {Z : Zz} {N : Nat} {S : Nat → SM} {e : Nat → StE} {L : List Nat} (hV : Valid Z.zg (dcOf N S)) (hRt : Z.Rt) (hp : L.Perm (List.range N)) (he : ∀ k, k < N → (e k).fr = (S k).fr ∧ (e k).to = (S k).to) : ∀ s ∈ L.map e, POk s.key := fun s hs => by
 obtain ⟨k, hk, rfl⟩ := List.mem_map.1 hs
 have hkN := List.mem_range.1 (hp.mem_iff.1 hk)
 obtain ⟨h1, h2⟩ := he k hkN
 have h3 := hV.ends k hkN
 have h4 : (S k).fr ≤ (S k).to := h3.1
 have h5 : (S k).to < Z.dims.length := h3.2
 have h6 := hRt.2.1
 constructor
 ·show I64 (e k).fr
  rw [h1]; unfold I64; omega
 ·show I64 (e k).to
  rw [h2]; unfold I64; omega
theorem tc_len {T : List ((Int × Int) × Int)} {ks : List (Int × Int)} (C : TC T ks) (hn : (T.map Prod.fst).Nodup) : (∀ a, a ∈ T.map Prod.fst ↔ 0 < ks.count a) ∧ T.length ≤ ks.length := by
 have h1 : ∀ a, a ∈ T.map Prod.fst ↔ a ∈ ks := fun a => by
  constructor
  ·intro h
   obtain ⟨p, hp, rfl⟩ := List.mem_map.1 h
   obtain ⟨j, hj⟩ := List.getElem?_of_mem hp
   exact C.has p.1 p.2 (getK_of hn (j := j) hj)
  ·intro h
   refine Classical.byContradiction fun hno => ?_
   have h2 := C.cnt a
   rw [getK_none hno] at h2
   have := List.count_pos_iff.2 h
   simp at h2
   omega
 refine ⟨fun a => by rw [h1, List.count_pos_iff], ?_⟩
 have := hn.length_le_of_subset fun a ha => (h1 a).1 ha
 simpa using this
end Go.Proofs.YtdnelknieikbaaaGreat
namespace Go.Lin
theorem pick_ok {p : Int} {n d : Nat} {b : Nat → Bool} {v : Nat → Nat → Int} {L : List Nat} (hn : L.Nodup) (hL : ∀ l ∈ L, l < n) (hb : ∀ l, l < n → b l = true → l ∈ L) : (Ind p n b d v → Ind p L.length (fun t => b (L.getD t 0)) d fun t => v (L.getD t 0)) ∧ cnt L.length (fun t => b (L.getD t 0)) = cnt n b := by
  have hat : ∀ t, t < L.length → ∃ h : t < L.length, L.getD t 0 = L[t] := fun t ht => ⟨ht, by simp [List.getD, ht]⟩
  have hP : ((sel L.length fun t => b (L.getD t 0)).map fun t => L.getD t 0).Perm (sel n b) := by
    refine sel_perm ?_ fun l => ?_
    · refine List.pairwise_map.2 ((sel_nodup _ _).imp_of_mem fun {s t} hs ht hne e => hne ?_)
      obtain ⟨h1, e1⟩ := hat s (mem_sel.1 hs).1
      obtain ⟨h2, e2⟩ := hat t (mem_sel.1 ht).1
      rw [e1, e2] at e
      exact (List.getElem_inj hn).1 e
    · rw [List.mem_map]
      constructor
      · rintro ⟨t, ht, rfl⟩
        obtain ⟨h1, h2⟩ := mem_sel.1 ht
        obtain ⟨h3, e⟩ := hat t h1
        exact ⟨hL _ (e ▸ List.getElem_mem h3), h2⟩
      · rintro ⟨h1, h2⟩
        obtain ⟨t, ht, e⟩ := List.mem_iff_getElem.1 (hb l h1 h2)
        obtain ⟨h3, e3⟩ := hat t ht
        exact ⟨t, mem_sel.2 ⟨ht, by rw [e3, e]; exact h2⟩, by rw [e3, e]⟩
  refine ⟨fun hI => ?_, ?_⟩
  · have h1 := list_of_ind hP hI
    refine ind_of_list (L := sel L.length fun t => b (L.getD t 0)) (List.Perm.refl _) ?_
    rw [List.length_map] at h1
    exact h1.congr (fun _ _ => rfl) fun t ht _ i _ => Cg.of_eq (by
      have e : ((sel L.length fun t => b (L.getD t 0)).map fun t => L.getD t 0).getD t 0 = L.getD ((sel L.length fun t => b (L.getD t 0)).getD t 0) 0 := by
        have g : ∀ (l : List Nat) (h : t < l.length), l.getD t 0 = l[t] := fun l h => by simp [List.getD, h]
        rw [g _ (by rw [List.length_map]; exact ht), List.getElem_map, g (sel L.length fun t => b (L.getD t 0)) ht]
      rw [e])
  · have := hP.length_eq
    rw [List.length_map] at this
    exact this
theorem valid_perm {Z : Zg} {D D' : Dc} {L : List Nat} (V : Valid Z D) (hL : L.Perm (List.range D.N)) (hN : D'.N = L.length) (hf : ∀ t, t < L.length → D'.fr t = D.fr (L.getD t 0) ∧ D'.to t = D.to (L.getD t 0)) (hv : ∀ t, t < L.length → ∀ k, D'.on k t = true → ∀ i, i < Z.d k → D'.vec t k i = D.vec (L.getD t 0) k i) : Valid Z D' := by
  have hm : ∀ t, t < L.length → L.getD t 0 < D.N := fun t ht => by
    have : L.getD t 0 ∈ L := by simp [List.getD, ht]
    exact List.mem_range.1 (hL.mem_iff.1 this)
  have hon : ∀ k t, t < L.length → D.on k (L.getD t 0) = D'.on k t := fun k t ht => by unfold Dc.on; rw [(hf t ht).1, (hf t ht).2]
  have hpk : ∀ k, _ := fun k => pick_ok (p := Z.p) (d := Z.d k) (b := D.on k) (v := fun l => D.vec l k) (hL.nodup_iff.2 List.nodup_range) (fun l hl => List.mem_range.1 (hL.mem_iff.1 hl)) fun l hl _ => hL.mem_iff.2 (List.mem_range.2 hl)
  refine ⟨fun t ht => ?_, fun k hk => ?_, fun k hk => ?_, fun k hk t ht ho i hi => ?_⟩
  · rw [hN] at ht
    rw [(hf t ht).1, (hf t ht).2]
    exact V.ends _ (hm t ht)
  · rw [hN]
    exact ((hpk k).1 (V.ind k hk)).congr (fun t ht => hon k t ht) fun t ht hb i hi => Cg.of_eq (hv t ht k (by rw [← hon k t ht]; exact hb) i hi)
  · rw [hN]
    exact (cnt_congr fun t ht => (hon k t ht).symm).trans ((hpk k).2.trans (V.cnt k hk))
  · rw [hN] at ht
    have h1 := V.arr k hk _ (hm t ht) (by rw [hon _ t ht]; exact ho) i hi
    have h2 : ap (Z.mat k) (Z.d (Z.src k)) (D'.vec t (Z.src k)) i = ap (Z.mat k) (Z.d (Z.src k)) (D.vec (L.getD t 0) (Z.src k)) i := sm_congr fun j hj => by rw [hv t ht _ ho j hj]
    rw [h2]
    rw [hon _ t ht] at h1
    cases h3 : D'.on (Z.tgt k) t with
    | false => rw [h3] at h1; exact h1
    | true => rw [h3] at h1; simp only [if_true] at h1 ⊢; rw [hv t ht _ h3 i hi]; exact h1
def Zg.part (Z : Zg) (a b : Nat) : Zg where
  p := Z.p
  n := b - a + 1
  d k := Z.d (a + k)
  back k := Z.back (a + k)
  mat k := Z.mat (a + k)
def Dc.meets (D : Dc) (a b l : Nat) : Bool := decide (D.fr l ≤ b) && decide (a ≤ D.to l)
def Dc.part (D : Dc) (a b : Nat) : Dc where
  N := (sel D.N (D.meets a b)).length
  fr l := max (D.fr ((sel D.N (D.meets a b)).getD l 0)) a - a
  to l := min (D.to ((sel D.N (D.meets a b)).getD l 0)) b - a
  vec l k := D.vec ((sel D.N (D.meets a b)).getD l 0) (a + k)
theorem part_ok {Z : Zg} {D : Dc} (V : Valid Z D) {a b : Nat} (hab : a ≤ b) (hb : b < Z.n) : Valid (Z.part a b) (D.part a b) := by
  have hm : ∀ t, t < (D.part a b).N → (sel D.N (D.meets a b)).getD t 0 < D.N ∧ D.fr ((sel D.N (D.meets a b)).getD t 0) ≤ b ∧ a ≤ D.to ((sel D.N (D.meets a b)).getD t 0) := fun t ht => by
    have ht' : t < (sel D.N (D.meets a b)).length := ht
    have : (sel D.N (D.meets a b)).getD t 0 ∈ sel D.N (D.meets a b) := by simp [List.getD, ht']
    obtain ⟨h1, h2⟩ := mem_sel.1 this
    unfold Dc.meets at h2
    simp only [Bool.and_eq_true, decide_eq_true_eq] at h2
    exact ⟨h1, h2.1, h2.2⟩
  have hon : ∀ k, k < b - a + 1 → ∀ t, t < (D.part a b).N → D.on (a + k) ((sel D.N (D.meets a b)).getD t 0) = (D.part a b).on k t := fun k hk t ht => by
    have h := hm t ht
    rw [Bool.eq_iff_iff, Dc.on_iff, Dc.on_iff]
    show _ ↔ max (D.fr ((sel D.N (D.meets a b)).getD t 0)) a - a ≤ k ∧ k ≤ min (D.to ((sel D.N (D.meets a b)).getD t 0)) b - a
    omega
  have hpk : ∀ k, k < b - a + 1 → _ := fun k hk => pick_ok (p := Z.p) (d := Z.d (a + k)) (b := D.on (a + k)) (v := fun l => D.vec l (a + k)) (sel_nodup D.N (D.meets a b)) (fun l hl => (mem_sel.1 hl).1) fun l hl ho => mem_sel.2 ⟨hl, by
    have := Dc.on_iff.1 ho
    unfold Dc.meets
    simp only [Bool.and_eq_true, decide_eq_true_eq]; omega⟩
  refine ⟨fun t ht => ?_, fun k hk => ?_, fun k hk => ?_, fun k hk t ht ho i hi => ?_⟩
  · have h := hm t ht
    have h2 := V.ends _ h.1
    show max (D.fr ((sel D.N (D.meets a b)).getD t 0)) a - a ≤ min (D.to ((sel D.N (D.meets a b)).getD t 0)) b - a ∧ min (D.to ((sel D.N (D.meets a b)).getD t 0)) b - a < b - a + 1
    omega
  · exact ((hpk k hk).1 (V.ind (a + k) (by have : k < b - a + 1 := hk; omega))).congr (fun t ht => hon k hk t ht) fun t ht _ i _ => Cg.refl _ _
  · exact (cnt_congr fun t ht => (hon k hk t ht).symm).trans ((hpk k hk).2.trans (V.cnt (a + k) (by have : k < b - a + 1 := hk; omega)))
  · have hk' : k + 1 < b - a + 1 := hk
    have e : a + (Z.part a b).src k = Z.src (a + k) ∧ a + (Z.part a b).tgt k = Z.tgt (a + k) ∧ (Z.part a b).src k < b - a + 1 ∧ (Z.part a b).tgt k < b - a + 1 := by
      have h1 : (Z.part a b).back k = Z.back (a + k) := rfl
      rcases Z.src_tgt (a + k) with ⟨e1, e2, e3⟩ | ⟨e1, e2, e3⟩ <;> rcases (Z.part a b).src_tgt k with ⟨f1, f2, f3⟩ | ⟨f1, f2, f3⟩
      · omega
      · rw [h1, e3] at f3; cases f3
      · rw [h1, e3] at f3; cases f3
      · omega
    obtain ⟨e1, e2, e3, e4⟩ := e
    rw [← hon _ e3 t ht, e1] at ho
    rw [← hon _ e4 t ht, e2]
    have hi' : i < Z.d (a + (Z.part a b).tgt k) := hi
    rw [e2] at hi'
    have h := V.arr (a + k) (by omega) _ (hm t ht).1 ho i hi'
    show Cg Z.p (ap (Z.mat (a + k)) (Z.d (a + (Z.part a b).src k)) (D.vec _ (a + (Z.part a b).src k)) i) (if D.on (Z.tgt (a + k)) _ then D.vec _ (a + (Z.part a b).tgt k) i else 0)
    rw [e1, e2]
    exact h
theorem part_ct {D : Dc} {a b : Nat} (hab : a ≤ b) (hends : ∀ l, l < D.N → D.fr l ≤ D.to l) (x : Int × Int) : (D.part a b).ct x = cnt D.N fun l => decide (max (D.fr l : Int) a = a + x.1 ∧ min (D.to l : Int) b = a + x.2 ∧ (D.fr l : Int) ≤ b ∧ (a : Int) ≤ D.to l) := by
  have h := (pick_ok (p := 0) (n := D.N) (d := 0) (v := fun _ _ => 0) (b := fun l => decide (max (D.fr l : Int) a = a + x.1 ∧ min (D.to l : Int) b = a + x.2 ∧ (D.fr l : Int) ≤ b ∧ (a : Int) ≤ D.to l)) (sel_nodup D.N (D.meets a b)) (fun l hl => (mem_sel.1 hl).1) fun l hl ho => mem_sel.2 ⟨hl, by
    have := of_decide_eq_true ho
    unfold Dc.meets
    simp only [Bool.and_eq_true, decide_eq_true_eq]; omega⟩).2
  rw [← h]
  refine cnt_congr fun t ht => decide_eq_decide.2 ?_
  have ht' : t < (sel D.N (D.meets a b)).length := ht
  have : (sel D.N (D.meets a b)).getD t 0 ∈ sel D.N (D.meets a b) := by simp [List.getD, ht']
  obtain ⟨h1, h2⟩ := mem_sel.1 this
  have h3 := hends _ h1
  have h2 : D.fr ((sel D.N (D.meets a b)).getD t 0) ≤ b ∧ a ≤ D.to ((sel D.N (D.meets a b)).getD t 0) := by
    have h2' : (decide (D.fr ((sel D.N (D.meets a b)).getD t 0) ≤ b) && decide (a ≤ D.to ((sel D.N (D.meets a b)).getD t 0))) = true := h2
    simpa only [Bool.and_eq_true, decide_eq_true_eq] using h2'
  obtain ⟨u, v⟩ := x
  show ((((max (D.fr ((sel D.N (D.meets a b)).getD t 0)) a - a : Nat) : Int), ((min (D.to ((sel D.N (D.meets a b)).getD t 0)) b - a : Nat) : Int)) = (u, v)) ↔ (max (D.fr ((sel D.N (D.meets a b)).getD t 0) : Int) a = a + u ∧ min (D.to ((sel D.N (D.meets a b)).getD t 0) : Int) b = a + v ∧ (D.fr ((sel D.N (D.meets a b)).getD t 0) : Int) ≤ b ∧ (a : Int) ≤ D.to ((sel D.N (D.meets a b)).getD t 0))
  generalize (sel D.N (D.meets a b)).getD t 0 = q at *
  rw [Prod.mk.injEq]
  omega
def blk (m n : Nat) (A B : Nat → Nat → Int) (i j : Nat) : Int := if i < m then (if j < n then A i j else 0) else (if j < n then 0 else B (i - m) (j - n))
end Go.Lin
namespace Go.Proofs.YtdnelknieikbaaaGreat
open Go.Eng Go.RowKit Go.Lin Go.Sort Go.Srt
variable {h : Hp} {Z : Zz} {bl : List Iv}
def RdE (h : Hp) (d : Nat → Nat) (e : StE) (s : SM) (es : List Value) : Prop := e.fr = s.fr ∧ e.to = s.to ∧ s.fr ≤ s.to ∧ RdL cV 1 h [] e.v es ∧ es.length = s.to + 1 - s.fr ∧ ∀ k (hk : k < es.length), RdL cI 1 h [] es[k] (vec (d (s.fr + k)) (s.v (s.fr + k)))
theorem StV.rde {d : Nat → Nat} {e : StE} {s : SM} {m : Hp} (S : StV d s.g e s.fr s.to s.v m) (hl : m.le h) : ∃ es, RdE h d e s es := by
 obtain ⟨e1, e2, es, ma, mb, h0, rfl, h1, h2, h3, h4, h5⟩ := S
 have l1 : ma.le h := Hp.le_trans (Hp.le_trans Hp.le_joinl (Hp.le_joinr h1)) hl
 have l2 : mb.le h := Hp.le_trans (Hp.le_trans (Hp.le_joinr h2) (Hp.le_joinr h1)) hl
 exact ⟨es, e1, e2, h0, h3.rdh l1, h4, h5.rd l2 rfl⟩
def svOf (d : Nat → Nat) (e : StE) (s : SM) (es : List Value) : SV := ⟨e, es, (List.range (s.to + 1 - s.fr)).map fun k => vec (d (s.fr + k)) (s.v (s.fr + k))⟩
theorem svOf_vs (d : Nat → Nat) (e : StE) (s : SM) (es : List Value) {k : Nat} (hk : k < s.to + 1 - s.fr) : (svOf d e s es).vs.getD k [] = vec (d (s.fr + k)) (s.v (s.fr + k)) := by
 simp [svOf, List.getD, hk]
theorem svOf_len (d : Nat → Nat) (e : StE) (s : SM) (es : List Value) : (svOf d e s es).vs.length = s.to + 1 - s.fr := by simp [svOf]
theorem RdE.rdw {d : Nat → Nat} {e : StE} {s : SM} {es : List Value} (R : RdE h d e s es) : RdW h (svOf d e s es) := by
 obtain ⟨e1, e2, h0, h1, h2, h3⟩ := R
 refine ⟨by rw [svOf_len]; exact h2, h1, fun j hj => ?_⟩
 rw [svOf_len] at hj
 have hj' : j < es.length := by omega
 rw [svOf_vs d e s es hj]
 show RdL cI 1 h [] (es.getD j undef) _
 rw [es_getD hj']
 exact h3 j hj'
theorem strands_sv (hRt : Z.Rt) {N : Nat} {S : Nat → SM} {e : Nat → StE} {L : List Nat} {m mB : Hp} {r : Value} (hO : OwnL cS 3 64 m r (L.map e)) (hm : m.le h) (B : Bag N (fun l x => StV Z.zg.d (S l).g (e l) (S l).fr (S l).to (S l).v x) mB) (hmB : mB.le h) (hp : L.Perm (List.range N)) (V : Valid Z.zg (dcOf N S)) (hb : ∀ l, l < N → (S l).Bd Z.p Z.zg.d) :
  ∃ l : List SV, l.map SV.e = L.map e ∧ RdSs h r l ∧ ChkP Z l := by
 have hex : ∀ k, ∃ es, k < N → RdE h Z.zg.d (e k) (S k) es := fun k => by
  by_cases hk : k < N
  ·obtain ⟨x, hx, hS⟩ := B.all k hk
   obtain ⟨es, he⟩ := hS.rde (Hp.le_trans hx hmB)
   exact ⟨es, fun _ => he⟩
  ·exact ⟨[], fun h => absurd h hk⟩
 obtain ⟨es, hes⟩ := Classical.axiomOfChoice hex
 have hLN : ∀ k ∈ L, k < N := fun k hk => List.mem_range.1 (hp.mem_iff.1 hk)
 have hat : ∀ t, t < L.length → L.getD t 0 < N := fun t ht => hLN _ (by simp [List.getD, ht])
 have hget : ∀ t, t < L.length → (L.map fun k => svOf Z.zg.d (e k) (S k) (es k)).getD t default = svOf Z.zg.d (e (L.getD t 0)) (S (L.getD t 0)) (es (L.getD t 0)) := fun t ht => by
  have e1 : L.getD t 0 = L[t] := by simp [List.getD, ht]
  rw [sv_getD (by rw [List.length_map]; exact ht), List.getElem_map, e1]
 refine ⟨L.map fun k => svOf Z.zg.d (e k) (S k) (es k), by rw [List.map_map]; rfl, ⟨?_, fun s hs => ?_⟩, hRt, fun s hs => ?_, ?_⟩
 ·have h1 := (hO.rdh (ms := []) hm).rd
  refine ⟨?_, cSV_len⟩
  rw [List.length_map] at h1 ⊢
  rw [List.flatMap_map] at h1 ⊢
  exact h1
 ·obtain ⟨k, hk, rfl⟩ := List.mem_map.1 hs
  exact (hes k (hLN k hk)).rdw
 ·obtain ⟨k, hk, rfl⟩ := List.mem_map.1 hs
  have hkN := hLN k hk
  obtain ⟨e1, e2, h0, h1, h2, h3⟩ := hes k hkN
  have h4 := V.ends k hkN
  have h5 : (S k).to < Z.dims.length := h4.2
  refine ⟨?_, ?_, ?_, ?_, fun j hj => ?_⟩
  ·show 0 ≤ (e k).fr; omega
  ·show (e k).fr ≤ (e k).to; omega
  ·show (e k).to < _; omega
  ·rw [svOf_len]; show _ = (e k).to - (e k).fr + 1; omega
  ·rw [svOf_len] at hj
   rw [svOf_vs _ _ _ _ hj, vec_len]
   have e3 : (svOf Z.zg.d (e k) (S k) (es k)).e.fr.toNat = (S k).fr := by show (e k).fr.toNat = _; omega
   rw [e3]
   refine ⟨Z.zg_d hRt _, fun x hx => ?_⟩
   obtain ⟨i, hi, rfl⟩ := mem_vec.1 hx
   exact hb k hkN _ (by omega) (by omega) i hi
 ·refine valid_perm V hp (by show (L.map _).length = _; rw [List.length_map]) (fun t ht => ?_) fun t ht k ho i hi => ?_
  ·obtain ⟨e1, e2, _⟩ := hes _ (hat t ht)
   show ((L.map fun k => svOf Z.zg.d (e k) (S k) (es k)).getD t default).e.fr.toNat = (S (L.getD t 0)).fr ∧ ((L.map fun k => svOf Z.zg.d (e k) (S k) (es k)).getD t default).e.to.toNat = (S (L.getD t 0)).to
   rw [hget t ht]
   show (e (L.getD t 0)).fr.toNat = _ ∧ (e (L.getD t 0)).to.toNat = _
   omega
  ·obtain ⟨e1, e2, h0, _⟩ := hes _ (hat t ht)
   have ho := Dc.on_iff.1 ho
   have ho : ((L.map fun k => svOf Z.zg.d (e k) (S k) (es k)).getD t default).e.fr.toNat ≤ k ∧ k ≤ ((L.map fun k => svOf Z.zg.d (e k) (S k) (es k)).getD t default).e.to.toNat := ho
   show (((L.map fun k => svOf Z.zg.d (e k) (S k) (es k)).getD t default).at_ k).getD i 0 = _
   rw [hget t ht] at ho ⊢
   have ho : (e (L.getD t 0)).fr.toNat ≤ k ∧ k ≤ (e (L.getD t 0)).to.toNat := ho
   unfold SV.at_
   have e3 : (svOf Z.zg.d (e (L.getD t 0)) (S (L.getD t 0)) (es (L.getD t 0))).e.fr.toNat = (S (L.getD t 0)).fr := by show (e (L.getD t 0)).fr.toNat = _; omega
   rw [e3, svOf_vs _ _ _ _ (by omega), show (S (L.getD t 0)).fr + (k - (S (L.getD t 0)).fr) = k by omega, getD_I (by rw [vec_len]; exact hi), vec_get hi]
   rfl
def IsBars (Z : Zz) (bl : List Iv) : Prop := (¬ Z.Rt → bl = []) ∧ (Z.Rt → ∃ D, Valid Z.zg D ∧ BarsOf D.ct bl)
theorem bars_none (h : BarsOf (fun a => (([] : List StE).map StE.key).count a) bl) : bl = [] := by
 obtain ⟨ks, rfl, _, h2⟩ := h
 cases ks with
 | nil => rfl
 | cons a ks => exact absurd ((h2 a).1 (by simp)) (by simp)
theorem bars_is {l : List StE} (hS : SpecL Z l) (hB : BarsOf (fun a => (l.map StE.key).count a) bl) : IsBars Z bl := by
 refine ⟨fun h => ?_, fun h => ?_⟩
 ·rw [hS.1 h] at hB; exact bars_none hB
 ·obtain ⟨N, S, e, L, rfl, hp, V, he⟩ := hS.2 h
  refine ⟨_, V, ?_⟩
  have e1 : (fun a => ((L.map e).map StE.key).count a) = (dcOf N S).ct := funext fun a => by
   rw [List.map_map]
   exact ct_count (D := dcOf N S) hp (fun k hk => by
    obtain ⟨h1, h2⟩ := he k hk
    show ((e k).fr, (e k).to) = _
    rw [h1, h2]; rfl) a
  rw [← e1]; exact hB
theorem is_bars_uniq (hRt : Z.Rt) {D : Dc} (V : Valid Z.zg D) {bl' : List Iv} (h : IsBars Z bl) (h' : BarsOf D.ct bl') : bl = bl' := by
 obtain ⟨D0, V0, h0⟩ := h.2 hRt
 exact bars_uniq h0 h' fun a => ct_unique hRt.2.2.2.1.fld V0 V a
end Go.Proofs.YtdnelknieikbaaaGreat
namespace Go.Proofs.YtdnelknieikbaaaGreat
open Tryz
open Go.Eng Go.RowKit Go.Lin Go.Sort Go.Srt
def Ar.core (a : Ar) : Bool × FM := (a.b, a.M)
def oneA (n : Int) : Bool × FM := (decide (n < 0), ⟨5, 1, 1, [max n (-n) % 9]⟩)
theorem cA_one {h : Hp} {A : List Ar} (H : ∀ a ∈ A, RdL cI 1 h [] a.v a.M.e) : ∀ a ∈ A, ∀ c ∈ cA a, c.oneCell' = true := fun a ha c hc => by
 simp only [cA, List.mem_cons, List.not_mem_nil, or_false] at hc
 rcases hc with rfl | rfl | rfl | rfl | rfl
 ·rfl
 ·rfl
 ·rfl
 ·rfl
 ·exact (H a ha).rd.one
theorem one_ar {x : Ar} (h : x.v.oneCell' = true) : ∀ a ∈ [x], ∀ c ∈ cA a, c.oneCell' = true := fun a ha c hc => by
 rw [List.mem_singleton.1 ha] at hc
 simp only [cA, List.mem_cons, List.not_mem_nil, or_false] at hc
 rcases hc with rfl | rfl | rfl | rfl | rfl
 ·rfl
 ·rfl
 ·rfl
 ·rfl
 ·exact h
theorem lone_ok (l : List Int) (vl : Value) (h : Hp) (hL : RdL cI 1 h [] vl l) (hl : l.length ≤ 100) (hb : ∀ x ∈ l, -9 ≤ x ∧ x ≤ 9) : FnT Tryz.prog 37 #[vl] h [] (fun r h' ms' => h.le h' ∧ ms' = [] ∧ ∃ (Z : Zz) (vd va : Value), r = .agg #[.int .i64 Z.p, vd, va] ∧ RdZ h' vd va Z ∧ Z.p = 5 ∧ Z.dims = List.replicate (l.length + 1) 1 ∧ Z.ars.map Ar.core = l.map oneA) := by
 refine fn_enter func37 ntmps37 rfl rfl (fun w0 hw0 => ?_)
 simp only [argS]
 refine RsQ (AlQ [.int .i64 0, .slice none 0 0, .slice none 0 0] rfl el30 rfl rfl (fun g2 => RtQ ?_))
 refine wl_buildSlice1 [_] rfl underlying24 el3 rfl (by rfl) rfl rfl (by omega) rfl rfl rfl (fun g7 => ?_)
 refine Qx (ox_buildS st30 [.int .i64 0, .slice none 0 0, .slice none 0 0] [(0, _), (1, _)] [_, _, _] rfl el30 rfl rfl (by repeat (first | exact trivial | refine ⟨⟨rfl, rfl, rfl⟩, ?_⟩)) rfl) rfl ?_
 refine AlQ [.int .i64 0, .slice none 0 0, .slice none 0 0] rfl el30 rfl rfl (fun g3 => ?_)
 refine wl_storeAll 0 [_, _, _] rfl el30 rfl rfl rfl (by (simp [Value.oneCell']; done)) rfl rfl rfl rfl rfl ?_
 refine RnQ (ws_seq (RsQ (Qm rfl (Qx (ox_lenR hL.rd.any rfl underlying24 rfl) rfl (Qm rfl (RnQ (ws_block (ws_emp ?_))))))))
 refine ws_loop (fun q sl hh ms' => ∃ (i : Nat) (vd va : Value) (ma md : Hp) (A : List Ar), q = l.length - i ∧ sl = [(2, .pointer (some ⟨g2, 0, none⟩)), (3, .pointer (some ⟨g3, 0, none⟩)), (9, vl), (10, .int .i64 l.length), (11, .int .i64 i)] ∧ h.le hh ∧ ms' = [ma, Blk g3 30 [.int .i64 5, vd, va], md, Blk g2 30 [.int .i64 0, .slice none 0 0, .slice none 0 0]] ∧ i ≤ l.length ∧ OwnL cA 5 45 ma va A ∧ OwnL cI 1 3 md vd (List.replicate (i + 1) 1) ∧ A.map Ar.core = (l.take i).map oneA ∧ ∀ a ∈ A, RdL cI 1 hh [] a.v a.M.e)
  (l.length - 0) _ ⟨0, _, _, _, _, [], rfl, rfl, Hp.le_refl _, rfl, by omega, OwnL.nil cA_len, OwnL.rep (g := g7) (el := 3) 1 1 (by omega), by simp, by simp⟩ Qs ?_
 rintro q sl hh ms' ⟨i, vd, va, ma, md, A, rfl, rfl, lh, rfl, hi, hOa, hOd, hA, hE⟩
 have hL := hL.up lh
 have hAl : A.length = i := by have := congrArg List.length hA; simp at this; omega
 refine RsQ (Qx (ox_lss rfl rfl rfl) rfl (RnQ (ws_seq ?_)))
 refine ws_if rfl (fun hlt => ?_) (fun hlt => ?_)
 ·have hil : i < l.length := nat_lt_of hlt
  have hbi := hb _ (List.getElem_mem hil)
  refine ws_skip (nx_then (ws_seq (ws_block (RsQ (Qx (ox_indexR (i) hL.rd.any rfl underlying24 el3 rfl rfl (by omega) (by omega)) rfl (Qx (ox_load rfl underlying3 rfl rfl (hL.any.cell0 hil rfl)) rfl (Qm rfl (RtQ (Qm rfl (Qx (ox_lss rfl rfl rfl) rfl ?_))))))))))
  refine Qx (ox_buildS st45 [.bool false, .int .i64 0, .int .i64 0, .int .i64 0, .slice none 0 0] [(0, _)] [_, _, _, _, _] rfl el45 rfl rfl (by repeat (first | exact trivial | refine ⟨⟨rfl, rfl, rfl⟩, ?_⟩)) rfl) rfl ?_
  refine AlQ [.bool false, .int .i64 0, .int .i64 0, .int .i64 0, .slice none 0 0] rfl el45 rfl rfl (fun g6 => ?_)
  refine wl_storeAll 0 [_, _, _, _, _] rfl el45 rfl rfl rfl (by (simp [Value.oneCell']; done)) rfl rfl rfl rfl rfl ?_
  refine RtQ (Qm rfl (Qm rfl (Qx (ox_neg rfl rfl (by omega)) rfl (Qx (ox_max rfl rfl rfl) rfl (Qx (ox_remP rfl rfl rfl (by omega) (by omega)) rfl ?_)))))
  refine wl_buildSlice1 [_] rfl underlying24 el3 rfl (by rfl) rfl rfl (by omega) rfl rfl rfl (fun g23 => ?_)
  refine Qx (ox_buildS st42 [.int .i64 0, .int .i64 0, .int .i64 0, .slice none 0 0] [(0, _), (1, _), (2, _), (3, _)] [_, _, _, _] rfl el42 rfl rfl (by repeat (first | exact trivial | refine ⟨⟨rfl, rfl, rfl⟩, ?_⟩)) rfl) rfl ?_
  refine Qx (ox_fieldF fd45_1 rfl rfl) rfl ?_
  refine wl_storeSeg 1 1 [.int .i64 5, .int .i64 1, .int .i64 1, .slice (some ⟨g23, 0, none⟩) 1 1] rfl el42 rfl rfl rfl rfl (by simp [Value.oneCell']) rfl (by simp) rfl rfl ?_
  refine RnQ (ws_freezeL (OwnL.blk (g := g23) (el := 3) (l := [max l[i] (-l[i]) % 9]) 1 cI_len rfl (by omega)) fun h3 l3 hRe => ?_)
  have o1 : vd.oneCell' = true := (hOd.rd (h := h) (ms := [md]) (List.Mem.head _)).rd.one
  refine RsQ (Qx (ox_fieldF fd30_1 rfl rfl) rfl (Qx (ox_load rfl underlying24 rfl rfl (Cell.blk 2 rfl rfl)) rfl ?_))
  refine wl_buildSlice1 [_] rfl underlying24 el3 rfl (by rfl) rfl rfl (by omega) rfl rfl rfl (fun g28 => ?_)
  refine wl_appendL 4 hOd (RdL.one cI_len (x := 1) (List.Mem.head _) rfl) rfl underlying24 el3 rfl (by omega) rfl rfl rfl cI_one (by simp only [List.length_singleton, List.length_replicate]; omega) (by simp only [List.length_singleton, List.length_replicate]; omega) rfl rfl rfl (fun vd2 md2 hOd2 => ?_)
  have o1 : vd2.oneCell' = true := (hOd2.rd (h := h) (ms := [md2]) (List.Mem.head _)).rd.one
  have hXE : RdL cI 1 h3 [] (Ar.mk (decide (l[i] < 0)) ⟨5, 1, 1, [max l[i] (-l[i]) % 9]⟩ (.slice (some ⟨g23, 0, none⟩) 1 1)).v (Ar.mk (decide (l[i] < 0)) ⟨5, 1, 1, [max l[i] (-l[i]) % 9]⟩ (.slice (some ⟨g23, 0, none⟩) 1 1)).M.e := hRe
  have o2 : va.oneCell' = true := (hOa.rd (h := h) (ms := [ma]) (List.Mem.head _)).rd.one
  refine Qx (ox_fieldF fd30_1 rfl rfl) rfl ?_
  refine wl_storeAt 3 _ rfl el24 rfl rfl (by assumption) rfl rfl (by (simp; done)) rfl rfl ?_
  refine RrQ (Qx (ox_fieldF fd30_2 rfl rfl) rfl (Qx (ox_load rfl underlying28 rfl rfl (Cell.blk 3 rfl rfl)) rfl (Qx (ox_loadG rfl underlying45 rfl el45 rfl rfl (Seg.blk 1 rfl)) rfl ?_)))
  refine wl_buildSlice1 [_, _, _, _, _] rfl underlying28 el45 rfl (by rfl) rfl rfl (by omega) rfl rfl rfl (fun g34 => ?_)
  refine wl_appendV 3 hOa (RdL.one cA_len (x := ⟨decide (l[i] < 0), ⟨5, 1, 1, [max l[i] (-l[i]) % 9]⟩, .slice (some ⟨g23, 0, none⟩) 1 1⟩) (List.Mem.head _) rfl) rfl underlying28 el45 rfl (by omega) rfl rfl rfl (one_ar rfl) (by simp only [List.length_singleton, List.length_replicate]; omega) (by simp only [List.length_singleton, List.length_replicate]; omega) rfl rfl rfl (fun va2 ma2 hOa2 => ?_)
  have o2 : va2.oneCell' = true := (hOa2.rd (h := h) (ms := [ma2]) (List.Mem.head _)).rd.one
  refine Qx (ox_fieldF fd30_2 rfl rfl) rfl ?_
  refine wl_storeAt 4 _ rfl el28 rfl rfl (by assumption) rfl rfl (by (simp; done)) rfl rfl ?_
  refine wl_nil (nx_block (nx_then (ws_region (Qx (ox_add rfl rfl rfl (by omega)) rfl (Qm rfl (wl_nil (nx_drop (nx_drop (nx_drop ?_)))))))))
  refine nx_round (l.length - (i + 1)) _ (by omega) ⟨i + 1, vd2, va2, ma2, md2, _, rfl, rfl, Hp.le_trans lh l3, rfl, by omega, hOa2, by rw [List.replicate_succ']; exact hOd2, ?_, fun a ha => ?_⟩ Qs
  ·rw [List.map_append, hA, List.take_succ_eq_append_getElem hil, List.map_append]; rfl
  ·rcases List.mem_append.1 ha with ha | ha
   ·exact (hE a ha).up l3
   ·rw [List.mem_singleton.1 ha]; exact hXE
 ·obtain rfl : i = l.length := by omega
  have o1 : vd.oneCell' = true := (hOd.rd (h := h) (ms := [md]) (List.Mem.head _)).rd.one
  have o2 : va.oneCell' = true := (hOa.rd (h := h) (ms := [ma]) (List.Mem.head _)).rd.one
  refine ws_freezeL hOa fun h3 l3 hRa => (ws_top 1 rfl (ws_freezeL hOd fun h4 l4 hRd => (ws_exit (nx_then_exit (nx_then_exit (nx_block_exit (nx_then (RsQ (Qx (ox_loadG rfl underlying30 rfl el30 rfl rfl (Seg.blk 0 rfl)) rfl ?_)))))))))
  refine wl_storeAll 1 [_, _, _] rfl el30 rfl rfl rfl (by (simp [o1, o2]; done)) rfl rfl rfl rfl rfl ?_
  refine RnQ (ws_ret (nx_dropAt 0 rfl ?_))
  exact nx_retD (vs := [_, _, _]) 0 rfl rfl underlying30 rfl el30 rfl rfl (⟨Hp.le_trans lh (Hp.le_trans l3 l4), rfl, ⟨5, List.replicate (l.length + 1) 1, A⟩, vd, va, rfl, ⟨hRd, hRa.up l4, fun a ha => (hE a ha).up (Hp.le_trans l3 l4)⟩, rfl, rfl, by rw [hA, List.take_length]⟩)
def wideL (n : Int) : List (Bool × FM) := [(false, ⟨5, 2, 1, [1, 1]⟩), (true, ⟨5, 2, 1, [max n 1, n]⟩)]
theorem wide_ok (n : Int) (h : Hp) (hn : 0 ≤ n ∧ n ≤ 9) : FnT Tryz.prog 38 #[.int .i64 n] h [] (fun r h' ms' => h.le h' ∧ ms' = [] ∧ ∃ (Z : Zz) (vd va : Value), r = .agg #[.int .i64 Z.p, vd, va] ∧ RdZ h' vd va Z ∧ Z.p = 5 ∧ Z.dims = [1, 2, 1] ∧ Z.ars.map Ar.core = wideL n) := by
 refine fn_enter func38 ntmps38 rfl rfl (fun w0 hw0 => ?_)
 simp only [argS]
 refine RsQ (AlQ [.int .i64 0, .slice none 0 0, .slice none 0 0] rfl el30 rfl rfl (fun g2 => RtQ ?_))
 refine wl_buildSlice [(0, _), (1, _), (2, _)] [.int .i64 0, .int .i64 0, .int .i64 0] [_, _, _] rfl underlying24 el3 rfl (by omega) (by kernel_rfl) (by repeat (first | exact trivial | refine ⟨⟨by rfl, rfl, rfl⟩, ?_⟩)) rfl rfl rfl rfl (fun g3 => ?_)
 refine wl_buildSlice [(0, _), (1, _)] [.int .i64 0, .int .i64 0] [_, _] rfl underlying24 el3 rfl (by omega) (by kernel_rfl) (by repeat (first | exact trivial | refine ⟨⟨by rfl, rfl, rfl⟩, ?_⟩)) rfl rfl rfl rfl (fun g4 => ?_)
 refine Qx (ox_buildS st42 [.int .i64 0, .int .i64 0, .int .i64 0, .slice none 0 0] [(0, _), (1, _), (2, _), (3, _)] [_, _, _, _] rfl el42 rfl rfl (by repeat (first | exact trivial | refine ⟨⟨rfl, rfl, rfl⟩, ?_⟩)) rfl) rfl ?_
 refine Qx (ox_buildS st45 [.bool false, .int .i64 0, .int .i64 0, .int .i64 0, .slice none 0 0] [(1, _)] [_, _, _, _, _] rfl el45 rfl rfl (by repeat (first | exact trivial | refine ⟨⟨rfl, rfl, rfl⟩, ?_⟩)) rfl) rfl ?_
 refine Qm rfl (Qx (ox_max rfl rfl rfl) rfl (Qm rfl ?_))
 refine wl_buildSlice [(0, _), (1, _)] [.int .i64 0, .int .i64 0] [_, _] rfl underlying24 el3 rfl (by omega) (by kernel_rfl) (by repeat (first | exact trivial | refine ⟨⟨by rfl, rfl, rfl⟩, ?_⟩)) rfl rfl rfl rfl (fun g10 => ?_)
 refine Qx (ox_buildS st42 [.int .i64 0, .int .i64 0, .int .i64 0, .slice none 0 0] [(0, _), (1, _), (2, _), (3, _)] [_, _, _, _] rfl el42 rfl rfl (by repeat (first | exact trivial | refine ⟨⟨rfl, rfl, rfl⟩, ?_⟩)) rfl) rfl ?_
 refine Qx (ox_buildS st45 [.bool false, .int .i64 0, .int .i64 0, .int .i64 0, .slice none 0 0] [(0, _), (1, _)] [_, _, _, _, _] rfl el45 rfl rfl (by repeat (first | exact trivial | refine ⟨⟨rfl, rfl, rfl⟩, ?_⟩)) rfl) rfl ?_
 refine wl_buildSlice [(0, _), (5, _)] [.bool false, .int .i64 0, .int .i64 0, .int .i64 0, .slice none 0 0, .bool false, .int .i64 0, .int .i64 0, .int .i64 0, .slice none 0 0] [_, _, _, _, _, _, _, _, _, _] rfl underlying28 el45 rfl (by omega) (by kernel_rfl) (by repeat (first | exact trivial | refine ⟨⟨by rfl, rfl, rfl⟩, ?_⟩)) rfl rfl rfl rfl (fun g13 => ?_)
 refine Qx (ox_buildS st30 [.int .i64 0, .slice none 0 0, .slice none 0 0] [(0, _), (1, _), (2, _)] [_, _, _] rfl el30 rfl rfl (by repeat (first | exact trivial | refine ⟨⟨rfl, rfl, rfl⟩, ?_⟩)) rfl) rfl ?_
 refine wl_freezeL (OwnL.blk (g := g13) (el := 45) (F := cA) (l := [⟨false, ⟨5, 2, 1, [1, 1]⟩, .slice (some ⟨g4, 0, none⟩) 2 2⟩, ⟨true, ⟨5, 2, 1, [max n 1, n]⟩, .slice (some ⟨g10, 0, none⟩) 2 2⟩]) 2 cA_len rfl (by omega)) fun h1 l1 hRa => (wl_freezeL (OwnL.blk (g := g10) (el := 3) (F := cI) (l := [max n 1, n]) 2 cI_len rfl (by omega)) fun h2 l2 hR2 => (wl_freezeL (OwnL.blk (g := g4) (el := 3) (F := cI) (l := [1, 1]) 2 cI_len rfl (by omega)) fun h3 l3 hR1 => (wl_freezeL (OwnL.blk (g := g3) (el := 3) (F := cI) (l := [1, 2, 1]) 3 cI_len rfl (by omega)) fun h4 l4 hRd => ?_)))
 have hE : ∀ a ∈ [(⟨false, ⟨5, 2, 1, [1, 1]⟩, .slice (some ⟨g4, 0, none⟩) 2 2⟩ : Ar), ⟨true, ⟨5, 2, 1, [max n 1, n]⟩, .slice (some ⟨g10, 0, none⟩) 2 2⟩], RdL cI 1 h4 [] a.v a.M.e := fun a ha => by
  simp only [List.mem_cons, List.not_mem_nil, or_false] at ha
  rcases ha with rfl | rfl
  ·exact hR1.up l4
  ·exact hR2.up (Hp.le_trans l3 l4)
 refine wl_storeAll 0 [_, _, _] rfl el30 rfl rfl rfl (by (simp [Value.oneCell']; done)) rfl rfl rfl rfl rfl ?_
 refine RnQ (ws_ret ?_)
 exact nx_retD (vs := [_, _, _]) 0 rfl rfl underlying30 rfl el30 rfl rfl (⟨Hp.le_trans l1 (Hp.le_trans l2 (Hp.le_trans l3 l4)), rfl, ⟨5, [1, 2, 1], [⟨false, ⟨5, 2, 1, [1, 1]⟩, .slice (some ⟨g4, 0, none⟩) 2 2⟩, ⟨true, ⟨5, 2, 1, [max n 1, n]⟩, .slice (some ⟨g10, 0, none⟩) 2 2⟩]⟩, _, _, rfl, ⟨hRd, hRa.up (Hp.le_trans l2 (Hp.le_trans l3 l4)), hE⟩, rfl, rfl, rfl⟩)
end Go.Proofs.YtdnelknieikbaaaGreat
namespace Go.Proofs.YtdnelknieikbaaaGreat
open Go.Eng Go.RowKit Go.Lin Go.Sort Go.Srt
variable {Z : Zz} {c : List (Bool × FM)}
def mkZz (p : Int) (dims : List Int) (c : List (Bool × FM)) : Zz := ⟨p, dims, c.map fun x => ⟨x.1, x.2, .slice none 0 0⟩⟩
theorem zg_core (h : Z.ars.map Ar.core = c) : Z.zg = (mkZz Z.p Z.dims c).zg := by
 subst h
 have e : ∀ k, ((Z.ars.map Ar.core).map fun x : Bool × FM => (⟨x.1, x.2, .slice none 0 0⟩ : Ar))[k]? = (Z.ars[k]?).map fun a : Ar => (⟨a.b, a.M, .slice none 0 0⟩ : Ar) := fun k => by rw [List.map_map, List.getElem?_map]; rfl
 unfold Zz.zg mkZz
 simp only [e]
 congr 1
 ·funext k; cases Z.ars[k]? <;> rfl
 ·funext k; cases Z.ars[k]? <;> rfl
theorem rt_core (h : Z.ars.map Ar.core = c) : Z.Rt ↔ (mkZz Z.p Z.dims c).Rt := by
 subst h
 unfold Zz.Rt mkZz
 simp only [List.length_map]
 refine and_congr_right fun _ => and_congr_right fun _ => and_congr_right fun _ => and_congr_right fun _ => and_congr_right fun _ => (forall_congr' fun k => forall_congr' fun hk => ?_)
 simp only [List.getElem_map]
 exact Iff.rfl
theorem Zz.Rt.ok (h : Z.Rt) : Z.Ok := by
 obtain ⟨h1, h2, h3, h4, h5, h6⟩ := h
 have hp1 := h4.1
 have hp2 := h4.2.1
 refine ⟨⟨by omega, by omega⟩, fun x hx => ?_, fun a ha => ?_⟩
 ·have := h5 x hx
  exact ⟨by omega, by omega⟩
 ·obtain ⟨k, hk, rfl⟩ := List.mem_iff_getElem.1 ha
  obtain ⟨⟨q1, ⟨q2, q3, q4, q5⟩, _⟩, _⟩ := h6 k hk
  have := q1.1
  have := q1.2.1
  exact ⟨⟨by omega, by omega⟩, ⟨by omega, by omega⟩, ⟨by omega, by omega⟩⟩
theorem barsOf_list {D : Dc} {ks : List (Int × Int)} (h : (List.range D.N).map (fun l => ((D.fr l : Int), (D.to l : Int))) = ks) (hs : ks.Pairwise fun a b => cmp2 a b < 0) : BarsOf D.ct (ks.map fun a => ⟨a.1, a.2, 1⟩) := by
 have hc : ∀ a, D.ct a = ks.count a := fun a => by rw [← h]; exact (ct_count (List.Perm.refl _) (fun _ _ => rfl) a).symm
 have hn : ks.Nodup := hs.imp fun {a b} h e => by
  subst e
  rw [cmp2_lt] at h
  omega
 refine ⟨ks, List.map_congr_left fun a ha => ?_, hs, fun a => ?_⟩
 ·rw [hc, hn.count, if_pos ha]; rfl
 ·rw [hc, List.count_pos_iff]
def Ex (Z : Zz) (ks : List (Int × Int)) : Prop := Z.Rt ∧ ∃ D, Valid Z.zg D ∧ BarsOf D.ct (ks.map fun a => ⟨a.1, a.2, 1⟩)
theorem ex_of {p : Int} {dims : List Int} {ks : List (Int × Int)} (h1 : Z.p = p) (h2 : Z.dims = dims) (h3 : Z.ars.map Ar.core = c) (D : Dc) (U : Nat → Nat → Nat → Int) (hr : decide (mkZz p dims c).Rt = true) (hv : validB (mkZz p dims c).zg D U = true) (hk : (List.range D.N).map (fun l => ((D.fr l : Int), (D.to l : Int))) = ks) (hs : ks.Pairwise fun a b => cmp2 a b < 0) : Ex Z ks := by
 subst h1 h2
 refine ⟨(rt_core h3).2 (of_decide_eq_true hr), D, ?_, barsOf_list hk hs⟩
 rw [zg_core h3]
 exact validB_ok U hv
def two (l a b : Nat) : Nat := if l = 0 then a else b
theorem ex1 (h1 : Z.p = 5) (h2 : Z.dims = [1, 1, 1]) (h3 : Z.ars.map Ar.core = [1, 1].map oneA) : Ex Z [(0, 2)] :=
 ex_of h1 h2 h3 ⟨1, fun _ => 0, fun _ => 2, fun _ _ _ => 1⟩ (fun _ _ _ => 1) (by decide) (by decide) rfl (by decide)
theorem ex2 (h1 : Z.p = 5) (h2 : Z.dims = [1, 1, 1]) (h3 : Z.ars.map Ar.core = [1, 9].map oneA) : Ex Z [(0, 1), (2, 2)] :=
 ex_of h1 h2 h3 ⟨2, fun l => two l 0 2, fun l => two l 1 2, fun _ _ _ => 1⟩ (fun _ _ _ => 1) (by decide) (by decide) rfl (by decide)
theorem ex3 (h1 : Z.p = 5) (h2 : Z.dims = [1, 1, 1]) (h3 : Z.ars.map Ar.core = [1, -2].map oneA) : Ex Z [(0, 2)] :=
 ex_of h1 h2 h3 ⟨1, fun _ => 0, fun _ => 2, fun _ k _ => if k = 2 then 3 else 1⟩ (fun k _ _ => if k = 2 then 2 else 1) (by decide) (by decide) rfl (by decide)
theorem ex4 (h1 : Z.p = 5) (h2 : Z.dims = [1, 1, 1]) (h3 : Z.ars.map Ar.core = [9, -1].map oneA) : Ex Z [(0, 0), (1, 2)] :=
 ex_of h1 h2 h3 ⟨2, fun l => two l 0 1, fun l => two l 0 2, fun _ _ _ => 1⟩ (fun _ _ _ => 1) (by decide) (by decide) rfl (by decide)
theorem ex5 (h1 : Z.p = 5) (h2 : Z.dims = [1, 1, 1]) (h3 : Z.ars.map Ar.core = [-9, 3].map oneA) : Ex Z [(0, 0), (1, 2)] :=
 ex_of h1 h2 h3 ⟨2, fun l => two l 0 1, fun l => two l 0 2, fun _ k _ => if k = 2 then 3 else 1⟩ (fun k _ _ => if k = 2 then 2 else 1) (by decide) (by decide) rfl (by decide)
theorem ex6 (h1 : Z.p = 5) (h2 : Z.dims = [1, 2, 1]) (h3 : Z.ars.map Ar.core = wideL 0) : Ex Z [(0, 1), (1, 2)] :=
 ex_of h1 h2 h3 ⟨2, fun l => two l 0 1, fun l => two l 1 2, fun l k i => if k = 1 ∧ l = 1 ∧ i = 1 then 0 else 1⟩ (fun k l i => if k = 1 then (if l = 0 then (if i = 0 then 0 else 1) else (if i = 0 then 1 else 4)) else 1) (by decide) (by decide) rfl (by decide)
theorem ex7 (h1 : Z.p = 5) (h2 : Z.dims = [1, 2, 1]) (h3 : Z.ars.map Ar.core = wideL 2) : Ex Z [(0, 2), (1, 1)] :=
 ex_of h1 h2 h3 ⟨2, fun l => two l 0 1, fun l => two l 2 1, fun l k i => if k = 1 ∧ l = 1 ∧ i = 1 then 0 else if k = 2 then 3 else 1⟩ (fun k l i => if k = 1 then (if l = 0 then (if i = 0 then 0 else 1) else (if i = 0 then 1 else 4)) else if k = 2 then 2 else 1) (by decide) (by decide) rfl (by decide)
end Go.Proofs.YtdnelknieikbaaaGreat
namespace Go.Eng
open Go.RowKit Go.Sort
variable {w : World}
theorem Ext.grown {w' : World} (e : Ext w w') : ∃ q os', w' = grow (w.drewN q) os' := by
  refine ⟨w'.drawn - w.drawn, w'.heap.extract w.heap.size w'.heap.size, ?_⟩
  have hh : w'.heap = w.heap ++ w'.heap.extract w.heap.size w'.heap.size := by
    apply Array.ext_getElem?
    intro i
    rcases Nat.lt_or_ge i w.heap.size with h | h
    · rw [Array.getElem?_append_left h, e.block i h]
    · rw [Array.getElem?_append_right h]
      rcases Nat.lt_or_ge i w'.heap.size with h2 | h2
      · simp [Array.getElem?_extract]
        rw [if_pos (by omega)]
        congr 1; omega
      · rw [Array.getElem?_eq_none h2]
        symm
        apply Array.getElem?_eq_none
        simp; omega
  have hd : w'.drawn = w.drawn + (w'.drawn - w.drawn) := by have := e.tape.drawn; omega
  have h1 := e.os
  have h2 := e.tape.tape
  have h3 := e.output
  obtain ⟨heap, tape, drawn, os, output⟩ := w'
  obtain ⟨heap', tape', drawn', os', output'⟩ := w
  simp only at *
  subst h1 h2 h3
  simp only [grow, World.drewN, World.mk.injEq, true_and, and_true]
  exact ⟨hh, hd⟩
section
variable {α : Type} [Inhabited α] {enc : α → List Value} {k : Nat}
theorem flatK_get (hk : ∀ x, (enc x).length = k) (hk0 : 0 < k) (d : Array α) {t : Nat} (ht : t < d.size * k) : (d.toList.flatMap enc)[t]? = some (flatK enc k d)[t]! := by
  have hj : t / k < d.size := Nat.div_lt_of_lt_mul (by rw [Nat.mul_comm]; exact ht)
  have hm := Nat.mod_lt t hk0
  rw [get_flatK enc k d t ht]
  have h1 := flatMap_get hk d.toList (t / k) (by simpa using hj) (t % k) ((enc d[t / k]!)[t % k]!) (by
    have e : d.toList[t / k]'(by simpa using hj) = d[t / k]! := by simp [hj]
    rw [e]
    have : t % k < (enc d[t / k]!).length := by rw [hk]; exact hm
    simp [this])
  rwa [Nat.mul_comm, Nat.div_add_mod] at h1
theorem put_flat (hk : ∀ x, (enc x).length = k) (hk0 : 0 < k) (d d' : Array α) (hs : d'.size = d.size) (spare : List Value) : putCells id 0 (flatK enc k d') (d.toList.flatMap enc ++ spare).toArray = (d'.toList.flatMap enc ++ spare).toArray := by
  have l1 : (d.toList.flatMap enc).length = d.size * k := by rw [flatMap_len hk]; simp
  have l2 : (d'.toList.flatMap enc).length = d.size * k := by rw [flatMap_len hk]; simp [hs]
  apply Array.ext_getElem?
  intro t
  unfold putCells
  rw [Array.getElem?_mapIdx, List.getElem?_toArray, List.getElem?_toArray]
  rcases Nat.lt_or_ge t (d.size * k) with h | h
  · rw [List.getElem?_append_left (by omega), List.getElem?_append_left (by omega), flatK_get hk hk0 d h, flatK_get hk hk0 d' (by rw [hs]; exact h)]
    simp only [Option.map_some]
    rw [if_pos ⟨Nat.zero_le _, by rw [size_flatK, hs]; omega⟩]
    rfl
  · rw [List.getElem?_append_right (by omega), List.getElem?_append_right (by omega), l1, l2]
    cases spare[t - d.size * k]? with
    | none => rfl
    | some u =>
      simp only [Option.map_some]
      rw [if_neg]
      rw [size_flatK, hs]; omega
theorem holds_own {g : Nat} {el : TypeId} (hk : ∀ x, (enc x).length = k) (hk0 : 0 < k) (d : Array α) (spare : List Value) (hg : w.heap[g]? = some (.cells (d.toList.flatMap enc ++ spare).toArray el (0, 0))) : HoldsK enc k w g 0 d := by
  intro j hj
  rw [size_flatK] at hj
  have l1 : (d.toList.flatMap enc).length = d.size * k := by rw [flatMap_len hk]; simp
  have h1 := flatK_get hk hk0 d hj
  constructor
  · have : (d.toList.flatMap enc ++ spare)[j]? = some (flatK enc k d)[j]! := by rw [List.getElem?_append_left (by omega)]; exact h1
    simp [World.cell?, hg, this]
  · simp [World.frozen?, hg]
end
theorem ends_sort {α : Type} [Inhabited α] {enc : α → List Value} {k : Nat} {h : Hp} {g n : Nat} {el : TypeId} (hk : ∀ x, (enc x).length = k) (hk0 : 0 < k) (d d' : Array α) (hs : d'.size = d.size) (spare : List Value) (os : Array Obj) (hS : St w h [Blk g el (d.toList.flatMap enc ++ spare)]) :
    Ends w h [Blk g el (d.toList.flatMap enc ++ spare)] (Go.Proofs.sortWorldK enc k w g 0 n d' os) h [Blk g el (d'.toList.flatMap enc ++ spare)] := by
  have hg : w.heap[g]? = some (.cells (d.toList.flatMap enc ++ spare).toArray el (0, 0)) := hS.own _ (List.mem_singleton.2 rfl) g _ (Hp.one_self _ _)
  have hlt := (Array.getElem?_eq_some_iff.1 hg).1
  have hv := (Array.getElem?_eq_some_iff.1 hg).2
  have hsz : (putRowK enc k (Go.Sort.ahead w n) g 0 d').heap.size = w.heap.size := by simp [putRowK, putRow, mapBlock, ahead]
  have hg' : (putRowK enc k (Go.Sort.ahead w n) g 0 d').heap[g]? = some (.cells (d'.toList.flatMap enc ++ spare).toArray el (0, 0)) := by
    show (w.heap.modify g (onCells (putCells id 0 (flatK enc k d'))))[g]? = _
    rw [Array.getElem?_eq_getElem (by simpa using hlt), Array.getElem_modify]
    simp [hv, onCells, put_flat hk hk0 d d' hs spare]
  have ho' : ∀ j, j < w.heap.size → j ≠ g → (putRowK enc k (Go.Sort.ahead w n) g 0 d').heap[j]? = w.heap[j]? := fun j _ hne => by
    show (w.heap.modify g (onCells (putCells id 0 (flatK enc k d'))))[j]? = _
    simp [Array.getElem?_modify, Ne.symm hne]
  refine Ends.change (Ends.refl hS) rfl ⟨rfl, ?_⟩ rfl ?_ ?_ ?_
  · show w.drawn ≤ w.drawn + n
    omega
  · show w.heap.size ≤ ((putRowK enc k (Go.Sort.ahead w n) g 0 d').heap ++ os).size
    rw [Array.size_append, hsz]; omega
  · show ((putRowK enc k (Go.Sort.ahead w n) g 0 d').heap ++ os)[g]? = _
    rw [Array.getElem?_append_left (by rw [hsz]; exact hlt), hg']
  · intro j hj hne
    show ((putRowK enc k (Go.Sort.ahead w n) g 0 d').heap ++ os)[j]? = _
    rw [Array.getElem?_append_left (by rw [hsz]; exact hj), ho' j hj hne]
end Go.Eng
namespace Go.Proofs
open Go.Shelf
def Tryz.laysSlF06_f76_ren : Go.Shelf.Ren := ⟨fun | 6 => 76 | 15 => 104 | 14 => 103 | 28 => 130 | 29 => 131 | 20 => 122 | 21 => 123 | 22 => 124 | 23 => 125 | 24 => 126 | 25 => 127 | 26 => 128 | 27 => 129 | 46 => 140 | 47 => 141 | 48 => 142 | 49 => 143 | 50 => 144 | 57 => 153 | n => n, fun | 22 => 81 | 24 => 53 | 25 => 86 | 3 => 3 | 39 => 143 | 0 => 0 | 53 => 167 | 55 => 169 | 4 => 4 | 46 => 160 | 45 => 159 | 50 => 164 | 5 => 5 | 9 => 9 | 66 => 174 | 70 => 178 | 76 => 191 | 77 => 116 | n => n, fun | n => n⟩
theorem Tryz.laysSlF06_f76 : Go.Proofs.SlLaysF0.n6 Tryz.prog Tryz.laysSlF06_f76_ren := {
  mixed := by kernel_rfl
  f6 := ⟨Tryz.f76.name, by decide, Tryz.func76.trans (congrArg some (by kernel_rfl))⟩
  f14 := ⟨Tryz.f103.name, by decide, Tryz.func103.trans (congrArg some (by kernel_rfl))⟩
  f15 := Tryz.func104.trans (congrArg some (by kernel_rfl))
  f20 := ⟨Tryz.f122.name, by decide, Tryz.func122.trans (congrArg some (by kernel_rfl))⟩
  f21 := ⟨Tryz.f123.name, by decide, Tryz.func123.trans (congrArg some (by kernel_rfl))⟩
  f22 := ⟨Tryz.f124.name, by decide, Tryz.func124.trans (congrArg some (by kernel_rfl))⟩
  f23 := ⟨Tryz.f125.name, by decide, Tryz.func125.trans (congrArg some (by kernel_rfl))⟩
  f24 := ⟨Tryz.f126.name, by decide, Tryz.func126.trans (congrArg some (by kernel_rfl))⟩
  f25 := ⟨Tryz.f127.name, by decide, Tryz.func127.trans (congrArg some (by kernel_rfl))⟩
  f26 := ⟨Tryz.f128.name, by decide, Tryz.func128.trans (congrArg some (by kernel_rfl))⟩
  f27 := ⟨Tryz.f129.name, by decide, Tryz.func129.trans (congrArg some (by kernel_rfl))⟩
  f28 := Tryz.func130.trans (congrArg some (by kernel_rfl))
  f29 := Tryz.func131.trans (congrArg some (by kernel_rfl))
  f46 := ⟨Tryz.f140.name, by decide, Tryz.func140.trans (congrArg some (by kernel_rfl))⟩
  f47 := Tryz.func141.trans (congrArg some (by kernel_rfl))
  f48 := Tryz.func142.trans (congrArg some (by kernel_rfl))
  f49 := ⟨Tryz.f143.name, by decide, Tryz.func143.trans (congrArg some (by kernel_rfl))⟩
  f50 := ⟨Tryz.f144.name, by decide, Tryz.func144.trans (congrArg some (by kernel_rfl))⟩
  f57 := ⟨Tryz.f153.name, by decide, Tryz.func153.trans (congrArg some (by kernel_rfl))⟩
  t0 := Tryz.underlying0
  a0 := Tryz.isAgg0
  z0 := Tryz.sizeOf0
  v0 := Tryz.zeroValue0
  t3 := Tryz.underlying3
  a3 := Tryz.isAgg3
  z3 := Tryz.sizeOf3
  v3 := Tryz.zeroValue3
  t4 := Tryz.underlying4
  a4 := Tryz.isAgg4
  z4 := Tryz.sizeOf4
  v4 := Tryz.zeroValue4
  t5 := Tryz.underlying5
  a5 := Tryz.isAgg5
  z5 := Tryz.sizeOf5
  v5 := Tryz.zeroValue5
  t9 := Tryz.underlying9
  a9 := Tryz.isAgg9
  z9 := Tryz.sizeOf9
  v9 := Tryz.zeroValue9
  t22 := Tryz.underlying81
  a22 := Tryz.isAgg81
  z22 := Tryz.sizeOf81
  v22 := Tryz.zeroValue81
  t25 := Tryz.underlying86
  a25 := Tryz.isAgg86
  z25 := Tryz.sizeOf86
  v25 := Tryz.zeroValue86
  t39 := Tryz.underlying143
  a39 := Tryz.isAgg143
  z39 := Tryz.sizeOf143
  v39 := Tryz.zeroValue143
  t45 := Tryz.underlying159
  a45 := Tryz.isAgg159
  z45 := Tryz.sizeOf159
  v45 := Tryz.zeroValue159
  t46 := Tryz.underlying160
  a46 := Tryz.isAgg160
  z46 := Tryz.sizeOf160
  v46 := Tryz.zeroValue160
  t50 := Tryz.underlying164
  a50 := Tryz.isAgg164
  z50 := Tryz.sizeOf164
  v50 := Tryz.zeroValue164
  t53 := Tryz.underlying167
  a53 := Tryz.isAgg167
  z53 := Tryz.sizeOf167
  v53 := Tryz.zeroValue167
  t55 := Tryz.underlying169
  a55 := Tryz.isAgg169
  z55 := Tryz.sizeOf169
  v55 := Tryz.zeroValue169
  t66 := Tryz.underlying174
  a66 := Tryz.isAgg174
  z66 := Tryz.sizeOf174
  v66 := Tryz.zeroValue174
  t70 := Tryz.underlying178
  a70 := Tryz.isAgg178
  z70 := Tryz.sizeOf178
  v70 := Tryz.zeroValue178
  t76 := Tryz.underlying191
  a76 := Tryz.isAgg191
  z76 := Tryz.sizeOf191
  v76 := Tryz.zeroValue191
  t77 := Tryz.underlying116
  a77 := Tryz.isAgg116
  z77 := Tryz.sizeOf116
  v77 := Tryz.zeroValue116 }
end Go.Proofs
namespace Go.Proofs.YtdnelknieikbaaaGreat
open Tryz
open Go.Eng Go.RowKit Go.Lin Go.Sort Go.Srt
instance : Inhabited (Int × Int) := ⟨(0, 0)⟩
theorem ltP_swo : SWO (ltOf cmp2) := by
 refine ⟨fun x => ?_, fun x y z h1 h2 => ?_, fun x y z h1 h2 => ?_⟩
 ·unfold ltOf; rw [decide_eq_false_iff_not, cmp2_lt]; omega
 ·unfold ltOf at *; rw [decide_eq_true_iff, cmp2_lt] at *; omega
 ·unfold ltOf at *; rw [decide_eq_false_iff_not, cmp2_lt] at *; omega
theorem st_emp (w : World) : St w Hp.emp [] := ⟨fun g o e => (by cases e), fun m hm => (by simp at hm), fun m hm => (by simp at hm), List.Pairwise.nil⟩
theorem cmpLays (blk off size : Nat) (w : World) : CmpLays Tryz.prog 43 #[] cP 2 cmp2 blk off size w := fun m os dk _ x y =>
 (fnv (cmp_v x y Hp.emp) [] _ (st_emp _)).mono fun _ _ ⟨e, h⟩ => ⟨e, h.grown⟩
theorem sortFunc_ok (l : List (Int × Int)) (v : Value) (m h : Hp) (O : OwnL cP 2 53 m v l) (hl : l.length ≤ 1000000) :
  FnT Tryz.prog 76 #[v, .func (.func 43) #[] #[]] h [m] (fun _ h' ms' => h = h' ∧ ∃ (l' : List (Int × Int)) (m' : Hp), ms' = [m'] ∧ OwnL cP 2 53 m' v l' ∧ l'.Perm l ∧ l'.Pairwise fun a b => ¬ cmp2 b a < 0) := by
 intro w hw
 obtain ⟨⟨h1, h2⟩, hF⟩ := O
 rcases h2 with ⟨rfl, h4, rfl⟩ | ⟨g, cap, spare, rfl, rfl, e1, e2, e3⟩
 ·obtain rfl : l = [] := List.length_eq_zero_iff.1 h4
  refine (AnyF.slices_SortFunc_none Tryz.laysSlF06_f76 none 0 (.func (.func 43) #[] #[]) w).mono fun x w' ⟨e, ew⟩ => ?_
  subst ew
  exact ⟨_, h, [Hp.emp], e, Ends.refl hw, rfl, [], Hp.emp, rfl, OwnL.nil cP_len, List.Perm.refl _, List.Pairwise.nil⟩
 ·have hg : w.heap[g]? = some (.cells (l.toArray.toList.flatMap cP ++ spare).toArray 53 (0, 0)) := hw.own _ (List.mem_singleton.2 rfl) g _ (Hp.one_self _ _)
  have hlt := (Array.getElem?_eq_some_iff.1 hg).1
  refine (AnyQ.slices_SortFunc Tryz.laysSlF06_f76 2 Tryz.isAgg53 Tryz.sizeOf53 cP cP_len cP_one cmp2 ltP_swo 43 #[] g 0 cap l.toArray w call43 (cmpLays _ _ _ _) (holds_own cP_len (by omega) l.toArray spare hg) hlt (by simp; omega)).mono fun x w' ⟨e, d', n, os, P, S, ew⟩ => ?_
  subst ew
  have hsz : d'.size = l.length := by have := P.1; simpa using this
  have hE := ends_sort (enc := cP) (n := n) (el := 53) cP_len (by omega) l.toArray d' (by simpa using hsz) spare os hw
  refine ⟨_, h, _, e, hE, rfl, d'.toList, _, rfl, ⟨⟨?_, .inr ⟨g, cap, spare, ?_, rfl, ?_, ?_, e3⟩⟩, cP_len⟩, ?_, ?_⟩
  ·exact flatMap_len cP_len _
  ·have : d'.toList.length = l.length := by rw [Array.length_toList, hsz]
   rw [this]
  ·rw [List.length_append, flatMap_len cP_len, Array.length_toList, hsz, ← flatMap_len cP_len l, ← List.length_append]; exact e1
  ·rw [Array.length_toList, hsz]; exact e2
  ·have h := P.2.2
   have q1 : d'.extract 0 l.toArray.size = d' := by rw [← P.1]; simp
   have q2 : l.toArray.extract 0 l.toArray.size = l.toArray := by simp
   rw [q1, q2] at h
   exact h
  ·rw [List.pairwise_iff_getElem]
   intro i j hi hj hij
   have hi' : i < d'.size := by simpa using hi
   have hj' : j < d'.size := by simpa using hj
   have h := S i j (by omega) hij (by simp; omega)
   have q1 : d'[i]! = d'[i] := by simp [hi']
   have q2 : d'[j]! = d'[j] := by simp [hj']
   rw [q1, q2] at h
   exact of_decide_eq_false h
theorem sortedFunc_ok (g1 gT : Nat) (m : Hp) (T : List ((Int × Int) × Int)) (bs : List Nat) (h : Hp) (hG : Seg h [] ⟨g1, 0, none⟩ [.map (some gT)]) (O : OwnM kP kI gT POk m T bs) (hm : m.le h) (hT : T.length ≤ 1000000) :
  FnT Tryz.prog 41 #[.func (.func 77) #[] #[.pointer (some ⟨g1, 0, none⟩)], .func (.func 43) #[] #[]] h [] (fun r h' ms' => h.le h' ∧ ∃ (ks : List (Int × Int)) (mo : Hp), ms' = [mo] ∧ OwnL cP 2 53 mo r ks ∧ ks.Perm (T.map Prod.fst) ∧ ks.Pairwise fun a b => ¬ cmp2 b a < 0) := by
 refine fn_enter func41 ntmps41 rfl rfl (fun w0 hw0 => ?_)
 simp only [argS]
 refine RsQ (Qm rfl (RtQ (Qm rfl (wl_call rfl call75 rfl (collect_ok g1 gT m T bs h hG O hm hT) rfl rfl rfl (fun x h2 ms2 l2 hF => ?_)))))
 obtain ⟨l2', vis, mo, rfl, hp, hO⟩ := hF
 have hlen : (vis.map (keyAt T)).length ≤ 1000000 := by rw [List.length_map, hp.length_eq, List.length_range]; exact hT
 refine Qm rfl (RtQ (Qm rfl (Qm rfl (wl_call_ (pre := [mo]) rfl call76 rfl (sortFunc_ok (vis.map (keyAt T)) x mo h2 hO hlen) rfl rfl rfl rfl (fun y h3 ms3 l3 hF => ?_)))))
 obtain ⟨rfl, ks, mo2, rfl, hO2, hp2, hs⟩ := hF
 have ov : x.oneCell' = true := (hO2.rd (h := h) (ms := [mo2]) (List.Mem.head _)).rd.one
 refine RtQ (Qm rfl (Qm rfl (RnQ (ws_ret ?_))))
 exact nx_ret1 rfl rfl (⟨l2, ks, mo2, rfl, hO2, hp2.trans (by rw [← keyAt_map]; exact hp.map _), hs⟩)
end Go.Proofs.YtdnelknieikbaaaGreat
namespace Go.Proofs.YtdnelknieikbaaaGreat
open Tryz
open Go.Eng Go.RowKit Go.Lin Go.Sort Go.Srt
theorem bars_ok (Z : Zz) (vd va : Value) (h : Hp) (hO : Z.Ok) (hR : RdZ h vd va Z) :
  FnT Tryz.prog 17 #[.agg #[.int .i64 Z.p, vd, va]] h [] (fun r h' ms' => h.le h' ∧ ∃ (bl : List Iv) (m : Hp) (l : List StE), ms' = [m] ∧ OwnL cIv 3 37 m r bl ∧ l.length ≤ 20400 ∧ SpecL Z l ∧ BarsOf (fun a => (l.map StE.key).count a) bl) := by
 have o1 := hR.d.rd.one
 have o2 := hR.a.rd.one
 refine fn_enter func17 ntmps17 rfl rfl (fun w0 hw0 => ?_)
 simp only [argS]
 refine RsQ ?_
 refine wl_box [_, _, _] rfl rfl (by rfl) rfl rfl rfl (fun g1 => ?_)
 refine Qm rfl (RnQ (ws_freezeB fun h1 l1 hG1 => ?_))
 have hR := hR.up l1
 refine ws_cut (fun s hh ms' => ∃ (l : List StE) (gT : Nat) (m : Hp) (T : List ((Int × Int) × Int)) (bs : List Nat), s = [(3, .map (some gT))] ∧ h1.le hh ∧ ms' = [m] ∧ SpecL Z l ∧ l.length ≤ 20400 ∧ OwnM kP kI gT POk m T bs ∧ TC T (l.map StE.key)) ?_ (fun s h ms hI => ?_)
 ·refine ws_region (Qx (ox_loadG rfl underlying30 rfl el30 rfl rfl (Seg.any hG1)) rfl ?_)
  by_cases hRt : Z.Rt
  ·refine wl_call rfl call30 rfl (strands_ok Z vd va h1 hO hRt hR) rfl rfl rfl (fun r h2 ms2 l2 hF => ?_)
   obtain ⟨l2', N, S, e, L, m0, mB, rfl, hN, hO0, B, hp, hV, hbd, hsrt⟩ := hF
   have he : ∀ k, k < N → (e k).fr = (S k).fr ∧ (e k).to = (S k).to := fun k hk => by
    obtain ⟨x, _, h1, h2, _⟩ := B.all k hk
    exact ⟨h1, h2⟩
   have hlen := hp.length_eq
   rw [List.length_range] at hlen
   refine wl_freezeL hO0 fun h3 l3 hRr => ?_
   have hRd : Rd h3 [] r 3 N ((L.map e).flatMap cS) := by have := hRr.rd; rwa [List.length_map, hlen] at this
   have orr := hRr.rd.one
   refine wl_call rfl call40 rfl (values_v r N _ h3 hRd) rfl rfl rfl (fun q h4 ms4 l4 hF => ?_)
   obtain ⟨rfl, gv, rfl, rfl⟩ := hF
   refine wl_freezeB fun h5 l5 hGv => ?_
   refine wl_call rfl call39 rfl (counts_ok gv N r (L.map e) h5 hGv (hRr.up l5) (by rw [List.length_map, hlen]) (by omega) (key_ok hV hRt hp he)) rfl rfl rfl (fun c h6 ms6 l6 hF => ?_)
   obtain ⟨l6', gT, m, T, bs, rfl, rfl, O, C⟩ := hF
   refine Qm rfl (wl_nil (nx_top 1 rfl (nx_drop ?_)))
   exact nx_meet _ ⟨L.map e, gT, m, T, bs, rfl, Hp.le_trans l2 (Hp.le_trans l3 (Hp.le_trans l5 l6)), rfl, ⟨fun h => absurd hRt h, fun _ => ⟨N, S, e, L, rfl, hp, hV, he⟩⟩, by rw [List.length_map, hlen]; exact hN, O, C⟩ Qs
  ·refine wl_call rfl call30 rfl (strands_not Z vd va h1 hO hRt hR) rfl rfl rfl (fun r h2 ms2 l2 hF => ?_)
   obtain ⟨rfl, rfl⟩ := hF
   have hRr : RdL cS 3 h2 [] (.slice none 0 0) [] := (OwnL.nil cS_len (el := 64)).rdh (fun g o e => by cases e)
   refine wl_call rfl call40 rfl (values_v (.slice none 0 0) 0 _ h2 hRr.rd) rfl rfl rfl (fun q h4 ms4 l4 hF => ?_)
   obtain ⟨rfl, gv, rfl, rfl⟩ := hF
   refine wl_freezeB fun h5 l5 hGv => ?_
   refine wl_call rfl call39 rfl (counts_ok gv 0 (.slice none 0 0) [] h5 hGv (hRr.up l5) rfl (by omega) (fun s hs => by simp at hs)) rfl rfl rfl (fun c h6 ms6 l6 hF => ?_)
   obtain ⟨l6', gT, m, T, bs, rfl, rfl, O, C⟩ := hF
   refine Qm rfl (wl_nil ?_)
   exact nx_meet _ ⟨[], gT, m, T, bs, rfl, Hp.le_trans l2 (Hp.le_trans l5 l6), rfl, ⟨fun _ => rfl, fun h => absurd h hRt⟩, by simp, O, C⟩ Qs
 ·obtain ⟨l, gT, m, T, bs, rfl, l2, rfl, hSp, hl, O, C⟩ := hI
  obtain ⟨hc1, hc2⟩ := tc_len C O.keys
  rw [List.length_map] at hc2
  refine RsQ (Qm rfl (RnQ (ws_lend fun h3 l3 lm _ _ => (ws_seq (RsQ (Qm rfl (wl_call rfl call42 rfl (keys_v (some gT) h3) rfl rfl rfl (fun q h4 ms4 l4 hF => ?_))))))))
  obtain ⟨rfl, gk, rfl, rfl⟩ := hF
  refine wl_freezeB fun h5 l5 hGk => ?_
  have lm := Hp.le_trans lm l5
  refine wl_call rfl call41 rfl (sortedFunc_ok gk gT m T bs h5 hGk O lm (by omega)) rfl rfl rfl (fun ks0 h6 ms6 l6 hF => ?_)
  obtain ⟨l6', ks, mk, rfl, hOk, hpk, hsk⟩ := hF
  have hklen : ks.length = T.length := by rw [hpk.length_eq, List.length_map]
  have hRdk : ∀ h' (ms : List Hp), mk ∈ ms → Rd h' ms ks0 2 ks.length (ks.flatMap cP) := fun h' ms hm => (hOk.rd (h := h') hm).rd
  refine Qx (ox_lenR (hRdk _ _ (List.Mem.head _)) rfl underlying81 rfl) rfl (Qm rfl (RnQ (ws_block (ws_freezeL hOk fun h7 l7 hRk => ?_))))
  have lm := Hp.le_trans lm (Hp.le_trans l6 l7)
  refine ws_emp ?_
  refine ws_loop (fun n s hh ms' => ∃ (i : Nat) (vo : Value) (mo : Hp), n = ks.length - i ∧ s = [(3, .map (some gT)), (4, vo), (13, ks0), (14, .int .i64 ks.length), (15, .int .i64 i)] ∧ h7.le hh ∧ ms' = [mo] ∧ i ≤ ks.length ∧ OwnL cIv 3 37 mo vo ((ks.take i).map fun a => ⟨a.1, a.2, (((l.map StE.key).count a : Nat) : Int)⟩))
   (ks.length - 0) _ ⟨0, _, _, rfl, rfl, Hp.le_refl _, rfl, by omega, OwnL.nil cIv_len⟩ Qs ?_
  rintro n s hh ms' ⟨i, vo, mo, rfl, rfl, lh, rfl, hi, hO⟩
  have hRk := hRk.up lh
  have lm := Hp.le_trans lm lh
  refine RsQ (Qx (ox_lss rfl rfl rfl) rfl (RnQ (ws_seq ?_)))
  refine ws_if rfl (fun hlt => ?_) (fun hlt => ?_)
  ·have hil : i < ks.length := nat_lt_of hlt
   refine ws_skip (nx_then ?_)
   refine ws_cut (fun s hh2 ms' => ∃ (vo : Value) (mo : Hp), s = [(3, .map (some gT)), (4, vo), (13, ks0), (14, .int .i64 ks.length), (15, .int .i64 i)] ∧ hh.le hh2 ∧ ms' = [mo] ∧ OwnL cIv 3 37 mo vo ((ks.take (i + 1)).map fun a => ⟨a.1, a.2, (((l.map StE.key).count a : Nat) : Int)⟩)) ?_ (fun s h ms hI => ?_)
   ·have hseg : ∀ ms, Seg hh ms ((vbase ks0).add (i * 2)) (cP ks[i]) := fun ms => (hRk.any (ms := ms)).seg hil
    have hmem : ks[i] ∈ T.map Prod.fst := hpk.mem_iff.1 (List.getElem_mem hil)
    have hpo : POk ks[i] := by
     obtain ⟨p, hp, e⟩ := List.mem_map.1 hmem
     rw [← e]; exact O.ok p hp
    have hll : ((ks.take i).map fun a => (⟨a.1, a.2, (((l.map StE.key).count a : Nat) : Int)⟩ : Iv)).length ≤ 100000 := by rw [List.length_map, List.length_take]; omega
    refine ws_block (RsQ (Qx (ox_indexR _ hRk.rd.any rfl underlying81 el53 rfl rfl rfl (by omega)) rfl (Qx (ox_loadG rfl underlying53 rfl el53 rfl rfl (hseg _)) rfl (AlQ [.int .i64 0, .int .i64 0] rfl el53 rfl rfl (fun g6 => ?_)))))
    refine wl_storeAll 0 [_, _] rfl el53 rfl rfl rfl (by (simp [Value.oneCell']; done)) rfl rfl rfl rfl rfl ?_
    refine RnQ (ws_freezeB fun h8 l8 hG6 => ?_)
    have hA6 := Seg.all hG6
    have lm := Hp.le_trans lm l8
    have hcnt := C.cnt ks[i]
    refine ws_stab (n := 12) (bs := [true, true, true, true, true, true, true, true, true, false, false, false]) [true, true, true, true, true, true, true, true, true] fol (by kernel_rfl) (by kernel_rfl) rfl rfl (Qp rfl (ox_move rfl rfl) (Qp rfl (ox_indexA 0 rfl underlying53 el3 rfl rfl rfl (by omega)) (Qp rfl (ox_load rfl underlying3 rfl rfl (hA6 0 _ rfl _)) (Qp rfl (ox_indexA 1 rfl underlying53 el3 rfl rfl rfl (by omega)) (Qp rfl (ox_load rfl underlying3 rfl rfl (hA6 1 _ rfl _)) (Qp rfl (ox_move rfl rfl) (Qp rfl (ox_loadG rfl underlying53 rfl el53 rfl rfl (Seg.any hG6)) (Qp rfl (ox_lookupF (V := kI) (z := (0 : Int)) ks[i] pairKeys O lm rfl underlying51 zero3P rfl rfl hpo) ?_))))))))
    refine Qp rfl (ox_buildS st37 [.int .i64 0, .int .i64 0, .int .i64 0] [(0, _), (1, _), (2, _)] [_, _, _] rfl el37 rfl rfl (by repeat (first | exact trivial | refine ⟨⟨rfl, rfl, rfl⟩, ?_⟩)) rfl) ?_
    unfold PZs
    simp only [List.cons_append, List.nil_append]
    refine Qo 9 rfl ?_
    refine wl_buildSlice1 [_, _, _] rfl underlying33 el37 rfl (by rfl) rfl rfl (by omega) rfl rfl rfl (fun g28 => ?_)
    refine Qw (Qo 10 rfl ?_)
    refine wl_appendL 1 hO (RdL.one cIv_len (x := ⟨ks[i].1, ks[i].2, (getK T ks[i]).getD 0⟩) (List.Mem.head _) rfl) rfl underlying33 el37 rfl (by omega) rfl rfl rfl cIv_one (by simp only [List.length_singleton]; omega) (by simp only [List.length_singleton]; omega) rfl rfl rfl (fun vo2 mo2 hO2 => ?_)
    refine Qw (Qo 11 rfl (Qm rfl (Qw (Qe (nx_block (nx_drop ?_))))))
    exact nx_meet _ ⟨vo2, mo2, rfl, l8, rfl, by rw [hcnt] at hO2; rw [List.take_succ_eq_append_getElem hil, List.map_append]; exact hO2⟩ Qs
   ·obtain ⟨vo2, mo2, rfl, l8, rfl, hO2⟩ := hI
    refine ws_region (Qx (ox_add rfl rfl rfl (by omega)) rfl (Qm rfl (wl_nil ?_)))
    exact nx_round (ks.length - (i + 1)) _ (by omega) ⟨i + 1, vo2, mo2, rfl, rfl, Hp.le_trans lh l8, rfl, by omega, hO2⟩ Qs
  ·obtain rfl : i = ks.length := by omega
   rw [List.take_length] at hO
   have ov : vo.oneCell' = true := (hO.rd (h := h) (ms := [mo]) (List.Mem.head _)).rd.one
   refine ws_exit (nx_then_exit (nx_then_exit (nx_block_exit (nx_then (RsQ (Qm rfl (Qm rfl (RnQ (ws_ret ?_)))))))))
   have hnd : ks.Nodup := hpk.nodup_iff.2 O.keys
   have hstr : ks.Pairwise fun a b => cmp2 a b < 0 := (hsk.and hnd).imp fun {a b} ⟨h1, h2⟩ => by
    rw [cmp2_lt] at h1 ⊢
    refine Classical.byContradiction fun h3 => h2 (Prod.ext ?_ ?_) <;> omega
   exact nx_ret1 rfl rfl (⟨Hp.le_trans l1 (Hp.le_trans l2 (Hp.le_trans l3 (Hp.le_trans l5 (Hp.le_trans l6 (Hp.le_trans l7 lh))))), _, mo, l, rfl, hO, hl, hSp, ks, rfl, hstr, fun a => by rw [hpk.mem_iff, hc1]⟩)
end Go.Proofs.YtdnelknieikbaaaGreat
namespace Go.Proofs.YtdnelknieikbaaaGreat
open Tryz
open Go.Eng Go.RowKit Go.Lin Go.Sort Go.Srt
theorem eqf_ints {P : Program} {d : Nat} (hu : P.underlying 3 = some (.int .i64)) (hp : P.plainKey 3 = true) (X Y : Array Value) (x y : Nat → Int) (w : World) : ∀ (fs : List Field) (os : List Nat), fs.map (fun f => (decide (f.name ≠ "_"), f.type, f.offset)) = os.map (fun o => (true, 3, o)) → (∀ o ∈ os, X[o]? = some (.int .i64 (x o)) ∧ Y[o]? = some (.int .i64 (y o))) → (Op.eqFields (d + 1) X Y fs).run P w = .ok (os.all fun o => x o == y o) w
 | [], [], _, _ => by simp [Op.eqFields]
 | [], o :: os, h, _ => by simp at h
 | f :: fs, [], h, _ => by simp at h
 | f :: fs, o :: os, h, hc => by
  simp only [List.map_cons, List.cons.injEq, Prod.mk.injEq] at h
  obtain ⟨⟨h1, h2, h3⟩, h4⟩ := h
  have ih := eqf_ints (d := d) hu hp X Y x y w fs os h4 fun a ha => hc a (List.mem_cons_of_mem _ ha)
  obtain ⟨c1, c2⟩ := hc o (List.Mem.head _)
  unfold Op.eqFields
  rw [if_pos (of_decide_eq_true h1), h2, h3]
  simp only [Sem.run_bind, run_part_plain w hp c1, run_part_plain w hp c2, Result.andThen_ok, run_equalIn_int w d 3 .i64 .i64 _ _ hu]
  cases e : x o == y o
  ·simp [e]
  ·simp [e, ih]
theorem flds37 : (Tryz.prog.fieldsOf 37).toList.map (fun f => (decide (f.name ≠ "_"), f.type, f.offset)) = [0, 1, 2].map (fun o => (true, 3, o)) := by kernel_rfl
theorem pk3 : Tryz.prog.plainKey 3 = true := by kernel_rfl
theorem eg37 : Tryz.prog.eqGuardType Tryz.prog.depth 37 = false := by kernel_rfl
theorem und37 : Tryz.prog.underlying 37 = some (.struct (Tryz.prog.fieldsOf 37)) := by kernel_rfl
theorem sih37 : Tryz.prog.stoodInHeld 37 = false := by kernel_rfl
theorem ox_neIv {o : Oper} {s : Slots} {h : Hp} {ms : List Hp} {x y : Operand} {u : TypeId} (a b : Iv) (ho : o.op = .binOp .neq 37 x y u) (hx : ev s x = some (.agg (cIv a).toArray)) (hy : ev s y = some (.agg (cIv b).toArray)) : OX Tryz.prog o s h ms (.bool (decide (a ≠ b))) :=
 ox_of fun ρ w hρ _ => by
  have h1 : (Op.equalIn 10000 37 (.agg (cIv a).toArray) (.agg (cIv b).toArray)).run Tryz.prog w = .ok (decide (a = b)) w := by
   have h2 : (Op.eqFields (9998 + 1) (cIv a).toArray (cIv b).toArray (Tryz.prog.fieldsOf 37).toList).run Tryz.prog w = _ := eqf_ints (d := 9998) underlying3 pk3 (cIv a).toArray (cIv b).toArray (fun o => match o with | 0 => a.fr | 1 => a.to | _ => a.n) (fun o => match o with | 0 => b.fr | 1 => b.to | _ => b.n) w _ _ flds37 fun o ho => by
    simp only [List.mem_cons, List.not_mem_nil, or_false] at ho
    rcases ho with rfl | rfl | rfl <;> exact ⟨rfl, rfl⟩
   rw [run_equalIn_agg w 9999 37 _ _ und37 sih37, h2]
   congr 1
   obtain ⟨a1, a2, a3⟩ := a
   obtain ⟨b1, b2, b3⟩ := b
   rw [Bool.eq_iff_iff, decide_eq_true_iff, Iv.mk.injEq]
   show ((a1 == b1) && ((a2 == b2) && ((a3 == b3) && true))) = true ↔ _
   simp only [Bool.and_true, Bool.and_eq_true, beq_iff_eq]
  have e : (!decide (a = b)) = decide (a ≠ b) := by simp
  simp only [execOp, ho, hρ _ _ hx, hρ _ _ hy]
  simp only [Sem.run_bind, run_eqGuard_agg w _ _ _ _ _ _ eg37, run_neq_struct, h1, e, Result.andThen_ok, Sem.run_pure]
theorem sameI_v (a b : List Iv) (va vb : Value) (h : Hp) (hA : RdL cIv 3 h [] va a) (hB : RdL cIv 3 h [] vb b) (ms : List Hp) : FnV Tryz.prog 16 #[va, vb] h ms (.bool (decide (a = b))) := by
 refine fnv ?_ ms
 have la := hA.len_le
 have lb := hB.len_le
 refine fn_enter func16 ntmps16 rfl rfl (fun w0 hw0 => ?_)
 simp only [argS]
 refine RsQ (Qm rfl (RnQ (ws_seq (RsQ (Qm rfl (Qx (ox_lenR hA.rd.any rfl underlying33 rfl) rfl (Qm rfl (Qx (ox_lenR hB.rd.any rfl underlying33 rfl) rfl (Qx (ox_nei rfl rfl rfl) rfl (RnQ ?_))))))))))
 refine ws_if rfl (fun hne => ?_) (fun hne => ?_)
 ·refine ws_seq (ws_region (Qm rfl (RnQ (ws_ret (nx_then_ret ?_)))))
  exact nx_ret1 rfl rfl (by rw [decide_eq_false]; intro e; rw [e] at hne; exact hne rfl)
 ·have hl : a.length = b.length := by omega
  refine ws_skip (nx_then (ws_seq (RsQ (Qm rfl (RnQ (ws_block ?_))))))
  refine ws_loop (fun q s h' ms' => ∃ (k : Nat), q = a.length - k ∧ s = [(0, va), (1, vb), (5, .int .i64 k)] ∧ h = h' ∧ ms' = [] ∧ k ≤ a.length ∧ a.take k = b.take k)
   (a.length - 0) _ ⟨0, rfl, rfl, rfl, rfl, by omega, rfl⟩ Qs ?_
  rintro q s h' ms' ⟨k, rfl, rfl, rfl, rfl, hk, he⟩
  refine ws_seq (RsQ (Qm rfl (Qm rfl (Qx (ox_lenR hA.rd.any rfl underlying33 rfl) rfl (Qx (ox_lss rfl rfl rfl) rfl (RnQ ?_))))))
  refine ws_if rfl (fun hlt => ?_) (fun hlt => ?_)
  ·have hka : k < a.length := nat_lt_of hlt
   have hkb : k < b.length := by omega
   have ca : ∀ ms, Seg h ms ((vbase va).add (k * 3)) (cIv a[k]) := fun ms => (hA.any (ms := ms)).seg hka
   have cb : ∀ ms, Seg h ms ((vbase vb).add (k * 3)) (cIv b[k]) := fun ms => (hB.any (ms := ms)).seg hkb
   refine ws_skip (nx_then (ws_seq (ws_block (ws_seq (ws_draw 8 fol (by kernel_rfl) rfl (wr_x (ox_move rfl rfl) rfl rfl (wr_x (ox_move rfl rfl) rfl rfl (wr_x (ox_indexR (k) hA.rd.any rfl underlying33 el37 rfl rfl (by omega) (by omega)) rfl rfl (wr_x (ox_loadG rfl underlying37 rfl el37 rfl rfl (ca _)) rfl rfl (wr_x (ox_move rfl rfl) rfl rfl (wr_x (ox_move rfl rfl) rfl rfl (wr_x (ox_indexR (k) hB.rd.any rfl underlying33 el37 rfl rfl (by omega) (by omega)) rfl rfl (wr_x (ox_loadG rfl underlying37 rfl el37 rfl rfl (cb _)) rfl rfl (wr_nil (Qx (ox_neIv a[k] b[k] rfl rfl rfl) rfl (RnQ ?_))))))))))))))))
   refine ws_if rfl (fun hne => ?_) (fun hne => ?_)
   ·refine ws_seq (ws_region (Qm rfl (RnQ (ws_ret (nx_block_ret (nx_then_ret (nx_then_ret (nx_block_ret (nx_then_ret ?_)))))))))
    exact nx_ret1 rfl rfl (by rw [decide_eq_false]; rintro rfl; exact hne rfl)
   ·refine ws_skip (nx_block (nx_then (ws_region (Qm rfl (Qx (ox_add rfl rfl rfl (by omega)) rfl (Qm rfl (wl_nil ?_)))))))
    refine nx_round (a.length - (k + 1)) _ (by omega) ⟨k + 1, rfl, rfl, rfl, rfl, by omega, ?_⟩ Qs
    rw [List.take_add_one, List.take_add_one, he, List.getElem?_eq_getElem hka, List.getElem?_eq_getElem hkb, Decidable.not_not.1 hne]
  ·obtain rfl : k = a.length := by omega
   refine ws_exit (nx_then_exit (nx_then_exit (nx_block_exit (nx_then (RsQ (Qm rfl (RnQ (ws_ret ?_))))))))
   exact nx_ret1 rfl rfl (by rw [List.take_length, hl, List.take_length] at he; rw [decide_eq_true he])
end Go.Proofs.YtdnelknieikbaaaGreat
set_option maxHeartbeats 2000000
namespace Go.Proofs.YtdnelknieikbaaaGreat
open Tryz
open Go.Eng Go.RowKit Go.Lin Go.Sort Go.Srt
def wantL (l : List Int) (m : Nat) : List Iv := (List.range m).map fun i => ⟨l.getD (2 * i) 0, l.getD (2 * i + 1) 0, 1⟩
theorem same_t {a b : List Iv} {va vb : Value} {h : Hp} (hA : RdL cIv 3 h [] va a) (hB : RdL cIv 3 h [] vb b) (e : a = b) (ms : List Hp) : FnV Tryz.prog 16 #[va, vb] h ms (.bool true) := by
 have := sameI_v a b va vb h hA hB ms
 rwa [decide_eq_true e] at this
theorem rcheck_t {Z : Zz} {vd va vl : Value} {l : List SV} {h : Hp} (hR : RdZ h vd va Z) (hL : RdSs h vl l) (hN : l.length ≤ 1000000) (hC : ChkP Z l) (ms : List Hp) : FnV Tryz.prog 31 #[.agg #[.int .i64 Z.p, vd, va], vl] h ms (.bool true) := by
 have := fnv (rcheck_ok Z vd va l vl h hC.1.ok hR hL hN) ms
 rwa [bl_t hC] at this
theorem is_ok (Z : Zz) (vd va : Value) (l : List Int) (vl : Value) (m : Nat) (D : Dc) (h : Hp) (hRt : Z.Rt) (hR : RdZ h vd va Z) (hL : RdL cI 1 h [] vl l) (hl : l.length = 2 * m) (hm : m ≤ 100) (V : Valid Z.zg D) (hB : BarsOf D.ct (wantL l m)) : FnT Tryz.prog 36 #[.agg #[.int .i64 Z.p, vd, va], vl] h [] (fun r h' ms' => r = .bool true ∧ ms' = []) := by
 have o1 := hR.d.rd.one
 have o2 := hR.a.rd.one
 have hO := hRt.ok
 refine fn_enter func36 ntmps36 rfl rfl (fun w0 hw0 => ?_)
 simp only [argS]
 refine RsQ ?_
 refine wl_box [_, _, _] rfl rfl (by rfl) rfl rfl rfl (fun g2 => ?_)
 refine Qm rfl (RnQ (ws_freezeB fun h1 l1 hS => ?_))
 have hR := hR.up l1
 have hL := hL.up l1
 refine RsQ (Qm rfl (RnQ (ws_seq (RsQ (Qm rfl (RnQ (ws_block (ws_emp ?_))))))))
 refine ws_loop (fun q sl hh ms' => ∃ (i : Nat) (vo : Value) (mo : Hp), q = m - i ∧ sl = [(1, vl), (2, .pointer (some ⟨g2, 0, none⟩)), (5, vo), (6, .int .i64 ((2 * i + 1 : Nat) : Int))] ∧ h1 = hh ∧ ms' = [mo] ∧ i ≤ m ∧ OwnL cIv 3 37 mo vo (wantL l i))
  (m - 0) _ ⟨0, _, _, rfl, rfl, rfl, rfl, by omega, OwnL.nil cIv_len⟩ Qs ?_
 rintro q sl hh ms' ⟨i, vo, mo, rfl, rfl, rfl, rfl, hi, hOw⟩
 refine ws_seq (RsQ (Qm rfl (Qm rfl (Qx (ox_lenR hL.rd.any rfl underlying24 rfl) rfl (Qx (ox_lss rfl rfl rfl) rfl (RnQ ?_))))))
 refine ws_if rfl (fun hlt => ?_) (fun hlt => ?_)
 ·have him : i < m := by omega
  have h0 : 2 * i < l.length := by omega
  have hk1 : 2 * i + 1 < l.length := by omega
  have hwl : (wantL l i).length ≤ 100 := by simp [wantL]; omega
  have hw : wantL l (i + 1) = wantL l i ++ [⟨l[2 * i], l[2 * i + 1], 1⟩] := by
   unfold wantL
   rw [List.range_succ, List.map_append, List.map_singleton, getD_I h0, getD_I hk1]
  refine ws_skip (nx_then ?_)
  refine ws_cut (fun sl hh ms' => ∃ (vo : Value) (mo : Hp), sl = [(1, vl), (2, .pointer (some ⟨g2, 0, none⟩)), (5, vo), (6, .int .i64 ((2 * i + 1 : Nat) : Int))] ∧ h1 = hh ∧ ms' = [mo] ∧ OwnL cIv 3 37 mo vo (wantL l (i + 1))) ?_ (fun s h ms hI => ?_)
  ·refine ws_block (ws_stab (n := 14) (bs := [true, true, true, true, true, true, true, true, true, true, true, false, false, false]) [true, true, true, true, true, true, true, true, true, true, true] fol (by kernel_rfl) (by kernel_rfl) rfl rfl (Qp rfl (ox_move rfl rfl) (Qp rfl (ox_move rfl rfl) (Qp rfl (ox_move rfl rfl) (Qp rfl (ox_sub rfl rfl rfl (by omega)) (Qp rfl (ox_indexR (2 * i) hL.rd.any rfl underlying24 el3 rfl rfl (by omega) (by omega)) (Qp rfl (ox_load rfl underlying3 rfl rfl (hL.any.cell0 h0 rfl)) (Qp rfl (ox_move rfl rfl) (Qp rfl (ox_move rfl rfl) (Qp rfl (ox_indexR (2 * i + 1) hL.rd.any rfl underlying24 el3 rfl rfl (by omega) (by omega)) (Qp rfl (ox_load rfl underlying3 rfl rfl (hL.any.cell0 hk1 rfl)) ?_)))))))))))
   refine Qp rfl (ox_buildS st37 [.int .i64 0, .int .i64 0, .int .i64 0] [(0, _), (1, _), (2, _)] [_, _, _] rfl el37 rfl rfl (by repeat (first | exact trivial | refine ⟨⟨rfl, rfl, rfl⟩, ?_⟩)) rfl) ?_
   unfold PZs
   simp only [List.cons_append, List.nil_append]
   refine Qo 11 rfl ?_
   refine wl_buildSlice1 [_, _, _] rfl underlying33 el37 rfl (by rfl) rfl rfl (by omega) rfl rfl rfl (fun g24 => ?_)
   refine Qw (Qo 12 rfl ?_)
   refine wl_appendL 1 hOw (RdL.one cIv_len (x := ⟨l[2 * i], l[2 * i + 1], 1⟩) (List.Mem.head _) rfl) rfl underlying33 el37 rfl (by omega) rfl rfl rfl cIv_one (by simp only [List.length_singleton]; omega) (by simp only [List.length_singleton]; omega) rfl rfl rfl (fun vo2 mo2 hO2 => ?_)
   refine Qw (Qo 13 rfl (Qm rfl (Qw (Qe (nx_block (nx_drop ?_))))))
   exact nx_meet _ ⟨vo2, mo2, rfl, rfl, rfl, by rw [hw]; exact hO2⟩ Qs
  ·obtain ⟨vo2, mo2, rfl, rfl, rfl, hO2⟩ := hI
   refine ws_region (Qm rfl (Qx (ox_add rfl rfl rfl (by omega)) rfl (Qm rfl (wl_nil ?_))))
   exact nx_round (m - (i + 1)) _ (by omega) ⟨i + 1, vo2, mo2, rfl, rfl, rfl, rfl, by omega, hO2⟩ Qs
 ·obtain rfl : i = m := by omega
  have ovo : vo.oneCell' = true := (hOw.rd (h := h) (ms := [mo]) (List.Mem.head _)).rd.one
  refine ws_exit (nx_then_exit (nx_then_exit (nx_block_exit (nx_then (ws_freezeL hOw fun h3 l3 hRw => ?_)))))
  have hR := hR.up l3
  have hS := hS.le l3
  refine ws_seq (ws_stab (n := 11) (bs := [true, false, true, false, false, false, false, false, false, false, false]) [true, false, true] fol (by kernel_rfl) (by kernel_rfl) rfl rfl (Qp rfl (ox_loadG rfl underlying30 rfl el30 rfl rfl (Seg.any hS)) (Qp rfl (ox_move rfl rfl) ?_)))
  unfold PZs
  simp only [List.cons_append, List.nil_append]
  refine Qo 1 rfl (wl_call rfl call17 rfl (bars_ok Z vd va h3 hO hR) rfl rfl rfl (fun rb h4 ms4 l4 hF => ?_))
  obtain ⟨l4', bl, mb, lst, rfl, hOb, hlb, hSp, hBs⟩ := hF
  refine wl_freezeL hOb fun h5 l5 hRb => ?_
  have l35 := Hp.le_trans l4 l5
  have hRw5 := hRw.up l35
  have hR5 := hR.up l35
  refine Qa (Qo 3 rfl (Qx (ox_call rfl call16 rfl (same_t hRb hRw5 (is_bars_uniq hRt V (bars_is hSp hBs) hB) _)) rfl (Qa (wb_float 4 30 (by kernel_rfl) rfl (by assumption) rfl (ox_move rfl rfl) (wb_step [5, 6] (by kernel_rfl) rfl ?_)))))
  refine wbl_cons rfl ?_ ?_
  ·refine Qg (ox_loadG rfl underlying30 rfl el30 rfl rfl (Seg.any (hS.le l35))) rfl (Qa (Qo 6 rfl (Qg (ox_loadG rfl underlying30 rfl el30 rfl rfl (Seg.any (hS.le l35))) rfl (Qa (Qo 7 rfl (wl_yes rfl rfl rfl rfl (wl_call rfl call30 rfl (strands_ok Z vd va h5 hO hRt hR5) rfl rfl rfl (fun rs h6 ms6 l6 hF => ?_))))))))
   obtain ⟨l6', N, S, e, L, ml, mB, rfl, hN, hOl, hBg, hp, hV2, hbd, _⟩ := hF
   refine wl_freezeM fun h7 l7 k7 => (wl_freezeM fun h8 l8 k8 => ?_)
   have l58 := Hp.le_trans l6 (Hp.le_trans l7 l8)
   have l38 := Hp.le_trans l35 l58
   have hR8 := hR5.up l58
   obtain ⟨ls, hle, hRs, hCk⟩ := strands_sv hRt hOl (Hp.le_trans k7 l8) hBg k8 hp hV2 hbd
   have hlen : ls.length ≤ 1000000 := by (have := congrArg List.length hle; have := hp.length_eq; simp at *; omega)
   refine Qa (Qo 8 rfl (Qg (ox_call rfl call31 rfl (rcheck_t hR8 hRs hlen hCk _)) rfl (Qa (Qo 9 rfl (Qx (ox_pick_t rfl rfl rfl) rfl (Qa (Qo 10 rfl (Qm rfl (Qa (Qe (nx_then (ws_ret ?_))))))))))))
   exact nx_ret1 rfl rfl ⟨rfl, rfl⟩
  refine wbl_cons rfl ?_ ?_
  ·refine Qg (ox_loadG rfl underlying30 rfl el30 rfl rfl (Seg.any (hS.le l35))) rfl (Qa (wb_step [5, 7] (by kernel_rfl) rfl ?_))
   refine wbl_cons rfl ?_ ?_
   ·refine Qg (ox_loadG rfl underlying30 rfl el30 rfl rfl (Seg.any (hS.le l35))) rfl (Qa (Qo 7 rfl (wl_yes rfl rfl rfl rfl (wl_call rfl call30 rfl (strands_ok Z vd va h5 hO hRt hR5) rfl rfl rfl (fun rs h6 ms6 l6 hF => ?_)))))
    obtain ⟨l6', N, S, e, L, ml, mB, rfl, hN, hOl, hBg, hp, hV2, hbd, _⟩ := hF
    refine wl_freezeM fun h7 l7 k7 => (wl_freezeM fun h8 l8 k8 => ?_)
    have l58 := Hp.le_trans l6 (Hp.le_trans l7 l8)
    have l38 := Hp.le_trans l35 l58
    have hR8 := hR5.up l58
    obtain ⟨ls, hle, hRs, hCk⟩ := strands_sv hRt hOl (Hp.le_trans k7 l8) hBg k8 hp hV2 hbd
    have hlen : ls.length ≤ 1000000 := by (have := congrArg List.length hle; have := hp.length_eq; simp at *; omega)
    refine Qa (Qo 8 rfl (Qg (ox_call rfl call31 rfl (rcheck_t hR8 hRs hlen hCk _)) rfl (Qa (Qo 9 rfl (Qx (ox_pick_t rfl rfl rfl) rfl (Qa (Qo 10 rfl (Qm rfl (Qa (Qe (nx_then (ws_ret ?_))))))))))))
    exact nx_ret1 rfl rfl ⟨rfl, rfl⟩
   refine wbl_cons rfl ?_ ?_
   ·refine wl_yes rfl rfl rfl rfl (wl_call rfl call30 rfl (strands_ok Z vd va h5 hO hRt hR5) rfl rfl rfl (fun rs h6 ms6 l6 hF => ?_))
    obtain ⟨l6', N, S, e, L, ml, mB, rfl, hN, hOl, hBg, hp, hV2, hbd, _⟩ := hF
    refine wl_freezeM fun h7 l7 k7 => (wl_freezeM fun h8 l8 k8 => ?_)
    have l58 := Hp.le_trans l6 (Hp.le_trans l7 l8)
    have l38 := Hp.le_trans l35 l58
    have hR8 := hR5.up l58
    obtain ⟨ls, hle, hRs, hCk⟩ := strands_sv hRt hOl (Hp.le_trans k7 l8) hBg k8 hp hV2 hbd
    have hlen : ls.length ≤ 1000000 := by (have := congrArg List.length hle; have := hp.length_eq; simp at *; omega)
    refine Qa (Qo 5 rfl (Qg (ox_loadG rfl underlying30 rfl el30 rfl rfl (Seg.any (hS.le l38))) rfl (Qa (Qo 8 rfl (Qg (ox_call rfl call31 rfl (rcheck_t hR8 hRs hlen hCk _)) rfl (Qa (Qo 9 rfl (Qx (ox_pick_t rfl rfl rfl) rfl (Qa (Qo 10 rfl (Qm rfl (Qa (Qe (nx_then (ws_ret ?_)))))))))))))))
    exact nx_ret1 rfl rfl ⟨rfl, rfl⟩
   exact wbl_nil
  exact wbl_nil
end Go.Proofs.YtdnelknieikbaaaGreat
namespace Go.Proofs.YtdnelknieikbaaaGreat
open Tryz
open Go.Eng Go.RowKit Go.Lin Go.Sort Go.Srt
theorem is_t {Z : Zz} {vd va : Value} {l : List Int} {vl : Value} (m : Nat) {ks : List (Int × Int)} {h : Hp} (E : Ex Z ks) (hR : RdZ h vd va Z) (hL : RdL cI 1 h [] vl l) (hl : l.length = 2 * m) (hm : m ≤ 100) (hw : ks.map (fun a => (⟨a.1, a.2, 1⟩ : Iv)) = wantL l m) (ms : List Hp) : FnV Tryz.prog 36 #[.agg #[.int .i64 Z.p, vd, va], vl] h ms (.bool true) := by
 obtain ⟨hRt, D, V, hB⟩ := E
 rw [hw] at hB
 exact fnv ((is_ok Z vd va l vl m D h hRt hR hL hl hm V hB).mono fun r h' ms' e => e.1) ms
theorem sanity_ok (h : Hp) : FnT Tryz.prog 14 #[] h [] (fun r h' ms' => r = .bool true) := by
 refine fn_enter func14 ntmps14 rfl rfl (fun w0 hw0 => ?_)
 simp only [argS]
 refine RsQ (Qm rfl (RtQ ?_))
 refine wl_buildSlice [(0, _), (1, _)] [.int .i64 0, .int .i64 0] [_, _] rfl underlying24 el3 rfl (by omega) (by kernel_rfl) (by repeat (first | exact trivial | refine ⟨⟨by rfl, rfl, rfl⟩, ?_⟩)) rfl rfl rfl rfl (fun g1 => ?_)
 refine wl_freezeL (OwnL.blk (g := g1) (el := 3) (F := cI) (l := [1, 1]) 2 cI_len rfl (by omega)) fun h1 l1 hL1 => (wl_call rfl call37 rfl (lone_ok [1, 1] _ h1 hL1 (by decide) (by decide)) rfl rfl rfl (fun r2 h2 ms2 l2 hF => ?_))
 obtain ⟨l2', rfl, Z, vd, va, rfl, hRZ, e1, e2, e3⟩ := hF
 refine wl_buildSlice [(0, _), (1, _)] [.int .i64 0, .int .i64 0] [_, _] rfl underlying24 el3 rfl (by omega) (by kernel_rfl) (by repeat (first | exact trivial | refine ⟨⟨by rfl, rfl, rfl⟩, ?_⟩)) rfl rfl rfl rfl (fun g3 => ?_)
 refine wl_freezeL (OwnL.blk (g := g3) (el := 3) (F := cI) (l := [0, 2]) (2 * 1) cI_len rfl (by omega)) fun h3 l3 hL3 => (Qx (ox_call rfl call36 rfl (is_t 1 (ex1 e1 e2 e3) (hRZ.up l3) hL3 rfl (by omega) rfl _)) rfl (Qm rfl (wl_yes rfl rfl rfl rfl ?_)))
 refine wl_buildSlice [(0, _), (1, _)] [.int .i64 0, .int .i64 0] [_, _] rfl underlying24 el3 rfl (by omega) (by kernel_rfl) (by repeat (first | exact trivial | refine ⟨⟨by rfl, rfl, rfl⟩, ?_⟩)) rfl rfl rfl rfl (fun g6 => ?_)
 refine wl_freezeL (OwnL.blk (g := g6) (el := 3) (F := cI) (l := [1, 9]) 2 cI_len rfl (by omega)) fun h1 l1 hL1 => (wl_yes rfl rfl rfl rfl (wl_call rfl call37 rfl (lone_ok [1, 9] _ h1 hL1 (by decide) (by decide)) rfl rfl rfl (fun r2 h2 ms2 l2 hF => ?_)))
 obtain ⟨l2', rfl, Z, vd, va, rfl, hRZ, e1, e2, e3⟩ := hF
 refine wl_yes rfl rfl rfl rfl ?_
 refine wl_buildSlice [(0, _), (1, _), (2, _), (3, _)] [.int .i64 0, .int .i64 0, .int .i64 0, .int .i64 0] [_, _, _, _] rfl underlying24 el3 rfl (by omega) (by kernel_rfl) (by repeat (first | exact trivial | refine ⟨⟨by rfl, rfl, rfl⟩, ?_⟩)) rfl rfl rfl rfl (fun g8 => ?_)
 refine wl_freezeL (OwnL.blk (g := g8) (el := 3) (F := cI) (l := [0, 1, 2, 2]) (2 * 2) cI_len rfl (by omega)) fun h3 l3 hL3 => (Qg (ox_call rfl call36 rfl (is_t 2 (ex2 e1 e2 e3) (hRZ.up l3) hL3 rfl (by omega) rfl _)) rfl (Qx (ox_pick_t rfl rfl rfl) rfl (Qm rfl (wl_yes rfl rfl rfl rfl ?_))))
 refine wl_buildSlice [(0, _), (1, _)] [.int .i64 0, .int .i64 0] [_, _] rfl underlying24 el3 rfl (by omega) (by kernel_rfl) (by repeat (first | exact trivial | refine ⟨⟨by rfl, rfl, rfl⟩, ?_⟩)) rfl rfl rfl rfl (fun g12 => ?_)
 refine wl_freezeL (OwnL.blk (g := g12) (el := 3) (F := cI) (l := [1, -2]) 2 cI_len rfl (by omega)) fun h1 l1 hL1 => (wl_yes rfl rfl rfl rfl (wl_call rfl call37 rfl (lone_ok [1, -2] _ h1 hL1 (by decide) (by decide)) rfl rfl rfl (fun r2 h2 ms2 l2 hF => ?_)))
 obtain ⟨l2', rfl, Z, vd, va, rfl, hRZ, e1, e2, e3⟩ := hF
 refine wl_yes rfl rfl rfl rfl ?_
 refine wl_buildSlice [(0, _), (1, _)] [.int .i64 0, .int .i64 0] [_, _] rfl underlying24 el3 rfl (by omega) (by kernel_rfl) (by repeat (first | exact trivial | refine ⟨⟨by rfl, rfl, rfl⟩, ?_⟩)) rfl rfl rfl rfl (fun g14 => ?_)
 refine wl_freezeL (OwnL.blk (g := g14) (el := 3) (F := cI) (l := [0, 2]) (2 * 1) cI_len rfl (by omega)) fun h3 l3 hL3 => (Qg (ox_call rfl call36 rfl (is_t 1 (ex3 e1 e2 e3) (hRZ.up l3) hL3 rfl (by omega) rfl _)) rfl (Qx (ox_pick_t rfl rfl rfl) rfl (Qm rfl (wl_yes rfl rfl rfl rfl ?_))))
 refine wl_buildSlice [(0, _), (1, _)] [.int .i64 0, .int .i64 0] [_, _] rfl underlying24 el3 rfl (by omega) (by kernel_rfl) (by repeat (first | exact trivial | refine ⟨⟨by rfl, rfl, rfl⟩, ?_⟩)) rfl rfl rfl rfl (fun g18 => ?_)
 refine wl_freezeL (OwnL.blk (g := g18) (el := 3) (F := cI) (l := [9, -1]) 2 cI_len rfl (by omega)) fun h1 l1 hL1 => (wl_yes rfl rfl rfl rfl (wl_call rfl call37 rfl (lone_ok [9, -1] _ h1 hL1 (by decide) (by decide)) rfl rfl rfl (fun r2 h2 ms2 l2 hF => ?_)))
 obtain ⟨l2', rfl, Z, vd, va, rfl, hRZ, e1, e2, e3⟩ := hF
 refine wl_yes rfl rfl rfl rfl ?_
 refine wl_buildSlice [(0, _), (1, _), (2, _), (3, _)] [.int .i64 0, .int .i64 0, .int .i64 0, .int .i64 0] [_, _, _, _] rfl underlying24 el3 rfl (by omega) (by kernel_rfl) (by repeat (first | exact trivial | refine ⟨⟨by rfl, rfl, rfl⟩, ?_⟩)) rfl rfl rfl rfl (fun g20 => ?_)
 refine wl_freezeL (OwnL.blk (g := g20) (el := 3) (F := cI) (l := [0, 0, 1, 2]) (2 * 2) cI_len rfl (by omega)) fun h3 l3 hL3 => (Qg (ox_call rfl call36 rfl (is_t 2 (ex4 e1 e2 e3) (hRZ.up l3) hL3 rfl (by omega) rfl _)) rfl (Qx (ox_pick_t rfl rfl rfl) rfl (Qm rfl (wl_yes rfl rfl rfl rfl ?_))))
 refine wl_buildSlice [(0, _), (1, _)] [.int .i64 0, .int .i64 0] [_, _] rfl underlying24 el3 rfl (by omega) (by kernel_rfl) (by repeat (first | exact trivial | refine ⟨⟨by rfl, rfl, rfl⟩, ?_⟩)) rfl rfl rfl rfl (fun g24 => ?_)
 refine wl_freezeL (OwnL.blk (g := g24) (el := 3) (F := cI) (l := [-9, 3]) 2 cI_len rfl (by omega)) fun h1 l1 hL1 => (wl_yes rfl rfl rfl rfl (wl_call rfl call37 rfl (lone_ok [-9, 3] _ h1 hL1 (by decide) (by decide)) rfl rfl rfl (fun r2 h2 ms2 l2 hF => ?_)))
 obtain ⟨l2', rfl, Z, vd, va, rfl, hRZ, e1, e2, e3⟩ := hF
 refine wl_yes rfl rfl rfl rfl ?_
 refine wl_buildSlice [(0, _), (1, _), (2, _), (3, _)] [.int .i64 0, .int .i64 0, .int .i64 0, .int .i64 0] [_, _, _, _] rfl underlying24 el3 rfl (by omega) (by kernel_rfl) (by repeat (first | exact trivial | refine ⟨⟨by rfl, rfl, rfl⟩, ?_⟩)) rfl rfl rfl rfl (fun g26 => ?_)
 refine wl_freezeL (OwnL.blk (g := g26) (el := 3) (F := cI) (l := [0, 0, 1, 2]) (2 * 2) cI_len rfl (by omega)) fun h3 l3 hL3 => (Qg (ox_call rfl call36 rfl (is_t 2 (ex5 e1 e2 e3) (hRZ.up l3) hL3 rfl (by omega) rfl _)) rfl (Qx (ox_pick_t rfl rfl rfl) rfl (Qm rfl (wl_yes rfl rfl rfl rfl (wl_call rfl call38 rfl (wide_ok 0 _ (by decide)) rfl rfl rfl (fun r2 h2 ms2 l2 hF => ?_))))))
 obtain ⟨l2', rfl, Z, vd, va, rfl, hRZ, e1, e2, e3⟩ := hF
 refine wl_yes rfl rfl rfl rfl ?_
 refine wl_buildSlice [(0, _), (1, _), (2, _), (3, _)] [.int .i64 0, .int .i64 0, .int .i64 0, .int .i64 0] [_, _, _, _] rfl underlying24 el3 rfl (by omega) (by kernel_rfl) (by repeat (first | exact trivial | refine ⟨⟨by rfl, rfl, rfl⟩, ?_⟩)) rfl rfl rfl rfl (fun g31 => ?_)
 refine wl_freezeL (OwnL.blk (g := g31) (el := 3) (F := cI) (l := [0, 1, 1, 2]) (2 * 2) cI_len rfl (by omega)) fun h3 l3 hL3 => (Qg (ox_call rfl call36 rfl (is_t 2 (ex6 e1 e2 e3) (hRZ.up l3) hL3 rfl (by omega) rfl _)) rfl (Qx (ox_pick_t rfl rfl rfl) rfl (Qm rfl (wl_yes rfl rfl rfl rfl (wl_call rfl call38 rfl (wide_ok 2 _ (by decide)) rfl rfl rfl (fun r2 h2 ms2 l2 hF => ?_))))))
 obtain ⟨l2', rfl, Z, vd, va, rfl, hRZ, e1, e2, e3⟩ := hF
 refine wl_yes rfl rfl rfl rfl ?_
 refine wl_buildSlice [(0, _), (1, _), (2, _), (3, _)] [.int .i64 0, .int .i64 0, .int .i64 0, .int .i64 0] [_, _, _, _] rfl underlying24 el3 rfl (by omega) (by kernel_rfl) (by repeat (first | exact trivial | refine ⟨⟨by rfl, rfl, rfl⟩, ?_⟩)) rfl rfl rfl rfl (fun g36 => ?_)
 refine wl_freezeL (OwnL.blk (g := g36) (el := 3) (F := cI) (l := [0, 2, 1, 1]) (2 * 2) cI_len rfl (by omega)) fun h3 l3 hL3 => (Qg (ox_call rfl call36 rfl (is_t 2 (ex7 e1 e2 e3) (hRZ.up l3) hL3 rfl (by omega) rfl _)) rfl (Qx (ox_pick_t rfl rfl rfl) rfl (Qm rfl (RnQ (ws_ret ?_)))))
 exact nx_ret1 rfl rfl (rfl)
theorem sanity_v (h : Hp) (ms : List Hp) : FnV Tryz.prog 14 #[] h ms (.bool true) := fnv (sanity_ok h) ms
end Go.Proofs.YtdnelknieikbaaaGreat
namespace Go.Proofs.YtdnelknieikbaaaGreat
open Go.Eng Go.RowKit Go.Lin Go.Sort Go.Srt
def cellK (c : Int × Int → Nat) (i j : Nat) : List (Int × Int) := if 0 < c (i, j) then [((i : Int), (j : Int))] else []
def rowK (c : Int × Int → Nat) (i n : Nat) : List (Int × Int) := (List.range n).flatMap fun t => cellK c i (i + t)
def allK (c : Int × Int → Nat) (w n : Nat) : List (Int × Int) := (List.range n).flatMap fun i => rowK c i (w - i)
def ivs (c : Int × Int → Nat) (ks : List (Int × Int)) : List Iv := ks.map fun a => ⟨a.1, a.2, (c a : Nat)⟩
theorem cellK_len (c : Int × Int → Nat) (i j : Nat) : (cellK c i j).length ≤ 1 := by unfold cellK; split <;> simp
theorem rowK_succ (c : Int × Int → Nat) (i n : Nat) : rowK c i (n + 1) = rowK c i n ++ cellK c i (i + n) := by unfold rowK; rw [List.range_succ, List.flatMap_append]; simp
theorem allK_succ (c : Int × Int → Nat) (w n : Nat) : allK c w (n + 1) = allK c w n ++ rowK c n (w - n) := by unfold allK; rw [List.range_succ, List.flatMap_append]; simp
theorem rowK_len (c : Int × Int → Nat) (i n : Nat) : (rowK c i n).length ≤ n := by
 induction n with
 | zero => simp [rowK]
 | succ n ih => rw [rowK_succ, List.length_append]; have := cellK_len c i (i + n); omega
theorem allK_len (c : Int × Int → Nat) (w n : Nat) : (allK c w n).length ≤ w * n := by
 induction n with
 | zero => simp [allK]
 | succ n ih => rw [allK_succ, List.length_append, Nat.mul_succ]; have := rowK_len c n (w - n); omega
theorem mem_cellK {c : Int × Int → Nat} {i j : Nat} {a : Int × Int} : a ∈ cellK c i j ↔ a = ((i : Int), (j : Int)) ∧ 0 < c a := by
 unfold cellK
 split
 ·rename_i h
  rw [List.mem_singleton]
  exact ⟨fun e => ⟨e, e ▸ h⟩, fun e => e.1⟩
 ·rename_i h
  exact ⟨fun e => absurd e (by simp), fun e => absurd (e.1 ▸ e.2) h⟩
theorem rowK_sorted (c : Int × Int → Nat) (i n : Nat) : (rowK c i n).Pairwise fun a b => cmp2 a b < 0 := by
 induction n with
 | zero => simp [rowK]
 | succ n ih =>
  rw [rowK_succ]
  refine List.pairwise_append.2 ⟨ih, ?_, fun a ha b hb => ?_⟩
  ·unfold cellK; split <;> simp
  ·obtain ⟨rfl, _⟩ := mem_cellK.1 hb
   obtain ⟨t, ht, h⟩ := List.mem_flatMap.1 ha
   obtain ⟨rfl, _⟩ := mem_cellK.1 h
   have := List.mem_range.1 ht
   rw [cmp2_lt]
   show ((i : Int) < i) ∨ ((i : Int) = i ∧ ((i + t : Nat) : Int) < ((i + n : Nat) : Int))
   omega
theorem allK_sorted (c : Int × Int → Nat) (w n : Nat) : (allK c w n).Pairwise fun a b => cmp2 a b < 0 := by
 induction n with
 | zero => simp [allK]
 | succ n ih =>
  rw [allK_succ]
  refine List.pairwise_append.2 ⟨ih, rowK_sorted c n _, fun a ha b hb => ?_⟩
  obtain ⟨i, hi, h⟩ := List.mem_flatMap.1 ha
  obtain ⟨t, ht, h⟩ := List.mem_flatMap.1 h
  obtain ⟨rfl, _⟩ := mem_cellK.1 h
  obtain ⟨u, hu, h⟩ := List.mem_flatMap.1 hb
  obtain ⟨rfl, _⟩ := mem_cellK.1 h
  have := List.mem_range.1 hi
  rw [cmp2_lt]
  show ((i : Int) < n) ∨ _
  left; omega
theorem allK_bars (c : Int × Int → Nat) (w : Nat) (h : ∀ a, 0 < c a → 0 ≤ a.1 ∧ a.1 ≤ a.2 ∧ a.2 < w) : BarsOf c (ivs c (allK c w w)) := by
 refine ⟨allK c w w, rfl, allK_sorted c w w, fun a => ?_⟩
 constructor
 ·intro ha
  obtain ⟨i, hi, h1⟩ := List.mem_flatMap.1 ha
  obtain ⟨t, ht, h1⟩ := List.mem_flatMap.1 h1
  exact (mem_cellK.1 h1).2
 ·intro ha
  obtain ⟨h1, h2, h3⟩ := h a ha
  obtain ⟨x, y⟩ := a
  simp only at h1 h2 h3
  refine List.mem_flatMap.2 ⟨x.toNat, List.mem_range.2 (by omega), List.mem_flatMap.2 ⟨(y - x).toNat, List.mem_range.2 (by omega), mem_cellK.2 ⟨?_, ha⟩⟩⟩
  rw [Prod.mk.injEq]; omega
theorem ivs_app (c : Int × Int → Nat) (a b : List (Int × Int)) : ivs c (a ++ b) = ivs c a ++ ivs c b := List.map_append
end Go.Proofs.YtdnelknieikbaaaGreat
namespace Go.Proofs.YtdnelknieikbaaaGreat
open Go.Eng Go.RowKit Go.Lin Go.Sort Go.Srt
structure Pl where
 p : Nat
 ds : List Nat
 back : Nat
 seed : List Int
 thin : Bool
def cB (x : Nat) : List Value := [.int .u8 x]
theorem cB_len : ∀ x, (cB x).length = 1 := fun _ => rfl
structure Pl.Ok (x : Pl) : Prop where
 p : x.p < 256
 ds : ∀ d ∈ x.ds, d < 256
 back : x.back < 65536
 seed : ∀ s ∈ x.seed, I64 s
 len : x.seed.length ≤ 9223372036854775807
structure RdP (h : Hp) (vd vs : Value) (x : Pl) : Prop where
 d : RdL cB 1 h [] vd x.ds
 s : RdL cI 1 h [] vs x.seed
theorem RdP.up {h h' : Hp} {vd vs : Value} {x : Pl} (R : RdP h vd vs x) (hl : h.le h') : RdP h' vd vs x := ⟨R.d.up hl, R.s.up hl⟩
def Pl.P (x : Pl) : Int := ([2, 3, 5, 7] : List Int).getD (x.p % 4) 0
def Pl.pre (x : Pl) : List Int := (x.ds.take 8).map fun d => ((d % 5 : Nat) : Int)
def Pl.dims (x : Pl) : List Int := if x.pre = [] then [2] else x.pre
def Pl.d (x : Pl) (k : Nat) : Nat := (x.dims.getD k 0).toNat
def Pl.bk (x : Pl) (k : Nat) : Bool := decide (x.back / 2 ^ k % 2 = 1)
def Pl.rows (x : Pl) (k : Nat) : Nat := if x.bk k then x.d k else x.d (k + 1)
def Pl.cols (x : Pl) (k : Nat) : Nat := if x.bk k then x.d (k + 1) else x.d k
def Pl.at_ (x : Pl) : Nat → Nat
 | 0 => 0
 | k + 1 => x.at_ k + x.rows k * x.cols k
def Pl.raw (x : Pl) (a : Nat) : Int := IntKind.i64.wrap (x.seed.getD (a % x.seed.length) 0 + 3 * ((a / x.seed.length : Nat) : Int))
def Pl.ent (x : Pl) (a : Nat) : Int := if x.seed = [] then 0 else if x.thin = false ∨ x.raw a % 3 = 0 then IntKind.i64.wrap ((x.raw a).tdiv 3 + x.raw a) % x.P else 0
def Pl.mat (x : Pl) (k : Nat) : FM := ⟨x.P, x.rows k, x.cols k, (List.range (x.rows k * x.cols k)).map fun j => x.ent (x.at_ k + j)⟩
def Pl.core (x : Pl) : List (Bool × FM) := (List.range (x.dims.length - 1)).map fun k => (x.bk k, x.mat k)
section
variable (x : Pl)
theorem Pl.P_is : IsP x.P := by
 unfold Pl.P
 have h : x.p % 4 < 4 := Nat.mod_lt _ (by decide)
 rcases (by omega : x.p % 4 = 0 ∨ x.p % 4 = 1 ∨ x.p % 4 = 2 ∨ x.p % 4 = 3) with e | e | e | e <;> rw [e]
 ·exact (by decide : IsP 2)
 ·exact (by decide : IsP 3)
 ·exact (by decide : IsP 5)
 ·exact (by decide : IsP 7)
theorem Pl.P_bd : 2 ≤ x.P ∧ x.P ≤ 7 := by
 unfold Pl.P
 have h : x.p % 4 < 4 := Nat.mod_lt _ (by decide)
 rcases (by omega : x.p % 4 = 0 ∨ x.p % 4 = 1 ∨ x.p % 4 = 2 ∨ x.p % 4 = 3) with e | e | e | e <;> rw [e] <;> decide
theorem Pl.dims_bd : ∀ y ∈ x.dims, 0 ≤ y ∧ y ≤ 4 := fun y hy => by
 unfold Pl.dims at hy
 split at hy
 ·rw [List.mem_singleton.1 hy]; decide
 ·unfold Pl.pre at hy
  obtain ⟨d, _, rfl⟩ := List.mem_map.1 hy
  omega
theorem Pl.pre_len : x.pre.length ≤ 8 := by unfold Pl.pre; rw [List.length_map, List.length_take]; omega
theorem Pl.dims_len : 1 ≤ x.dims.length ∧ x.dims.length ≤ 8 := by
 unfold Pl.dims
 split
 ·simp
 ·rename_i h
  have := x.pre_len
  have := List.length_pos_iff.2 h
  omega
theorem Pl.d_eq (k : Nat) : ((x.d k : Nat) : Int) = x.dims.getD k 0 := by
 unfold Pl.d
 rcases Nat.lt_or_ge k x.dims.length with h | h
 ·have e : x.dims.getD k 0 = x.dims[k] := by simp [List.getD, h]
  have := x.dims_bd _ (List.getElem_mem h)
  rw [e]; omega
 ·have e : x.dims.getD k 0 = 0 := by simp [List.getD, h]
  rw [e]; rfl
theorem Pl.d_le (k : Nat) : x.d k ≤ 4 := by
 unfold Pl.d
 rcases Nat.lt_or_ge k x.dims.length with h | h
 ·have e : x.dims.getD k 0 = x.dims[k] := by simp [List.getD, h]
  have := x.dims_bd _ (List.getElem_mem h)
  rw [e]; omega
 ·have e : x.dims.getD k 0 = 0 := by simp [List.getD, h]
  rw [e]; decide
theorem Pl.rc_le (k : Nat) : x.rows k ≤ 4 ∧ x.cols k ≤ 4 := by
 have h1 := x.d_le k
 have h2 := x.d_le (k + 1)
 unfold Pl.rows Pl.cols
 split <;> exact ⟨by assumption, by assumption⟩
theorem Pl.sz_le (k : Nat) : x.rows k * x.cols k ≤ 16 := by
 have := x.rc_le k
 exact Nat.mul_le_mul this.1 this.2
theorem Pl.at_le (k : Nat) : x.at_ k ≤ 16 * k := by
 induction k with
 | zero => exact Nat.le_refl _
 | succ k ih => have := x.sz_le k; unfold Pl.at_; omega
theorem Pl.ent_bd (a : Nat) : 0 ≤ x.ent a ∧ x.ent a < x.P := by
 have hp := x.P_bd
 unfold Pl.ent
 split
 ·omega
 ·split
  ·exact ⟨Int.emod_nonneg _ (by omega), Int.emod_lt_of_pos _ (by omega)⟩
  ·omega
theorem Pl.core_len : x.core.length = x.dims.length - 1 := by simp [Pl.core]
theorem Pl.rt {Z : Zz} (h1 : Z.p = x.P) (h2 : Z.dims = x.dims) (h3 : Z.ars.map Ar.core = x.core) : Z.Rt := by
 rw [rt_core h3, h1, h2]
 have hd := x.dims_len
 have hb := x.dims_bd
 refine ⟨hd.1, by show x.dims.length ≤ 100; omega, ?_, x.P_is, fun y hy => ?_, fun k hk => ?_⟩
 ·show (((x.core.map _).length : Nat) : Int) = (x.dims.length : Int) - 1
  rw [List.length_map, x.core_len]; omega
 ·have := hb y hy; omega
 ·have hk' : k < x.dims.length - 1 := by have : k < (x.core.map _).length := hk; rwa [List.length_map, x.core_len] at this
  have e : (mkZz x.P x.dims x.core).ars[k] = ⟨x.bk k, x.mat k, .slice none 0 0⟩ := by
   have e2 : (mkZz x.P x.dims x.core).ars[k]? = some ⟨x.bk k, x.mat k, .slice none 0 0⟩ := by
    show (x.core.map _)[k]? = _
    rw [List.getElem?_map, Pl.core, List.getElem?_map, List.getElem?_range hk']; rfl
   rw [List.getElem?_eq_getElem hk] at e2
   exact Option.some.inj e2
  rw [e]
  have h4 := x.rc_le k
  refine ⟨⟨x.P_is, ⟨?_, ?_, ?_, ?_⟩, ?_, fun y hy => ?_⟩, rfl, ?_, ?_⟩
  ·show (0 : Int) ≤ (x.rows k : Int); omega
  ·show (0 : Int) ≤ (x.cols k : Int); omega
  ·show (x.rows k : Int) ≤ 400; omega
  ·show (x.cols k : Int) ≤ 400; omega
  ·show ((((List.range (x.rows k * x.cols k)).map _).length : Nat) : Int) = (x.rows k : Int) * (x.cols k : Int)
   rw [List.length_map, List.length_range]; exact Int.natCast_mul _ _
  ·obtain ⟨j, _, rfl⟩ := List.mem_map.1 hy
   exact x.ent_bd _
  ·show (x.cols k : Int) = x.dims.getD (if x.bk k then k + 1 else k) 0
   rw [← x.d_eq]
   unfold Pl.cols
   split <;> rfl
  ·show (x.rows k : Int) = x.dims.getD (if x.bk k then k else k + 1) 0
   rw [← x.d_eq]
   unfold Pl.rows
   split <;> rfl
end
end Go.Proofs.YtdnelknieikbaaaGreat
set_option maxHeartbeats 800000
namespace Go.Proofs.YtdnelknieikbaaaGreat
open Go.Proofs.Tryz
open Go.Eng Go.RowKit Go.Lin Go.Sort Go.Srt
instance : Inhabited Ar := ⟨⟨false, ⟨0, 0, 0, []⟩, .slice none 0 0⟩⟩
def BagE (A : List Ar) (m : Hp) : Prop := Bag A.length (fun k y => OwnL cI 1 3 y (A.getD k default).v (A.getD k default).M.e) m
theorem BagE.nil : BagE [] Hp.emp := Bag.zero _
theorem BagE.snoc {A : List Ar} {m y : Hp} {a : Ar} (B : BagE A m) (O : OwnL cI 1 3 y a.v a.M.e) (hd : m.disj y) : BagE (A ++ [a]) (m.join y) := by
 unfold BagE at *
 rw [List.length_append, List.length_singleton]
 refine Bag.snoc (B.mono fun k hk z O' => ?_) ?_ hd
 ·have e : (A ++ [a]).getD k default = A.getD k default := by simp [List.getD, List.getElem?_append_left hk]
  rw [e]; exact O'
 ·have e : (A ++ [a]).getD A.length default = a := by simp [List.getD]
  rw [e]; exact O
theorem rdl_up8 {x : Pl} (hx : x.Ok) {i : Nat} (hi : i < x.ds.length) : x.ds[i] < 256 := hx.ds _ (List.getElem_mem hi)
def Pl.vals (x : Pl) (k j : Nat) : List Int := (List.range (x.rows k * x.cols k)).map fun t => if t < j then x.ent (x.at_ k + t) else 0
theorem vals_len (x : Pl) (k j : Nat) : (x.vals k j).length = x.rows k * x.cols k := by simp [Pl.vals]
theorem vals_set (x : Pl) (k : Nat) {j : Nat} (hj : j < x.rows k * x.cols k) : (x.vals k j).set j (x.ent (x.at_ k + j)) = x.vals k (j + 1) := by
 refine List.ext_getElem (by simp [Pl.vals]) fun t h1 h2 => ?_
 rw [List.getElem_set]
 by_cases he : j = t
 ·subst he; simp [Pl.vals]
 ·rw [if_neg he]
  simp only [Pl.vals, List.getElem_map, List.getElem_range]
  by_cases ht : t < j
  ·rw [if_pos ht, if_pos (by omega)]
  ·rw [if_neg ht, if_neg (by omega)]
theorem vals_skip (x : Pl) (k : Nat) {j : Nat} (hj : j < x.rows k * x.cols k) (h0 : x.ent (x.at_ k + j) = 0) : x.vals k j = x.vals k (j + 1) := by
 rw [← vals_set x k hj, h0]
 refine List.ext_getElem (by simp) fun t h1 h2 => ?_
 rw [List.getElem_set]
 by_cases he : j = t
 ·subst he; simp [Pl.vals]
 ·rw [if_neg he]
theorem vals_all (x : Pl) (k : Nat) : x.vals k (x.rows k * x.cols k) = (x.mat k).e := by
 unfold Pl.vals Pl.mat
 exact List.map_congr_left fun t ht => if_pos (List.mem_range.1 ht)
theorem vals_none (x : Pl) (k j : Nat) (h : x.seed = []) : x.vals k j = (x.mat k).e := by
 unfold Pl.vals Pl.mat
 refine List.map_congr_left fun t ht => ?_
 have : x.ent (x.at_ k + t) = 0 := by unfold Pl.ent; rw [if_pos h]
 rw [this, ite_self]
theorem vals_zero (x : Pl) (k : Nat) : (mkM x.P (x.rows k) (x.cols k) fun _ _ => 0).e = x.vals k 0 := by
 unfold Pl.vals mkM Lin.mat
 exact List.map_congr_left fun t _ => (if_neg (by omega)).symm
theorem ox_val {P : Program} {o : Oper} {s : Slots} {h : Hp} {ms : List Hp} {v v' : Value} (H : OX P o s h ms v) (e : v = v') : OX P o s h ms v' := e ▸ H
theorem zig_ok (x : Pl) (vd vs : Value) (h : Hp) (hx : x.Ok) (hR : RdP h vd vs x) : FnT Tryz.prog 15 #[.agg #[.int .u8 x.p, vd, .int .u16 x.back, vs, .bool x.thin]] h [] (fun r h' ms' => h.le h' ∧ ∃ (vdo vao : Value) (md ma mB : Hp) (A : List Ar), ms' = [ma, md, mB] ∧ r = .agg #[.int .i64 x.P, vdo, vao] ∧ OwnL cI 1 3 md vdo x.dims ∧ OwnL cA 5 45 ma vao A ∧ A.map Ar.core = x.core ∧ BagE A mB) := by
 have o1 := hR.d.rd.one
 have o2 := hR.s.rd.one
 have hxp := hx.p
 have hdl := hR.d.len_le
 have hsl := hR.s.len_le
 refine fn_enter func15 ntmps15 rfl rfl (fun w0 hw0 => ?_)
 simp only [argS]
 refine RsQ ?_
 refine wl_box [_, _, _, _, _] rfl rfl (by rfl) rfl rfl rfl (fun g1 => ?_)
 refine AlQ [.int .i64 0, .slice none 0 0, .slice none 0 0] rfl el30 rfl rfl (fun g2 => RnQ (ws_freezeBi 1 rfl fun h1 l1 hS1 => ?_))
 have hR := hR.up l1
 have hA := Seg.all hS1
 have hA0 := hA 0 _ rfl
 have hpl : x.p % 4 < 4 := Nat.mod_lt _ (by decide)
 refine RsQ ?_
 refine wl_buildSlice [(0, _), (1, _), (2, _), (3, _)] [.int .i64 0, .int .i64 0, .int .i64 0, .int .i64 0] [_, _, _, _] rfl underlying24 el3 rfl (by omega) (by kernel_rfl) (by repeat (first | exact trivial | refine ⟨⟨by rfl, rfl, rfl⟩, ?_⟩)) rfl rfl rfl rfl (fun g13 => ?_)
 refine wl_freezeL (OwnL.blk (g := g13) (el := 3) (F := cI) (l := [2, 3, 5, 7]) 4 cI_len rfl (by omega)) fun h2 l2 hR13 => ?_
 have hS1 := hS1.le l2
 have hR := hR.up l2
 have hA := Seg.all hS1
 have hA0 := hA 0 _ rfl
 have hcp : ∀ ms, Cell h2 ms ((vbase (.slice (some ⟨g13, 0, none⟩) 4 4)).add (x.p % 4 * 1)) (.int .i64 x.P) := fun ms => by
  have := (hR13.any (ms := ms)).cell0 (j := x.p % 4) hpl rfl
  have e : ([2, 3, 5, 7] : List Int)[x.p % 4] = x.P := by unfold Pl.P; simp [List.getD, hpl]
  rw [e] at this
  exact this
 refine Qx (ox_fieldF fd26_0 rfl rfl) rfl (Qx (ox_load rfl underlying5 rfl rfl (hA0 _)) rfl (Qx (ox_remP rfl rfl rfl (by omega) (by omega)) rfl (Qx (ox_index (x.p % 4) rfl underlying24 el3 rfl rfl (by omega) (by omega)) rfl (Qx (ox_load rfl underlying3 rfl rfl (hcp _)) rfl ?_))))
 refine Qx (ox_buildS st30 [.int .i64 0, .slice none 0 0, .slice none 0 0] [(0, _)] [_, _, _] rfl el30 rfl rfl (by repeat (first | exact trivial | refine ⟨⟨rfl, rfl, rfl⟩, ?_⟩)) rfl) rfl ?_
 refine AlQ [.int .i64 0, .slice none 0 0, .slice none 0 0] rfl el30 rfl rfl (fun g3 => ?_)
 refine wl_storeAll 0 [_, _, _] rfl el30 rfl rfl rfl (by (simp [Value.oneCell']; done)) rfl rfl rfl rfl rfl ?_
 refine RnQ ?_
 refine ws_cut (fun sl hh ms' => ∃ (vo : Value) (md : Hp), sl = [(1, .pointer (some ⟨g1, 0, none⟩)), (2, .pointer (some ⟨g2, 0, none⟩)), (3, .pointer (some ⟨g3, 0, none⟩))] ∧ h2 = hh ∧ ms' = [Blk g3 30 [.int .i64 x.P, vo, .slice none 0 0], md, Blk g2 30 [.int .i64 0, .slice none 0 0, .slice none 0 0]] ∧ OwnL cI 1 3 md vo x.pre) ?_ (fun s h ms hI => ?_)
 ·refine ws_seq (ws_region (Qm rfl (RnQ (ws_block (ws_emp (ws_top 1 rfl ?_))))))
  refine ws_loop (fun q sl hh ms' => ∃ (i : Nat) (vo : Value) (md : Hp), q = x.ds.length - i ∧ sl = [(1, .pointer (some ⟨g1, 0, none⟩)), (2, .pointer (some ⟨g2, 0, none⟩)), (3, .pointer (some ⟨g3, 0, none⟩)), (4, .int .i64 i)] ∧ h2 = hh ∧ ms' = [Blk g3 30 [.int .i64 x.P, vo, .slice none 0 0], md, Blk g2 30 [.int .i64 0, .slice none 0 0, .slice none 0 0]] ∧ i ≤ x.ds.length ∧ i ≤ 8 ∧ OwnL cI 1 3 md vo ((x.ds.take i).map fun d => ((d % 5 : Nat) : Int)))
   (x.ds.length - 0) _ ⟨0, _, _, rfl, rfl, rfl, rfl, by omega, by omega, OwnL.nil cI_len⟩ Qs ?_
  rintro q sl hh ms' ⟨i, vo, md, rfl, rfl, rfl, rfl, hi, hi8, hO⟩
  have olen : ((x.ds.take i).map fun d => ((d % 5 : Nat) : Int)).length ≤ 8 := by rw [List.length_map, List.length_take]; omega
  refine ws_seq (RsQ (Qm rfl (Qx (ox_fieldF fd26_1 rfl rfl) rfl (Qx (ox_load rfl underlying22 rfl rfl (hA _ _ rfl _)) rfl (Qx (ox_lenR hR.d.rd.any rfl underlying22 rfl) rfl (Qx (ox_lss rfl rfl rfl) rfl (Qm rfl ?_)))))))
  refine wl_split (t := 25) rfl (fun hs1 => ?_) (fun hs1 => ?_)
  ·have hil : i < x.ds.length := by omega
   refine Qg (ox_move rfl rfl) rfl (Qg (ox_lss rfl rfl rfl) rfl (Qx (ox_pick_t rfl rfl rfl) rfl (RnQ ?_)))
   refine ws_if rfl (fun hs2 => ?_) (fun hs2 => ?_)
   ·have hdb := rdl_up8 hx hil
    refine ws_skip (nx_then (ws_seq (ws_block (ws_draw 10 fol (by kernel_rfl) rfl (wr_x (ox_fieldF fd30_1 rfl rfl) rfl rfl (wr_x (ox_load rfl underlying24 rfl rfl (Cell.blk 0 rfl rfl)) rfl rfl (wr_x (ox_fieldF fd26_1 rfl rfl) rfl rfl (wr_x (ox_load rfl underlying22 rfl rfl (hA _ _ rfl _)) rfl rfl (wr_x (ox_move rfl rfl) rfl rfl (wr_x (ox_indexR (i) hR.d.rd.any rfl underlying22 el5 rfl rfl (by omega) (by omega)) rfl rfl (wr_x (ox_load rfl underlying5 rfl rfl (hR.d.any.cell0 hil rfl)) rfl rfl (wr_x (ox_remP rfl rfl rfl (by omega) (by omega)) rfl rfl (wr_x (ox_conv rfl underlying5 underlying3 rfl (wrap_i64 (by omega))) rfl rfl ?_)))))))))))))
    refine wr_b (onb_buildSlice1 [_] rfl underlying24 el3 rfl (by rfl) rfl rfl (by omega)) rfl rfl ?_
    refine wr_nil1 (fun g40 => ?_)
    refine wl_appendL 2 hO (RdL.one cI_len (x := ((x.ds[i] % 5 : Nat) : Int)) (List.Mem.head _) rfl) rfl underlying24 el3 rfl (by omega) rfl rfl rfl cI_one (by simp only [List.length_singleton]; omega) (by simp only [List.length_singleton]; omega) rfl rfl rfl (fun vo2 md2 hO2 => ?_)
    have ov2 : vo2.oneCell' = true := (hO2.rd (h := h) (ms := [md2]) (List.Mem.head _)).rd.one
    refine Qx (ox_fieldF fd30_1 rfl rfl) rfl ?_
    refine wl_storeAt 1 _ rfl el24 rfl rfl (by assumption) rfl rfl (by (simp; done)) rfl rfl ?_
    refine wl_nil (nx_block (nx_then (ws_region (Qm rfl (Qx (ox_add rfl rfl rfl (by omega)) rfl (Qm rfl (wl_nil (nx_drop ?_))))))))
    refine nx_round (x.ds.length - (i + 1)) _ (by omega) ⟨i + 1, vo2, md2, rfl, rfl, rfl, rfl, by omega, by omega, by rw [List.take_succ_eq_append_getElem hil, List.map_append]; exact hO2⟩ Qs
   ·obtain rfl : i = 8 := by omega
    refine ws_exit (nx_then_exit (nx_then_exit (nx_block_exit ?_)))
    exact nx_meet _ ⟨vo, md, rfl, rfl, rfl, hO⟩ Qs
  ·obtain rfl : i = x.ds.length := by omega
   refine Qk rfl (Qk rfl (Qx (ox_pick_f rfl rfl rfl) rfl (RnQ (ws_cond_f rfl (ws_exit (nx_then_exit (nx_then_exit (nx_block_exit ?_))))))))
   exact nx_meet _ ⟨vo, md, rfl, rfl, rfl, by unfold Pl.pre; rw [List.take_of_length_le (by omega)] at hO ⊢; exact hO⟩ Qs
 ·obtain ⟨vo, md, rfl, rfl, rfl, hO⟩ := hI
  have hpn := x.pre_len
  refine ws_cut (fun sl hh ms' => ∃ (vo : Value) (md : Hp), sl = [(1, .pointer (some ⟨g1, 0, none⟩)), (2, .pointer (some ⟨g2, 0, none⟩)), (3, .pointer (some ⟨g3, 0, none⟩))] ∧ h2 = hh ∧ ms' = [Blk g3 30 [.int .i64 x.P, vo, .slice none 0 0], md, Blk g2 30 [.int .i64 0, .slice none 0 0, .slice none 0 0]] ∧ OwnL cI 1 3 md vo x.dims) ?_ (fun s h ms hI => ?_)
  ·refine ws_seq (ws_region (Qx (ox_fieldF fd30_1 rfl rfl) rfl (Qx (ox_load rfl underlying24 rfl rfl (Cell.blk 0 (k := 1) rfl rfl)) rfl (Qx (ox_lenS (hO.rd (h := h2) (ms := [md]) (List.Mem.head _)).rd rfl underlying24 rfl) rfl (Qx (ox_eqi rfl rfl rfl) rfl (RnQ ?_))))))
   refine ws_if rfl (fun hz => ?_) (fun hz => ?_)
   ·refine ws_region ?_
    refine wl_buildSlice1 [_] rfl underlying24 el3 rfl (by rfl) rfl rfl (by omega) rfl rfl rfl (fun g47 => ?_)
    refine Qx (ox_fieldF fd30_1 rfl rfl) rfl ?_
    refine wl_storeAt 1 _ rfl el24 rfl rfl (by rfl) rfl rfl (by (simp; done)) rfl rfl ?_
    refine wl_nil (nx_dropAt 2 rfl (nx_swap ?_))
    exact nx_meet _ ⟨_, _, rfl, rfl, rfl, by unfold Pl.dims; rw [if_pos (List.length_eq_zero_iff.1 (by omega))]; exact OwnL.blk (F := cI) (l := [2]) 1 cI_len rfl (by omega)⟩ Qs
   ·refine ws_skip ?_
    exact nx_meet _ ⟨vo, md, rfl, rfl, rfl, by unfold Pl.dims; rw [if_neg (fun e => hz (by rw [e]; rfl))]; exact hO⟩ Qs
  ·obtain ⟨vo, md, rfl, rfl, rfl, hO⟩ := hI
   have hdn := x.dims_len
   refine RsQ (Qm rfl (RnQ (ws_seq (RsQ (Qm rfl (RnQ (ws_block (ws_emp (ws_emp ?_)))))))))
   refine ws_loop (fun q sl hh ms' => ∃ (k a : Nat) (va : Value) (ma mB : Hp) (A : List Ar), q = x.dims.length - k ∧ sl = [(1, .pointer (some ⟨g1, 0, none⟩)), (2, .pointer (some ⟨g2, 0, none⟩)), (3, .pointer (some ⟨g3, 0, none⟩)), (5, .int .i64 a), (6, .int .i64 k)] ∧ h2.le hh ∧ ms' = [ma, mB, Blk g3 30 [.int .i64 x.P, vo, va], md, Blk g2 30 [.int .i64 0, .slice none 0 0, .slice none 0 0]] ∧ k + 1 ≤ x.dims.length ∧ OwnL cA 5 45 ma va A ∧ A.map Ar.core = x.core.take k ∧ BagE A mB ∧ (x.seed = [] → a = 0) ∧ (x.seed ≠ [] → a = x.at_ k))
    (x.dims.length - 0) _ ⟨0, 0, _, _, _, [], rfl, rfl, Hp.le_refl _, rfl, by omega, OwnL.nil cA_len, by simp, BagE.nil, fun _ => rfl, fun _ => rfl⟩ Qs ?_
   rintro q sl hh ms' ⟨k, a, va, ma, mB, A, rfl, rfl, lh, rfl, hk, hOa, hAc, hB, ha0, ha1⟩
   have hR := hR.up lh
   have hA := Seg.all (hS1.le lh)
   have hA0 := hA 0 _ rfl
   have hal := x.at_le k
   have hale : a ≤ 128 := by
    by_cases hse : x.seed = []
    ·rw [ha0 hse]; omega
    ·rw [ha1 hse]; omega
   refine ws_seq (RsQ (Qm rfl (Qx (ox_add rfl rfl rfl (by omega)) rfl (Qx (ox_fieldF fd30_1 rfl rfl) rfl (Qx (ox_load rfl underlying24 rfl rfl (Cell.blk 2 (k := 1) rfl rfl)) rfl (Qx (ox_lenS (hO.rd (h := h2) (ms := [md]) (List.Mem.head _)).rd rfl underlying24 rfl) rfl (Qx (ox_lss rfl rfl rfl) rfl (RnQ ?_))))))))
   refine ws_if rfl (fun hlt => ?_) (fun hlt => ?_)
   ·have hk1 : k + 1 < x.dims.length := by omega
    have hbk : x.back / 2 ^ k < 65536 := Nat.lt_of_le_of_lt (Nat.div_le_self _ _) hx.back
    have hd0 : ∀ ms, md ∈ ms → Cell hh ms ((vbase vo).add (k * 1)) (.int .i64 (x.d k)) := fun ms hm => by
     have h1 : k < x.dims.length := by omega
     have := (hO.rd (h := hh) hm).cell0 h1 rfl
     have e : x.dims[k] = x.d k := by rw [x.d_eq]; simp [List.getD, h1]
     rw [e] at this; exact this
    have hd1 : ∀ ms, md ∈ ms → Cell hh ms ((vbase vo).add ((k + 1) * 1)) (.int .i64 (x.d (k + 1))) := fun ms hm => by
     have := (hO.rd (h := hh) hm).cell0 hk1 rfl
     have e : x.dims[k + 1] = x.d (k + 1) := by rw [x.d_eq]; simp [List.getD, hk1]
     rw [e] at this; exact this
    have hbq : decide (((x.back / 2 ^ k % 2 : Nat) : Int) = 1) = x.bk k := by unfold Pl.bk; exact decide_eq_decide.2 (by omega)
    refine ws_skip (nx_then (ws_seq (ws_block (RsQ (Qx (ox_fieldF fd26_2 rfl rfl) rfl (Qx (ox_load rfl underlying23 rfl rfl (hA _ _ rfl _)) rfl (Qm rfl (Qx (ox_shr16 rfl rfl rfl (by omega)) rfl (Qx (ox_odd16 rfl rfl rfl (by omega)) rfl (Qx (ox_eqi rfl rfl rfl) rfl (Qm rfl (RtQ (Qx (ox_fieldF fd30_1 rfl rfl) rfl (Qx (ox_load rfl underlying24 rfl rfl (Cell.blk 2 (k := 1) rfl rfl)) rfl (Qm rfl (Qx (ox_add rfl rfl rfl (by omega)) rfl (Qx (ox_indexS (k + 1) (hO.rd (h := h2) (ms := [md]) (List.Mem.head _)).rd rfl underlying24 el3 rfl rfl (by omega) (by omega)) rfl (Qx (ox_load rfl underlying3 rfl rfl (hd1 _ (List.Mem.tail _ (List.Mem.tail _ (List.Mem.tail _ (List.Mem.head _)))))) rfl (Qm rfl (RtQ (Qx (ox_fieldF fd30_1 rfl rfl) rfl (Qx (ox_load rfl underlying24 rfl rfl (Cell.blk 2 (k := 1) rfl rfl)) rfl (Qm rfl (Qx (ox_indexS (k) (hO.rd (h := h2) (ms := [md]) (List.Mem.head _)).rd rfl underlying24 el3 rfl rfl (by omega) (by omega)) rfl (Qx (ox_load rfl underlying3 rfl rfl (hd0 _ (List.Mem.tail _ (List.Mem.tail _ (List.Mem.tail _ (List.Mem.head _)))))) rfl (Qm rfl (RnQ ?_)))))))))))))))))))))))))))
    refine ws_cut (fun sl h3 ms' => ∃ b : Bool, sl = [(1, .pointer (some ⟨g1, 0, none⟩)), (2, .pointer (some ⟨g2, 0, none⟩)), (3, .pointer (some ⟨g3, 0, none⟩)), (5, .int .i64 a), (6, .int .i64 k), (7, .bool b), (8, .int .i64 (x.rows k)), (9, .int .i64 (x.cols k))] ∧ hh = h3 ∧ ms' = [ma, mB, Blk g3 30 [.int .i64 x.P, vo, va], md, Blk g2 30 [.int .i64 0, .slice none 0 0, .slice none 0 0]] ∧ b = x.bk k) ?_ (fun s h ms hI => ?_)
    ·refine ws_seq (ws_region (Qm rfl (RnQ ?_)))
     refine ws_cond rfl (fun hbt => ?_) (fun hbt => ?_)
     ·have hbt : x.bk k = true := hbq ▸ hbt
      have e1 : x.rows k = x.d k := if_pos hbt
      have e2 : x.cols k = x.d (k + 1) := if_pos hbt
      rw [e1, e2]
      refine RsQ (Qx (ox_fieldF fd30_1 rfl rfl) rfl (Qx (ox_load rfl underlying24 rfl rfl (Cell.blk 2 (k := 1) rfl rfl)) rfl (Qm rfl (Qx (ox_indexS (k) (hO.rd (h := h2) (ms := [md]) (List.Mem.head _)).rd rfl underlying24 el3 rfl rfl (by omega) (by omega)) rfl (Qx (ox_load rfl underlying3 rfl rfl (hd0 _ (List.Mem.tail _ (List.Mem.tail _ (List.Mem.tail _ (List.Mem.head _)))))) rfl (Qm rfl (RrQ (Qx (ox_fieldF fd30_1 rfl rfl) rfl (Qx (ox_load rfl underlying24 rfl rfl (Cell.blk 2 (k := 1) rfl rfl)) rfl (Qm rfl (Qx (ox_add rfl rfl rfl (by omega)) rfl (Qx (ox_indexS (k + 1) (hO.rd (h := h2) (ms := [md]) (List.Mem.head _)).rd rfl underlying24 el3 rfl rfl (by omega) (by omega)) rfl (Qx (ox_load rfl underlying3 rfl rfl (hd1 _ (List.Mem.tail _ (List.Mem.tail _ (List.Mem.tail _ (List.Mem.head _)))))) rfl (Qm rfl (wl_nil ?_)))))))))))))))
      exact nx_meet _ ⟨_, rfl, rfl, rfl, hbq⟩ Qs
     ·have hbt : ¬ x.bk k = true := by rw [← hbq, hbt]; decide
      have e1 : x.rows k = x.d (k + 1) := if_neg hbt
      have e2 : x.cols k = x.d k := if_neg hbt
      rw [e1, e2]
      refine ws_skip ?_
      exact nx_meet _ ⟨_, rfl, rfl, rfl, hbq⟩ Qs
    ·obtain ⟨b, rfl, rfl, rfl, rfl⟩ := hI
     have hrc := x.rc_le k
     have hpb := x.P_bd
     refine RsQ (Qx (ox_fieldF fd30_0 rfl rfl) rfl (Qx (ox_load rfl underlying3 rfl rfl (Cell.blk 2 (k := 0) rfl rfl)) rfl (Qm rfl (Qm rfl ?_))))
     refine wl_call rfl call23 rfl (rzero_ok x.P (x.rows k) (x.cols k) hh ⟨by omega, by omega⟩) rfl rfl rfl (fun xm h4 ms4 l4 hF => ?_)
     rw [mkZ_nat x.P_is (show x.rows k ≤ 400 by omega) (show x.cols k ≤ 400 by omega)] at hF
     obtain ⟨rfl, xe, mx, rfl, rfl, hOx⟩ := hF
     have ox : xe.oneCell' = true := (hOx.rd (h := h) (ms := [mx]) (List.Mem.head _)).rd.one
     refine AlQ [.int .i64 0, .int .i64 0, .int .i64 0, .slice none 0 0] rfl el42 rfl rfl (fun g10 => ?_)
     refine wl_storeAll 0 [_, _, _, _] rfl el42 rfl rfl rfl (by (simp [ox]; done)) rfl rfl rfl rfl rfl ?_
     refine RnQ (ws_freezeB fun h5 l5 hS10 => ?_)
     have hR := hR.up l5
     have hA := Seg.all (hS1.le (Hp.le_trans lh l5))
     have hA0 := hA 0 _ rfl
     have hC := Seg.all hS10
     have hvl := vals_len x k
     have hsz := x.sz_le k
     refine ws_cut (fun sl h6 ms' => ∃ (a' : Nat) (mx : Hp), sl = [(1, .pointer (some ⟨g1, 0, none⟩)), (2, .pointer (some ⟨g2, 0, none⟩)), (3, .pointer (some ⟨g3, 0, none⟩)), (5, .int .i64 a'), (6, .int .i64 k), (7, .bool (x.bk k)), (10, .pointer (some ⟨g10, 0, none⟩))] ∧ h5 = h6 ∧ ms' = [mx, ma, mB, Blk g3 30 [.int .i64 x.P, vo, va], md, Blk g2 30 [.int .i64 0, .slice none 0 0, .slice none 0 0]] ∧ OwnL cI 1 3 mx xe (x.mat k).e ∧ (x.seed = [] → a' = 0) ∧ (x.seed ≠ [] → a' = x.at_ (k + 1))) ?_ (fun s h ms hI => ?_)
     ·refine ws_seq (ws_region (Qm rfl (RnQ (ws_block ?_))))
      refine ws_loop (fun q sl h6 ms' => ∃ (j : Nat) (mx : Hp), q = x.rows k * x.cols k - j ∧ sl = [(1, .pointer (some ⟨g1, 0, none⟩)), (2, .pointer (some ⟨g2, 0, none⟩)), (3, .pointer (some ⟨g3, 0, none⟩)), (5, .int .i64 ((a + j : Nat) : Int)), (6, .int .i64 k), (7, .bool (x.bk k)), (10, .pointer (some ⟨g10, 0, none⟩)), (11, .int .i64 j)] ∧ h5 = h6 ∧ ms' = [mx, ma, mB, Blk g3 30 [.int .i64 x.P, vo, va], md, Blk g2 30 [.int .i64 0, .slice none 0 0, .slice none 0 0]] ∧ j ≤ x.rows k * x.cols k ∧ OwnL cI 1 3 mx xe (x.vals k j) ∧ (x.seed = [] → j = 0))
       (x.rows k * x.cols k - 0) _ ⟨0, mx, rfl, rfl, rfl, rfl, by omega, vals_zero x k ▸ hOx, fun _ => rfl⟩ Qs ?_
      rintro q sl h6 ms' ⟨j, mx, rfl, rfl, rfl, rfl, hj, hOx, hj0⟩
      have hvj := hvl j
      refine ws_seq (RsQ (Qm rfl (Qx (ox_fieldF fd42_3 rfl rfl) rfl (Qx (ox_load rfl underlying24 rfl rfl (hC _ _ rfl _)) rfl (Qx (ox_lenS (hOx.rd (h := h2) (ms := [mx]) (List.Mem.head _)).rd rfl underlying24 rfl) rfl (Qx (ox_lss rfl rfl rfl) rfl (Qm rfl ?_)))))))
      refine wl_split (t := 96) rfl (fun hs1 => ?_) (fun hs1 => ?_)
      ·have hjl : j < x.rows k * x.cols k := by omega
       refine Qg (ox_fieldF fd26_3 rfl rfl) rfl (Qg (ox_load rfl underlying24 rfl rfl (hA _ _ rfl _)) rfl (Qg (ox_lenR hR.s.rd.any rfl underlying24 rfl) rfl (Qg (ox_gtr rfl rfl rfl) rfl (Qx (ox_pick_t rfl rfl rfl) rfl (RnQ ?_)))))
       refine ws_if rfl (fun hs2 => ?_) (fun hs2 => ?_)
       ·have hsl0 : 0 < x.seed.length := by omega
        have hse : x.seed ≠ [] := fun e => by rw [e] at hsl0; exact absurd hsl0 (by decide)
        have hak := ha1 hse
        have q1 : (((a + j : Nat) : Int)) % (x.seed.length : Int) = (((a + j) % x.seed.length : Nat) : Int) := (Int.natCast_emod _ _).symm
        have q2 : (((a + j : Nat) : Int)) / (x.seed.length : Int) = (((a + j) / x.seed.length : Nat) : Int) := (Int.natCast_ediv _ _).symm
        have q3 : (a + j) / x.seed.length ≤ a + j := Nat.div_le_self _ _
        have q4 : 0 ≤ (((a + j : Nat) : Int)) / (x.seed.length : Int) := Int.ediv_nonneg (by omega) (by omega)
        have hml : (a + j) % x.seed.length < x.seed.length := Nat.mod_lt _ hsl0
        have hraw : Value.int .i64 (IntKind.i64.wrap (x.seed[(a + j) % x.seed.length] + 3 * ((((a + j : Nat) : Int)) / (x.seed.length : Int)))) = Value.int .i64 (x.raw (a + j)) := by
         unfold Pl.raw
         rw [q2, getD_I hml]
        have hrb : I64 (x.raw (a + j)) := wrap_bd _
        have hrb1 := hrb.1
        have hrb2 := hrb.2
        have hent : x.ent (x.at_ k + j) = if x.thin = false ∨ x.raw (a + j) % 3 = 0 then IntKind.i64.wrap ((x.raw (a + j)).tdiv 3 + x.raw (a + j)) % x.P else 0 := by
         unfold Pl.ent; rw [if_neg hse, hak]
        refine ws_skip (nx_then ?_)
        refine ws_cut (fun sl h6 ms' => ∃ (mx : Hp), sl = [(1, .pointer (some ⟨g1, 0, none⟩)), (2, .pointer (some ⟨g2, 0, none⟩)), (3, .pointer (some ⟨g3, 0, none⟩)), (5, .int .i64 ((a + (j + 1) : Nat) : Int)), (6, .int .i64 k), (7, .bool (x.bk k)), (10, .pointer (some ⟨g10, 0, none⟩)), (11, .int .i64 j)] ∧ h5 = h6 ∧ ms' = [mx, ma, mB, Blk g3 30 [.int .i64 x.P, vo, va], md, Blk g2 30 [.int .i64 0, .slice none 0 0, .slice none 0 0]] ∧ OwnL cI 1 3 mx xe (x.vals k (j + 1))) ?_ (fun s h ms hI => ?_)
        ·refine ws_block (ws_seq (ws_draw 15 fol (by kernel_rfl) rfl (wr_x (ox_fieldF fd26_3 rfl rfl) rfl rfl (wr_x (ox_load rfl underlying24 rfl rfl (hA _ _ rfl _)) rfl rfl (wr_x (ox_move rfl rfl) rfl rfl (wr_x (ox_fieldF fd26_3 rfl rfl) rfl rfl (wr_x (ox_load rfl underlying24 rfl rfl (hA _ _ rfl _)) rfl rfl (wr_x (ox_lenR hR.s.rd.any rfl underlying24 rfl) rfl rfl (wr_x (ox_remP rfl rfl rfl (by omega) (by omega)) rfl rfl (wr_x (ox_indexR ((a + j) % x.seed.length) hR.s.rd.any rfl underlying24 el3 rfl rfl (by omega) (by omega)) rfl rfl (wr_x (ox_load rfl underlying3 rfl rfl (hR.s.any.cell0 hml rfl)) rfl rfl (wr_x (ox_move rfl rfl) rfl rfl (wr_x (ox_fieldF fd26_3 rfl rfl) rfl rfl (wr_x (ox_load rfl underlying24 rfl rfl (hA _ _ rfl _)) rfl rfl (wr_x (ox_lenR hR.s.rd.any rfl underlying24 rfl) rfl rfl (wr_x (ox_quoP rfl rfl rfl (by omega) (by omega)) rfl rfl (wr_x (ox_mul rfl rfl rfl (by omega)) rfl rfl (wr_nil (Qx (ox_val (ox_addW rfl rfl rfl) hraw) rfl (Qm rfl (RtQ (Qm rfl (Qx (ox_add rfl rfl rfl (by omega)) rfl (Qm rfl (RtQ (Qx (ox_fieldF fd26_4 rfl rfl) rfl (Qx (ox_load rfl underlying4 rfl rfl (hA _ _ rfl _)) rfl (Qx (ox_not rfl rfl) rfl (Qm rfl ?_)))))))))))))))))))))))))))))
         refine wl_splitb (t := 125) rfl (fun ht => ?_) (fun ht => ?_)
         ·have ht : x.thin = false := by simpa using ht
          rw [if_pos (.inl ht)] at hent
          refine Qk rfl (Qk rfl (Qk rfl (Qx (ox_pick_t rfl rfl rfl) rfl (RnQ (ws_cond_t rfl (ws_draw 10 fol (by kernel_rfl) rfl (wr_x (ox_fieldF fd42_3 rfl rfl) rfl rfl (wr_x (ox_load rfl underlying24 rfl rfl (hC _ _ rfl _)) rfl rfl (wr_x (ox_move rfl rfl) rfl rfl (wr_x (ox_move rfl rfl) rfl rfl (wr_x (ox_quo rfl rfl rfl (by omega) (by omega)) rfl rfl (wr_x (ox_move rfl rfl) rfl rfl (wr_x (ox_addW rfl rfl rfl) rfl rfl (wr_x (ox_fieldF fd30_0 rfl rfl) rfl rfl (wr_x (ox_load rfl underlying3 rfl rfl (Cell.blk 3 (k := 0) rfl rfl)) rfl rfl ?_)))))))))))))))
          refine wr_x (ox_call rfl call34 rfl (mod22_v _ x.P (wrap_bd _) ⟨by omega, by omega⟩ _ _)) rfl rfl ?_
          refine wr_nil (Qx (ox_indexS (j) (hOx.rd (h := h2) (ms := [mx]) (List.Mem.head _)).rd rfl underlying24 el3 rfl rfl (by omega) (by omega)) rfl (wl_storeN 0 j hOx rfl el3 rfl rfl rfl (by omega) rfl rfl (fun m' hO' => wl_nil (nx_block ?_))))
          exact nx_meet _ ⟨m', rfl, rfl, rfl, by rw [← vals_set x k hjl, hent]; exact hO'⟩ Qs
         ·have ht : ¬ x.thin = false := by simpa using ht
          refine Qg (ox_move rfl rfl) rfl ?_
          refine Qg (ox_call rfl call34 rfl (mod22_v (x.raw (a + j)) 3 hrb ⟨by omega, by omega⟩ _ _)) rfl ?_
          refine Qg (ox_eqi rfl rfl rfl) rfl (Qx (ox_pick_f rfl rfl rfl) rfl (RnQ ?_))
          refine ws_if rfl (fun hm => ?_) (fun hm => ?_)
          ·rw [if_pos (.inr hm)] at hent
           refine ws_draw 10 fol (by kernel_rfl) rfl (wr_x (ox_fieldF fd42_3 rfl rfl) rfl rfl (wr_x (ox_load rfl underlying24 rfl rfl (hC _ _ rfl _)) rfl rfl (wr_x (ox_move rfl rfl) rfl rfl (wr_x (ox_move rfl rfl) rfl rfl (wr_x (ox_quo rfl rfl rfl (by omega) (by omega)) rfl rfl (wr_x (ox_move rfl rfl) rfl rfl (wr_x (ox_addW rfl rfl rfl) rfl rfl (wr_x (ox_fieldF fd30_0 rfl rfl) rfl rfl (wr_x (ox_load rfl underlying3 rfl rfl (Cell.blk 3 (k := 0) rfl rfl)) rfl rfl ?_)))))))))
           refine wr_x (ox_call rfl call34 rfl (mod22_v _ x.P (wrap_bd _) ⟨by omega, by omega⟩ _ _)) rfl rfl ?_
           refine wr_nil (Qx (ox_indexS (j) (hOx.rd (h := h2) (ms := [mx]) (List.Mem.head _)).rd rfl underlying24 el3 rfl rfl (by omega) (by omega)) rfl (wl_storeN 0 j hOx rfl el3 rfl rfl rfl (by omega) rfl rfl (fun m' hO' => wl_nil (nx_block ?_))))
           exact nx_meet _ ⟨m', rfl, rfl, rfl, by rw [← vals_set x k hjl, hent]; exact hO'⟩ Qs
          ·rw [if_neg (fun h => h.elim ht hm)] at hent
           refine ws_skip (nx_block ?_)
           exact nx_meet _ ⟨mx, rfl, rfl, rfl, by rw [← vals_skip x k hjl hent]; exact hOx⟩ Qs
        ·obtain ⟨mx, rfl, rfl, rfl, hOx⟩ := hI
         refine ws_region (Qm rfl (Qx (ox_add rfl rfl rfl (by omega)) rfl (Qm rfl (wl_nil ?_))))
         refine nx_round (x.rows k * x.cols k - (j + 1)) _ (by omega) ⟨j + 1, mx, rfl, rfl, rfl, rfl, by omega, hOx, fun e => absurd e hse⟩ Qs
       ·have hse : x.seed = [] := List.length_eq_zero_iff.1 (by omega)
        have hj1 := hj0 hse
        have ha2 := ha0 hse
        refine ws_exit (nx_then_exit (nx_then_exit (nx_block_exit ?_)))
        exact nx_meet _ ⟨a + j, mx, rfl, rfl, rfl, by rw [← vals_none x k j hse]; exact hOx, fun _ => by omega, fun e => absurd hse e⟩ Qs
      ·obtain rfl : j = x.rows k * x.cols k := by omega
       refine Qk rfl (Qk rfl (Qk rfl (Qk rfl (Qx (ox_pick_f rfl rfl rfl) rfl (RnQ (ws_cond_f rfl (ws_exit (nx_then_exit (nx_then_exit (nx_block_exit ?_))))))))))
       exact nx_meet _ ⟨a + x.rows k * x.cols k, mx, rfl, rfl, rfl, by rw [← vals_all x k]; exact hOx, fun e => by rw [ha0 e, hj0 e], fun e => by rw [ha1 e]; rfl⟩ Qs
     ·obtain ⟨a', mx, rfl, rfl, rfl, hOx, hb0, hb1⟩ := hI
      have ova : va.oneCell' = true := (hOa.rd (h := h) (ms := [ma]) (List.Mem.head _)).rd.one
      have hAl : A.length = k := by
       have h1 := congrArg List.length hAc
       rw [List.length_map, List.length_take, x.core_len] at h1; omega
      refine ws_region (Qx (ox_fieldF fd30_2 rfl rfl) rfl (Qx (ox_load rfl underlying28 rfl rfl (Cell.blk 3 (k := 2) rfl rfl)) rfl (Qm rfl (Qx (ox_loadG rfl underlying42 rfl el42 rfl rfl (Seg.any hS10)) rfl ?_))))
      refine Qx (ox_buildS st45 [.bool false, .int .i64 0, .int .i64 0, .int .i64 0, .slice none 0 0] [(0, _), (1, _)] [_, _, _, _, _] rfl el45 rfl rfl (by repeat (first | exact trivial | refine ⟨⟨rfl, rfl, rfl⟩, ?_⟩)) rfl) rfl ?_
      refine wl_buildSlice1 [_, _, _, _, _] rfl underlying28 el45 rfl (by rfl) rfl rfl (by omega) rfl rfl rfl (fun g146 => ?_)
      refine wl_appendV 2 hOa (RdL.one cA_len (x := ⟨x.bk k, x.mat k, xe⟩) (List.Mem.head _) rfl) rfl underlying28 el45 rfl (by omega) rfl rfl rfl (one_ar ox) (by simp only [List.length_singleton]; omega) (by simp only [List.length_singleton]; omega) rfl rfl rfl (fun va2 ma2 hOa2 => ?_)
      have ova2 : va2.oneCell' = true := (hOa2.rd (h := h) (ms := [ma2]) (List.Mem.head _)).rd.one
      refine Qx (ox_fieldF fd30_2 rfl rfl) rfl ?_
      refine wl_storeAt 4 _ rfl el28 rfl rfl (by assumption) rfl rfl (by (simp; done)) rfl rfl ?_
      refine wl_nil (nx_block (nx_then (ws_region (Qm rfl (Qx (ox_add rfl rfl rfl (by omega)) rfl (Qm rfl (wl_nil (nx_drop (nx_perm (ms' := [mB, mx, ma2, Blk g3 30 [.int .i64 x.P, vo, va2], md, Blk g2 30 [.int .i64 0, .slice none 0 0, .slice none 0 0]]) (perm3 _ _ _ |>.trans (List.Perm.refl _) |> fun p => (p.append_right [Blk g3 30 [.int .i64 x.P, vo, va2], md, Blk g2 30 [.int .i64 0, .slice none 0 0, .slice none 0 0]])) (nx_apart fun hap => ?_))))))))))
      have hd12 : mB.disj mx := (List.pairwise_cons.1 hap).1 _ List.mem_cons_self
      refine nx_join (nx_swap ?_)
      refine nx_round (x.dims.length - (k + 1)) _ (by omega) ⟨k + 1, a', va2, ma2, mB.join mx, A ++ [⟨x.bk k, x.mat k, xe⟩], rfl, rfl, Hp.le_trans lh l5, rfl, by omega, hOa2, ?_, hB.snoc hOx hd12, hb0, hb1⟩ Qs
      rw [List.map_append, hAc, Pl.core, ← List.map_take, ← List.map_take, List.take_range, List.take_range, show min (k + 1) (x.dims.length - 1) = min k (x.dims.length - 1) + 1 by omega, List.range_succ, List.map_append, show min k (x.dims.length - 1) = k by omega]
      rfl
   ·have hke : k = x.core.length := by rw [x.core_len]; omega
    rw [hke, List.take_length] at hAc
    have ovo : vo.oneCell' = true := (hO.rd (h := h) (ms := [md]) (List.Mem.head _)).rd.one
    have ova : va.oneCell' = true := (hOa.rd (h := h) (ms := [ma]) (List.Mem.head _)).rd.one
    refine ws_exit (nx_then_exit (nx_then_exit (nx_block_exit (nx_then (RsQ (Qx (ox_loadG rfl underlying30 rfl el30 rfl rfl (Seg.blk 2 rfl)) rfl ?_))))))
    refine wl_storeAll 4 [_, _, _] rfl el30 rfl rfl rfl (by (simp [ovo, ova]; done)) rfl rfl rfl rfl rfl ?_
    refine RnQ (ws_ret (nx_dropAt 2 rfl (nx_perm (ms' := [ma, md, mB, Blk g2 30 [.int .i64 x.P, vo, va]]) (List.Perm.cons _ (List.Perm.swap _ _ _)) ?_)))
    exact nx_retD (vs := [_, _, _]) 3 rfl rfl underlying30 rfl el30 rfl rfl (⟨Hp.le_trans l1 (Hp.le_trans l2 lh), vo, va, md, ma, mB, A, rfl, rfl, hO, hOa, hAc, hB⟩)
end Go.Proofs.YtdnelknieikbaaaGreat
set_option maxHeartbeats 2000000
namespace Go.Proofs.YtdnelknieikbaaaGreat
open Go.Eng Go.RowKit Go.Lin Go.Sort Go.Srt
theorem zig_rdz {x : Pl} {A : List Ar} {vdo vao : Value} {md ma mB h : Hp} (hOd : OwnL cI 1 3 md vdo x.dims) (kd : md.le h) (hOa : OwnL cA 5 45 ma vao A) (ka : ma.le h) (B : BagE A mB) (kB : mB.le h) : RdZ h vdo vao ⟨x.P, x.dims, A⟩ := by
 refine ⟨hOd.rdh kd, hOa.rdh ka, fun a ha => ?_⟩
 obtain ⟨k, hk, rfl⟩ := List.mem_iff_getElem.1 ha
 obtain ⟨y, hy, O⟩ := B.all k hk
 have e : A.getD k default = A[k] := by simp [List.getD, hk]
 rw [e] at O
 exact O.rdh (Hp.le_trans hy kB)
end Go.Proofs.YtdnelknieikbaaaGreat
namespace Go.Lin
theorem valid_zg {Z Z' : Zg} {D : Dc} (V : Valid Z D) (hp : Z'.p = Z.p) (hn : Z'.n = Z.n) (hd : ∀ k, k < Z.n → Z'.d k = Z.d k) (hb : ∀ k, k + 1 < Z.n → Z'.back k = Z.back k) (hm : ∀ k, k + 1 < Z.n → ∀ i, i < Z.d (Z.tgt k) → ∀ j, j < Z.d (Z.src k) → Z'.mat k i j = Z.mat k i j) : Valid Z' D := by
  refine ⟨fun l hl => ?_, fun k hk => ?_, fun k hk => ?_, fun k hk l hl ho i hi => ?_⟩
  · rw [hn]; exact V.ends l hl
  · rw [hn] at hk; rw [hp, hd k hk]; exact V.ind k hk
  · rw [hn] at hk; rw [hd k hk]; exact V.cnt k hk
  · rw [hn] at hk
    have e : Z'.src k = Z.src k ∧ Z'.tgt k = Z.tgt k := by unfold Zg.src Zg.tgt; rw [hb k hk]; exact ⟨rfl, rfl⟩
    have hs : Z.src k < Z.n ∧ Z.tgt k < Z.n := by rcases Z.src_tgt k with ⟨e1, e2, _⟩ | ⟨e1, e2, _⟩ <;> omega
    rw [e.1] at ho
    rw [e.2, hd _ hs.2] at hi
    rw [e.1, e.2, hd _ hs.1, hp]
    refine Cg.trans (Cg.of_eq (sm_congr fun j hj => ?_)) (V.arr k hk l hl ho i hi)
    rw [hm k hk i hi j hj]
def ksum (ks : List (Int × Int)) (p : Int × Int → Bool) (c : Int × Int → Nat) : Nat := (ks.map fun a => if p a then c a else 0).sum
theorem ksum_add (p : Int × Int → Bool) (c c' : Int × Int → Nat) : ∀ ks, ksum ks p (fun a => c a + c' a) = ksum ks p c + ksum ks p c'
  | [] => rfl
  | a :: ks => by
    have ih := ksum_add p c c' ks
    unfold ksum at ih ⊢
    rw [List.map_cons, List.map_cons, List.map_cons, List.sum_cons, List.sum_cons, List.sum_cons, ih]
    split
    · show (c a + c' a) + _ = _
      omega
    · omega
theorem ksum_none (p : Int × Int → Bool) (b : Int × Int) : ∀ ks, b ∉ ks → ksum ks p (fun a => if b = a then 1 else 0) = 0
  | [], _ => rfl
  | a :: ks, h => by
    have ih := ksum_none p b ks fun hm => h (by simp [hm])
    unfold ksum at ih ⊢
    have hne : b ≠ a := fun e => h (by simp [e])
    rw [List.map_cons, List.sum_cons, ih]
    simp [hne]
theorem ksum_one (p : Int × Int → Bool) (b : Int × Int) : ∀ ks : List (Int × Int), ks.Nodup → b ∈ ks → ksum ks p (fun a => if b = a then 1 else 0) = if p b then 1 else 0
  | [], _, h => by simp at h
  | a :: ks, hn, h => by
    obtain ⟨h1, h2⟩ := List.nodup_cons.1 hn
    by_cases e : b = a
    · subst e
      have := ksum_none p b ks h1
      unfold ksum at this ⊢
      rw [List.map_cons, List.sum_cons, this]
      simp
    · have ih := ksum_one p b ks h2 ((List.mem_cons.1 h).resolve_left e)
      unfold ksum at ih ⊢
      rw [List.map_cons, List.sum_cons, ih]
      simp [e]
theorem zsum : ∀ ks : List (Int × Int), (ks.map fun _ => 0).sum = 0
  | [] => rfl
  | _ :: ks => by rw [List.map_cons, List.sum_cons, zsum ks]
theorem ksum_cnt {D : Dc} {ks : List (Int × Int)} (p : Int × Int → Bool) (hn : ks.Nodup) (hk : ∀ l, l < D.N → ((D.fr l : Int), (D.to l : Int)) ∈ ks) : ksum ks p D.ct = cnt D.N fun l => p ((D.fr l : Int), (D.to l : Int)) := by
  have key : ∀ n, n ≤ D.N → ksum ks p (fun a => cnt n fun l => decide (((D.fr l : Int), (D.to l : Int)) = a)) = cnt n fun l => p ((D.fr l : Int), (D.to l : Int)) := fun n => by
    induction n with
    | zero =>
      intro _
      unfold ksum
      show (ks.map fun a => if p a then 0 else 0).sum = 0
      simp only [ite_self]
      exact zsum ks
    | succ n ih =>
      intro h
      have e : (fun a => cnt (n + 1) fun l => decide (((D.fr l : Int), (D.to l : Int)) = a)) = fun a => (cnt n fun l => decide (((D.fr l : Int), (D.to l : Int)) = a)) + if ((D.fr n : Int), (D.to n : Int)) = a then 1 else 0 := funext fun a => by
        rw [cnt_succ]
        simp only [decide_eq_true_eq]
      rw [e, ksum_add, ih (by omega), ksum_one p _ ks hn (hk n (by omega)), cnt_succ]
  exact key D.N (Nat.le_refl _)
end Go.Lin
namespace Go.Proofs.YtdnelknieikbaaaGreat
open Go.Proofs.Tryz
open Go.Eng Go.RowKit Go.Lin Go.Sort Go.Srt
variable {a b : Nat}
theorem own_none {α : Type} {F : α → List Value} {sz : Nat} {el : TypeId} (g : Nat) (hF : ∀ x, (F x).length = sz) : OwnL F sz el (Blk g el []) (.slice (some ⟨g, 0, none⟩) 0 0) ([] : List α) := OwnL.blk (l := []) 0 hF rfl (by omega)
def Zz.cut (Z : Zz) (a b : Nat) : Zz := ⟨Z.p, (Z.dims.drop a).take (b + 1 - a), (Z.ars.drop a).take (b - a)⟩
theorem Zz.cut_dim {Z : Zz} {k : Nat} (hk : k < b + 1 - a) : (Z.cut a b).dim k = Z.dim (a + k) := by
 unfold Zz.dim Zz.cut
 simp only [List.getD_eq_getElem?_getD, List.getElem?_take_of_lt hk, List.getElem?_drop]
theorem Zz.cut_ar {Z : Zz} {k : Nat} (hk : k < b - a) : (Z.cut a b).ars[k]? = Z.ars[a + k]? := by
 unfold Zz.cut
 simp only [List.getElem?_take_of_lt hk, List.getElem?_drop]
theorem Zz.cut_len {Z : Zz} (hb : b < Z.dims.length) : (Z.cut a b).dims.length = b + 1 - a := by
 unfold Zz.cut
 simp only [List.length_take, List.length_drop]; omega
theorem Zz.cut_nar {Z : Zz} (hR : Z.Rt) (hab : a ≤ b) (hb : b < Z.dims.length) : (Z.cut a b).ars.length = b - a := by
 have := Z.nars hR
 unfold Zz.cut
 simp only [List.length_take, List.length_drop]; omega
theorem Zz.cut_rt {Z : Zz} (hR : Z.Rt) (hab : a ≤ b) (hb : b < Z.dims.length) : (Z.cut a b).Rt := by
 have h1 := Z.cut_len (a := a) hb
 have h2 := Z.cut_nar hR hab hb
 have h3 := Z.nars hR
 have h4 := hR.2.1
 refine ⟨by omega, by omega, by omega, hR.2.2.2.1, fun x hx => hR.2.2.2.2.1 x (List.mem_of_mem_drop (List.mem_of_mem_take hx)), fun k hk => ?_⟩
 have hk' : k < b - a := by omega
 have e := Z.cut_ar (a := a) hk'
 rw [List.getElem?_eq_getElem hk, List.getElem?_eq_getElem (show a + k < Z.ars.length by omega)] at e
 have e := Option.some.inj e
 rw [e]
 obtain ⟨q1, q2, q3, q4⟩ := hR.2.2.2.2.2 (a + k) (by omega)
 refine ⟨q1, q2, q3.trans ?_, q4.trans ?_⟩
 ·unfold Ar.src
  split
  ·rw [Z.cut_dim (by omega)]; rfl
  ·rw [Z.cut_dim (by omega)]
 ·unfold Ar.tgt
  split
  ·rw [Z.cut_dim (by omega)]
  ·rw [Z.cut_dim (by omega)]; rfl
theorem Zz.cut_valid {Z : Zz} (hR : Z.Rt) (hab : a ≤ b) (hb : b < Z.dims.length) {D : Dc} (V : Valid Z.zg D) : Valid (Z.cut a b).zg (D.part a b) := by
 have hn := Z.nars hR
 have har : ∀ k, k < b - a → (Z.cut a b).zg.back k = Z.zg.back (a + k) ∧ (Z.cut a b).zg.mat k = Z.zg.mat (a + k) := fun k hk => by
  have e := Z.cut_ar (a := a) hk
  unfold Zz.zg
  simp only [e]
  refine ⟨?_, ?_⟩ <;> trivial
 refine valid_zg (part_ok V hab hb) rfl ?_ (fun k hk => ?_) (fun k hk => ?_) (fun k hk i _ j _ => ?_)
 ·show (Z.cut a b).dims.length = b - a + 1
  rw [Z.cut_len hb]; omega
 ·have hk' : k < b - a + 1 := hk
  show ((Z.cut a b).dim k).toNat = (Z.dim (a + k)).toNat
  rw [Z.cut_dim (by omega)]
 ·have hk' : k + 1 < b - a + 1 := hk
  exact (har k (by omega)).1
 ·have hk' : k + 1 < b - a + 1 := hk
  rw [(har k (by omega)).2]; rfl
theorem part_ok' (Z : Zz) (vd va : Value) (a b : Nat) (h : Hp) (hRt : Z.Rt) (hR : RdZ h vd va Z) (hab : a ≤ b) (hb : b < Z.dims.length) : FnT Tryz.prog 19 #[.agg #[.int .i64 Z.p, vd, va], .int .i64 a, .int .i64 b] h [] (fun r h' ms' => h.le h' ∧ ms' = [] ∧ ∃ vd' va', r = .agg #[.int .i64 (Z.cut a b).p, vd', va'] ∧ RdZ h' vd' va' (Z.cut a b)) := by
 have o1 := hR.d.rd.one
 have o2 := hR.a.rd.one
 have hn := Z.nars hRt
 have n2 := hRt.2.1
 refine fn_enter func19 ntmps19 rfl rfl (fun w0 hw0 => ?_)
 simp only [argS]
 refine RsQ ?_
 refine wl_box [_, _, _] rfl rfl (by rfl) rfl rfl rfl (fun g3 => ?_)
 refine AlQ [.int .i64 0, .slice none 0 0, .slice none 0 0] rfl el30 rfl rfl (fun g6 => RnQ (ws_freezeBi 1 rfl fun h1 l1 hS => ?_))
 have hR := hR.up l1
 have hA := Seg.all hS
 have hA0 := hA 0 _ rfl
 have hsd := hR.d.sub_ (i := a) (j := b + 1) (by omega) (by omega)
 have hsa := hR.a.sub_ (i := a) (j := b) (by omega) (by omega)
 have hone : ∀ x ∈ (Z.ars.drop a).take (b - a), ∀ c ∈ cA x, c.oneCell' = true := cA_one fun x hx => hR.e x (List.mem_of_mem_drop (List.mem_of_mem_take hx))
 have hld : ((Z.dims.drop a).take (b + 1 - a)).length ≤ 100 := by rw [List.length_take]; omega
 have hla : ((Z.ars.drop a).take (b - a)).length ≤ 100 := by rw [List.length_take]; omega
 refine ws_seq (ws_stab (n := 19) (bs := [true, true, false, true, true, true, true, true, true, false, false, true, true, true, true, true, false, false, false]) [true, true, false, true, true, true, true, true, true, false, false, true, true, true, true, true] fol (by kernel_rfl) (by kernel_rfl) rfl rfl (Qp rfl (ox_fieldF fd30_0 rfl rfl) (Qp rfl (ox_load rfl underlying3 rfl rfl (hA0 _)) (Qp rfl (ox_fieldF fd30_1 rfl rfl) (Qp rfl (ox_load rfl underlying24 rfl rfl (hA _ _ rfl _)) (Qp rfl (ox_move rfl rfl) (Qp rfl (ox_move rfl rfl) (Qp rfl (ox_add rfl rfl rfl (by omega)) (Qp rfl (ox_sliceR_lh (a) (b + 1) hR.d.rd.any rfl underlying24 el3 rfl rfl rfl (by omega) (by omega) (by omega) (by omega)) (Qp rfl (ox_fieldF fd30_2 rfl rfl) (Qp rfl (ox_load rfl underlying28 rfl rfl (hA _ _ rfl _)) (Qp rfl (ox_move rfl rfl) (Qp rfl (ox_move rfl rfl) (Qp rfl (ox_sliceR_lh (a) (b) hR.a.rd.any rfl underlying28 el45 rfl rfl rfl (by omega) (by omega) (by omega) (by omega)) ?_))))))))))))))
 unfold PZs
 simp only [List.cons_append, List.nil_append]
 refine wb_step [2, 10] (by kernel_rfl) rfl ?_
 refine wbl_cons rfl ?_ ?_
 ·refine wl_buildSlice [] [] [] rfl underlying24 el3 rfl (by omega) (by kernel_rfl) (by repeat (first | exact trivial | refine ⟨⟨by first | rfl | exact (hR.d.rd.any).cells | exact (hR.a.rd.any).cells | exact ((hO1.rd (h := h) (ms := [m1]) (List.Mem.head _)).rd).cells | exact ((hO2.rd (h := h) (ms := [m2]) (List.Mem.head _)).rd).cells | exact Rd.cells ‹_› | exact (RdL.rd ‹_›).cells, rfl, rfl⟩, ?_⟩)) rfl rfl rfl rfl (fun g9 => ?_)
  refine Qw (wb_step [9, 10] (by kernel_rfl) rfl ?_)
  refine wbl_cons rfl ?_ ?_
  ·refine wl_appendL 0 (own_none g9 cI_len) hsd.any rfl underlying24 el3 rfl (by omega) rfl rfl rfl cI_one (by simp only [List.length_nil]; omega) (by simp only [List.length_nil]; omega) rfl rfl rfl (fun v1 m1 hO1 => ?_)
   refine Qw (Qo 10 rfl ?_)
   refine wl_buildSlice [] [] [] rfl underlying28 el45 rfl (by omega) (by kernel_rfl) (by repeat (first | exact trivial | refine ⟨⟨by first | rfl | exact (hR.d.rd.any).cells | exact (hR.a.rd.any).cells | exact ((hO1.rd (h := h) (ms := [m1]) (List.Mem.head _)).rd).cells | exact ((hO2.rd (h := h) (ms := [m2]) (List.Mem.head _)).rd).cells | exact Rd.cells ‹_› | exact (RdL.rd ‹_›).cells, rfl, rfl⟩, ?_⟩)) rfl rfl rfl rfl (fun g17 => ?_)
   refine Qw (Qo 16 rfl ?_)
   refine wl_appendV 0 (own_none g17 cA_len) hsa.any rfl underlying28 el45 rfl (by omega) rfl rfl rfl hone (by simp only [List.length_nil]; omega) (by simp only [List.length_nil]; omega) rfl rfl rfl (fun v2 m2 hO2 => ?_)
   have p1 : v1.oneCell' = true := (hO1.rd (h := h) (ms := [m1]) (List.Mem.head _)).rd.one
   have p2 : v2.oneCell' = true := (hO2.rd (h := h) (ms := [m2]) (List.Mem.head _)).rd.one
   refine Qw ?_
   refine wb_float 17 24 (by kernel_rfl) rfl (Hp.le_refl _) rfl (ox_buildS st30 [.int .i64 0, .slice none 0 0, .slice none 0 0] [(0, _), (1, _), (2, _)] [_, _, _] rfl el30 rfl rfl (by repeat (first | exact trivial | refine ⟨⟨rfl, rfl, rfl⟩, ?_⟩ | refine ⟨⟨((hO1.rd (h := h) (ms := [m1]) (List.Mem.head _)).rd).cells, rfl, rfl⟩, ?_⟩ | refine ⟨⟨((hO2.rd (h := h) (ms := [m2]) (List.Mem.head _)).rd).cells, rfl, rfl⟩, ?_⟩)) rfl) ?_
   refine Qo 18 rfl ?_
   refine wl_storeAll 2 [_, _, _] rfl el30 rfl rfl rfl (by (simp [p1, p2]; done)) rfl rfl rfl rfl rfl ?_
   refine Qw (Qe (nx_then (ws_ret (nx_freezeL hO2 fun h3 l3 hRa => (nx_freezeL hO1 fun h4 l4 hRd => ?_)))))
   exact nx_retD (vs := [_, _, _]) 0 rfl rfl underlying30 rfl el30 rfl rfl ⟨Hp.le_trans l1 (Hp.le_trans l3 l4), rfl, v1, v2, rfl, hRd, hRa.up l4, fun x hx => (hR.e x (List.mem_of_mem_drop (List.mem_of_mem_take hx))).up (Hp.le_trans l3 l4)⟩
  refine wbl_cons rfl ?_ ?_
  ·refine wl_buildSlice [] [] [] rfl underlying28 el45 rfl (by omega) (by kernel_rfl) (by repeat (first | exact trivial | refine ⟨⟨by first | rfl | exact (hR.d.rd.any).cells | exact (hR.a.rd.any).cells | exact ((hO1.rd (h := h) (ms := [m1]) (List.Mem.head _)).rd).cells | exact ((hO2.rd (h := h) (ms := [m2]) (List.Mem.head _)).rd).cells | exact Rd.cells ‹_› | exact (RdL.rd ‹_›).cells, rfl, rfl⟩, ?_⟩)) rfl rfl rfl rfl (fun g17 => ?_)
   refine Qw (Qo 9 rfl ?_)
   refine wl_appendL 1 (own_none g9 cI_len) hsd.any rfl underlying24 el3 rfl (by omega) rfl rfl rfl cI_one (by simp only [List.length_nil]; omega) (by simp only [List.length_nil]; omega) rfl rfl rfl (fun v1 m1 hO1 => ?_)
   refine Qw (Qo 16 rfl ?_)
   refine wl_appendV 0 (own_none g17 cA_len) hsa.any rfl underlying28 el45 rfl (by omega) rfl rfl rfl hone (by simp only [List.length_nil]; omega) (by simp only [List.length_nil]; omega) rfl rfl rfl (fun v2 m2 hO2 => ?_)
   have p1 : v1.oneCell' = true := (hO1.rd (h := h) (ms := [m1]) (List.Mem.head _)).rd.one
   have p2 : v2.oneCell' = true := (hO2.rd (h := h) (ms := [m2]) (List.Mem.head _)).rd.one
   refine Qw ?_
   refine wb_float 17 24 (by kernel_rfl) rfl (Hp.le_refl _) rfl (ox_buildS st30 [.int .i64 0, .slice none 0 0, .slice none 0 0] [(0, _), (1, _), (2, _)] [_, _, _] rfl el30 rfl rfl (by repeat (first | exact trivial | refine ⟨⟨rfl, rfl, rfl⟩, ?_⟩ | refine ⟨⟨((hO1.rd (h := h) (ms := [m1]) (List.Mem.head _)).rd).cells, rfl, rfl⟩, ?_⟩ | refine ⟨⟨((hO2.rd (h := h) (ms := [m2]) (List.Mem.head _)).rd).cells, rfl, rfl⟩, ?_⟩)) rfl) ?_
   refine Qo 18 rfl ?_
   refine wl_storeAll 2 [_, _, _] rfl el30 rfl rfl rfl (by (simp [p1, p2]; done)) rfl rfl rfl rfl rfl ?_
   refine Qw (Qe (nx_then (ws_ret (nx_freezeL hO2 fun h3 l3 hRa => (nx_freezeL hO1 fun h4 l4 hRd => ?_)))))
   exact nx_retD (vs := [_, _, _]) 0 rfl rfl underlying30 rfl el30 rfl rfl ⟨Hp.le_trans l1 (Hp.le_trans l3 l4), rfl, v1, v2, rfl, hRd, hRa.up l4, fun x hx => (hR.e x (List.mem_of_mem_drop (List.mem_of_mem_take hx))).up (Hp.le_trans l3 l4)⟩
  exact wbl_nil
 refine wbl_cons rfl ?_ ?_
 ·refine wl_buildSlice [] [] [] rfl underlying28 el45 rfl (by omega) (by kernel_rfl) (by repeat (first | exact trivial | refine ⟨⟨by first | rfl | exact (hR.d.rd.any).cells | exact (hR.a.rd.any).cells | exact ((hO1.rd (h := h) (ms := [m1]) (List.Mem.head _)).rd).cells | exact ((hO2.rd (h := h) (ms := [m2]) (List.Mem.head _)).rd).cells | exact Rd.cells ‹_› | exact (RdL.rd ‹_›).cells, rfl, rfl⟩, ?_⟩)) rfl rfl rfl rfl (fun g17 => ?_)
  refine Qw (Qo 2 rfl ?_)
  refine wl_buildSlice [] [] [] rfl underlying24 el3 rfl (by omega) (by kernel_rfl) (by repeat (first | exact trivial | refine ⟨⟨by first | rfl | exact (hR.d.rd.any).cells | exact (hR.a.rd.any).cells | exact ((hO1.rd (h := h) (ms := [m1]) (List.Mem.head _)).rd).cells | exact ((hO2.rd (h := h) (ms := [m2]) (List.Mem.head _)).rd).cells | exact Rd.cells ‹_› | exact (RdL.rd ‹_›).cells, rfl, rfl⟩, ?_⟩)) rfl rfl rfl rfl (fun g9 => ?_)
  refine wl_swap (Qw (Qo 9 rfl ?_))
  refine wl_appendL 1 (own_none g9 cI_len) hsd.any rfl underlying24 el3 rfl (by omega) rfl rfl rfl cI_one (by simp only [List.length_nil]; omega) (by simp only [List.length_nil]; omega) rfl rfl rfl (fun v1 m1 hO1 => ?_)
  refine Qw (Qo 16 rfl ?_)
  refine wl_appendV 0 (own_none g17 cA_len) hsa.any rfl underlying28 el45 rfl (by omega) rfl rfl rfl hone (by simp only [List.length_nil]; omega) (by simp only [List.length_nil]; omega) rfl rfl rfl (fun v2 m2 hO2 => ?_)
  have p1 : v1.oneCell' = true := (hO1.rd (h := h) (ms := [m1]) (List.Mem.head _)).rd.one
  have p2 : v2.oneCell' = true := (hO2.rd (h := h) (ms := [m2]) (List.Mem.head _)).rd.one
  refine Qw ?_
  refine wb_float 17 24 (by kernel_rfl) rfl (Hp.le_refl _) rfl (ox_buildS st30 [.int .i64 0, .slice none 0 0, .slice none 0 0] [(0, _), (1, _), (2, _)] [_, _, _] rfl el30 rfl rfl (by repeat (first | exact trivial | refine ⟨⟨rfl, rfl, rfl⟩, ?_⟩ | refine ⟨⟨((hO1.rd (h := h) (ms := [m1]) (List.Mem.head _)).rd).cells, rfl, rfl⟩, ?_⟩ | refine ⟨⟨((hO2.rd (h := h) (ms := [m2]) (List.Mem.head _)).rd).cells, rfl, rfl⟩, ?_⟩)) rfl) ?_
  refine Qo 18 rfl ?_
  refine wl_storeAll 2 [_, _, _] rfl el30 rfl rfl rfl (by (simp [p1, p2]; done)) rfl rfl rfl rfl rfl ?_
  refine Qw (Qe (nx_then (ws_ret (nx_freezeL hO2 fun h3 l3 hRa => (nx_freezeL hO1 fun h4 l4 hRd => ?_)))))
  exact nx_retD (vs := [_, _, _]) 0 rfl rfl underlying30 rfl el30 rfl rfl ⟨Hp.le_trans l1 (Hp.le_trans l3 l4), rfl, v1, v2, rfl, hRd, hRa.up l4, fun x hx => (hR.e x (List.mem_of_mem_drop (List.mem_of_mem_take hx))).up (Hp.le_trans l3 l4)⟩
 exact wbl_nil
end Go.Proofs.YtdnelknieikbaaaGreat
