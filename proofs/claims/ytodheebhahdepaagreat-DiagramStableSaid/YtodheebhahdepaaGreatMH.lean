/- A part of the proof. -/
import Derived.Test.YtodheebhahdepaaGreatMG
import Derived.Test.YtodheebhahdepaaGreatRows
import Derived.Test.YtodheebhahdepaaGreatChecked
import Derived.WalkKit
import Derived.ProofKit
import Derived.ChangeOld
set_option linter.unusedSimpArgs false
set_option linter.unusedVariables false
set_option linter.unusedSectionVars false
set_option maxRecDepth 100000
set_option maxHeartbeats 4000000

namespace Go.Proofs.YtodheebhahdepaaGreat
open Go.Proofs.Tryz
open Go.Eng Go.RowKit Go.Lin Go.Sort Go.Srt
def Er (T : List (Int × Bool)) (j : Nat) : Int := (T.getD j (0, false)).1
theorem Od {T : List (Int × Bool)} {j : Nat} (hj : j < T.length) : T[j].1 = Er T j := by unfold Er; simp [List.getD, hj]
theorem RT (T : List (Int × Bool)) : (List.range T.length).map (Er T) = T.map Prod.fst := by
 refine List.ext_getElem (by simp) fun i h1 h2 => ?_
 have hi : i < T.length := by simpa using h1
 simp [← Od hi]
def X8 (T : List (Int × Bool)) (vis : List Nat) (vs : List Value) (vis' : List Nat) : Prop := ∃ (j : Nat) (hj : j < T.length), j ∉ vis ∧ vs = [kN (Er T j)] ∧ vis' = vis ++ [j]
theorem SZ (g1 gT : Nat) (m : Hp) (T : List (Int × Bool)) (bs : List Nat) (h : Hp) (hG : Seg h [] ⟨g1, 0, none⟩ [.map (some gT)]) (O : BK kN vB gT Bq m T bs) (hm : m.le h) :
  Xw Tryz.prog 65 [.pointer (some ⟨g1, 0, none⟩)] h (X8 T) [] (fun vis => vis.Perm (List.range T.length)) := by
 intro lp X h1 ms hl hY h0
 show FnT _ _ #[.func (.yield lp) #[] #[], .pointer (some ⟨g1, 0, none⟩)] _ _ _
 have hG := hG.le hl
 have hm := Hp.le_trans hm hl
 refine Av func65 ntmps65 rfl rfl (fun w0 hw0 => ?_)
 simp only [A5]
 refine Az (Ql rfl underlying92 ((hG.at0 rfl).any) (Ir O hm rfl underlying92 rfl rfl rfl rfl (fun gi mi I0 => An (Ah ?_))))
 refine AD (fun q s hh ms' => ∃ (vis : List Nat) (mi : Hp) (ms0 : List Hp), q = T.length - vis.length ∧ s = [(0, .func (.yield lp) #[] #[]), (5, .pointer (some ⟨gi, 0, none⟩))] ∧ h1.le hh ∧ ms' = mi :: ms0 ∧ GQ gi gT m mi bs vis ∧ X vis hh ms0)
  (T.length - 0) _ ⟨[], mi, ms, rfl, rfl, Hp.le_refl _, rfl, I0, h0⟩ Qs ?_
 rintro q s hh ms' ⟨vis, mi, ms0, rfl, rfl, lh, rfl, I, hX⟩
 have hm := Hp.le_trans hm lh
 refine Az ?_
 refine JT 0 O I hm rfl rfl rfl rfl rfl rfl (fun BQ => ?_) (fun j hj mi' hjv I' => ?_)
 ·refine Qm rfl (An (Ac (AO rfl (Aw (Aa (Aa (Ag (AS ?_))))))))
  exact BL rfl (⟨vis, (List.perm_ext_iff_of_nodup I.nodup List.nodup_range).2 fun j => ⟨fun hj => List.mem_range.2 (by have := I.lt j hj; rw [O.len] at this; exact this), fun hj => BQ j (List.mem_range.1 hj)⟩, hX⟩)
 ·refine Qm rfl (An (Ac ?_))
  have hlen : (vis ++ [j]).length ≤ T.length := by
   have := I'.nodup.length_le_of_subset (l₂ := List.range T.length) fun x hx => List.mem_range.2 (by have := I'.lt x hx; rw [O.len] at this; exact this)
   simpa using this
  rw [List.length_append, List.length_singleton] at hlen
  refine Bk rfl (Ai (Ad (Ah (Az (Qx (Ix O I' hm (List.Mem.head _) hj rfl rfl) rfl (Qm rfl (Qm rfl (An ?_))))))))
  rw [Od hj]
  refine Ac (ED (Fg (Au rfl rfl) rfl rfl rfl (Fg (Au rfl rfl) rfl rfl rfl (Sg (pre := ms0) (fr := [mi']) (List.perm_append_comm (l₁ := [mi'])) rfl rfl rfl (hY vis [kN (Er T j)] (vis ++ [j]) hh ms0 ⟨j, hj, hjv, rfl, rfl⟩ lh hX) rfl rfl rfl (fun r h2 ms2 l2 hr => ?_)))))
  obtain ⟨rfl, hX2⟩ := hr
  refine Fg (Ft rfl rfl) rfl rfl rfl (Iu (Ad (AO rfl (Ai (Aj (Gx (List.perm_append_comm (l₂ := [mi'])) ?_))))))
  exact Am (T.length - (vis ++ [j]).length) _ (by rw [List.length_append, List.length_singleton]; omega) ⟨vis ++ [j], mi', ms2, rfl, rfl, Hp.le_trans lh l2, rfl, I', hX2⟩ Qs
theorem WX (v : Option Nat) (h : Hp) : FnT Tryz.prog 49 #[.map v] h [] (fun r h' ms' => h = h' ∧ ∃ g, r = .func (.func 65) #[] #[.pointer (some ⟨g, 0, none⟩)] ∧ ms' = [Bf g 92 [.map v]]) := by
 refine Av func49 ntmps49 rfl rfl (fun w0 hw0 => ?_)
 simp only [A5]
 refine Az ?_
 refine A8 [_] rfl rfl (by rfl) rfl rfl rfl (fun g1 => ?_)
 refine Qm rfl (BG (Qx (Bv rfl rfl rfl) rfl (Qm rfl (An (Aq ?_)))))
 exact As rfl rfl (⟨rfl, _, rfl, rfl⟩)
theorem L8 (g1 gT : Nat) (m : Hp) (T : List (Int × Bool)) (bs : List Nat) (h : Hp) (hG : Seg h [] ⟨g1, 0, none⟩ [.map (some gT)]) (O : BK kN vB gT Bq m T bs) (hm : m.le h) (hT : T.length ≤ 1000000) :
  FnT Tryz.prog 92 #[.slice none 0 0, .func (.func 65) #[] #[.pointer (some ⟨g1, 0, none⟩)]] h [] (fun r h' ms' => h.le h' ∧ ∃ (vis : List Nat) (mo : Hp), ms' = [mo] ∧ vis.Perm (List.range T.length) ∧ OwnL cI 1 3 mo r (vis.map (Er T))) := by
 have hI := SZ g1 gT m T bs h hG O hm
 refine KX func92 ntmps92 rfl rfl (fun w0 hw0 => ?_)
 simp only [A5]
 refine Az ?_
 refine A8 [_] rfl rfl (by rfl) rfl rfl rfl (fun g2 => ?_)
 refine Qm rfl (An (Ac (Az (Qm rfl (An (Ah (Bz (UL ?_))))))))
 refine KH (R := X8 T) (fun (vis : List Nat) hh ms => vis.Nodup ∧ (∀ x ∈ vis, x < T.length) ∧ ∃ v mo, ms = [Bf g2 25 [v], mo] ∧ OwnL cI 1 3 mo v (vis.map (Er T))) (fun (vis : List Nat) vs vis' s1 hh ms => vis.Nodup ∧ (∀ x ∈ vis, x < T.length) ∧ ∃ v mo j, j < T.length ∧ j ∉ vis ∧ vis' = vis ++ [j] ∧ s1 = [(2, .pointer (some ⟨g2, 0, none⟩)), (5, .int .i64 (Er T j))] ∧ ms = [Bf g2 25 [v], mo] ∧ OwnL cI 1 3 mo v (vis.map (Er T))) rfl call65 hI ?_ rfl ?_ ?_ ?_ ?_
 ·rintro k vs k' ⟨j, hj, _, rfl, _⟩; rfl
 ·exact ⟨List.Pairwise.nil, by simp, _, _, rfl, OwnL.nil AT⟩
 ·rintro w1 vis vs vis' hh ms1 ⟨j, hj, hjv, rfl, rfl⟩ lh ⟨hn, hlt, v, mo, rfl, hO⟩
  rw [show kN (Er T j) = .int .i64 (Er T j) from rfl]
  refine DL (by kernel_rfl) (Qm rfl (Ak ?_))
  exact Ay _ ⟨hn, hlt, v, mo, j, hj, hjv, rfl, rfl, rfl, hO⟩ Qs
 ·rintro w1 vis vs vis' s1 hh ms1 hR lh ⟨hn, hlt, v, mo, j, hj, hjv, rfl, rfl, rfl, hO⟩
  have hn' : (vis ++ [j]).Nodup := List.nodup_append.2 ⟨hn, by simp, fun a ha b hb e => by simp at hb; subst hb; subst e; exact hjv ha⟩
  have hlt' : ∀ x ∈ vis ++ [j], x < T.length := fun x hx => by
   rcases List.mem_append.1 hx with h1 | h1
   ·exact hlt x h1
   ·simp at h1; omega
  have hlen : (vis.map (Er T)).length ≤ 1000000 := by
   have := hn.length_le_of_subset (l₂ := List.range T.length) fun x hx => List.mem_range.2 (hlt x hx)
   simp at this ⊢; omega
  have ov : v.oneCell' = true := (hO.rd (h := h) (ms := [mo]) (List.Mem.head _)).rd.one
  refine MU (DL (by kernel_rfl) (Ql rfl underlying25 (Cell.blk0 0 rfl rfl) (Qm rfl ?_)))
  refine Ao [_] rfl underlying25 Bm rfl (by rfl) rfl rfl (by omega) rfl rfl rfl (fun g10 => ?_)
  refine AJ 2 hO (RdL.one AT (x := Er T j) (List.Mem.head _) rfl) rfl underlying25 Bm rfl (by omega) rfl rfl rfl BW (by simp only [List.length_singleton]; omega) (by simp only [List.length_singleton]; omega) rfl rfl rfl (fun v2 mo2 hO2 => ?_)
  have ov2 : v2.oneCell' = true := (hO2.rd (h := h) (ms := [mo2]) (List.Mem.head _)).rd.one
  refine AK 1 0 rfl Cn rfl rfl (by assumption) rfl rfl (by (simp; done)) rfl rfl ?_
  refine Ak (Aj (AS ?_))
  refine Ay [] ⟨hn', hlt', v2, mo2, rfl, ?_⟩ trivial
  rw [List.map_append]
  exact hO2
 ·intro D vis hh ms1 hfin lh ⟨hn, hlt, v, mo, e, hO⟩
  subst e
  have ov : v.oneCell' = true := (hO.rd (h := h) (ms := [mo]) (List.Mem.head _)).rd.one
  refine Aj (Ad (Az (Ql rfl underlying25 (Cell.blk0 0 rfl rfl) (Qm rfl (An (Aq (AS (LV 1 (.inr rfl) rfl ?_))))))))
  exact As rfl rfl (⟨lh, vis, mo, rfl, hfin, hO⟩)
theorem OH (g1 gT : Nat) (m : Hp) (T : List (Int × Bool)) (bs : List Nat) (h : Hp) (hG : Seg h [] ⟨g1, 0, none⟩ [.map (some gT)]) (O : BK kN vB gT Bq m T bs) (hm : m.le h) (hT : T.length ≤ 1000000) :
  FnT Tryz.prog 64 #[.func (.func 65) #[] #[.pointer (some ⟨g1, 0, none⟩)]] h [] (fun r h' ms' => h.le h' ∧ ∃ (vis : List Nat) (mo : Hp), ms' = [mo] ∧ vis.Perm (List.range T.length) ∧ OwnL cI 1 3 mo r (vis.map (Er T))) := by
 refine Av func64 ntmps64 rfl rfl (fun w0 hw0 => ?_)
 simp only [A5]
 refine Az (Qm rfl (BG (Qm rfl (Qc call92 rfl (L8 g1 gT m T bs h hG O hm hT) (fun x h2 ms2 l2 hF => ?_)))))
 obtain ⟨l2', vis, mo, rfl, hp, hO⟩ := hF
 have ov : x.oneCell' = true := (hO.rd (h := h) (ms := [mo]) (List.Mem.head _)).rd.one
 refine Qm rfl (An (Aq ?_))
 exact As rfl rfl (⟨l2, vis, mo, rfl, hp, hO⟩)
theorem Rp (g1 gT : Nat) (m : Hp) (T : List (Int × Bool)) (bs : List Nat) (h : Hp) (hG : Seg h [] ⟨g1, 0, none⟩ [.map (some gT)]) (O : BK kN vB gT Bq m T bs) (hm : m.le h) (hT : T.length ≤ 1000000) :
  FnT Tryz.prog 48 #[.func (.func 65) #[] #[.pointer (some ⟨g1, 0, none⟩)]] h [] (fun r h' ms' => h.le h' ∧ ∃ (ks : List Int) (mo : Hp), ms' = [mo] ∧ OwnL cI 1 3 mo r ks ∧ ks.Perm (C3 T) ∧ ks.Pairwise (· ≤ ·)) := by
 refine Av func48 ntmps48 rfl rfl (fun w0 hw0 => ?_)
 simp only [A5]
 refine Az (Qm rfl (BG (Qm rfl (Qc call64 rfl (OH g1 gT m T bs h hG O hm hT) (fun x h2 ms2 l2 hF => ?_)))))
 obtain ⟨l2', vis, mo, rfl, hp, hO⟩ := hF
 have hlen : (vis.map (Er T)).length ≤ 1000000 := by rw [List.length_map, hp.length_eq, List.length_range]; exact hT
 refine Qm rfl (BG (Qm rfl (Bg (pre := [mo]) rfl call29 rfl (LA _ x mo hO (by omega) h2) rfl rfl rfl rfl (fun y h3 ms3 l3 hF => ?_))))
 obtain ⟨rfl, mo2, rfl, hO2⟩ := hF
 have ov : x.oneCell' = true := (hO2.rd (h := h) (ms := [mo2]) (List.Mem.head _)).rd.one
 refine BG (Qm rfl (Qm rfl (An (Aq ?_))))
 exact As rfl rfl (⟨l2, _, mo2, rfl, hO2, (Cs _).trans (by show List.Perm _ (T.map Prod.fst); rw [← RT]; exact hp.map _), DF _⟩)
def WC (ids : List Int) (T : List (Int × Bool)) : Nat := (ids.filter fun c => decide (c ∉ C3 T)).length
theorem GA : ∀ (l l' : List Int), l.Nodup → (∀ x ∈ l, x ∈ l') → l.length ≤ l'.length := fun l l' h hs => h.length_le_of_subset hs
theorem Tw {ids : List Int} (hn : ids.Nodup) {T T' : List (Int × Bool)} (h : ∀ x ∈ C3 T, x ∈ C3 T') : WC ids T' ≤ WC ids T := by
 refine GA _ _ (List.Pairwise.filter _ hn) fun x hx => ?_
 obtain ⟨h1, h2⟩ := List.mem_filter.1 hx
 exact List.mem_filter.2 ⟨h1, decide_eq_true fun q => of_decide_eq_true h2 (h _ q)⟩
theorem WD {ids : List Int} (hnd : ids.Nodup) {T : List (Int × Bool)} {i : Int} (hi : i ∈ ids) (hn : i ∉ C3 T) (b : Bool) : WC ids (Cr T i b) + 1 ≤ WC ids T := by
 have h1 : (i :: ids.filter fun c => decide (c ∉ C3 (Cr T i b))).Nodup := by
  refine List.nodup_cons.2 ⟨fun q => ?_, List.Pairwise.filter _ hnd⟩
  have := of_decide_eq_true (List.mem_filter.1 q).2
  exact this ((Dg T _ _ _).2 (.inl rfl))
 have h2 := GA _ (ids.filter fun c => decide (c ∉ C3 T)) h1 fun x hx => by
  rcases List.mem_cons.1 hx with rfl | hx
  ·exact List.mem_filter.2 ⟨hi, decide_eq_true hn⟩
  ·obtain ⟨h3, h4⟩ := List.mem_filter.1 hx
   exact List.mem_filter.2 ⟨h3, decide_eq_true fun q => of_decide_eq_true h4 ((Dg T _ _ _).2 (.inr q))⟩
 unfold WC
 rw [List.length_cons] at h2
 exact h2
def PR (o : List Cl) (c : Int) : List Int := (Gu o c).sd.map Prod.fst
structure Wt (o : List Cl) (T T' : List (Int × Bool)) (i : Int) : Prop where
 sub : ∀ x ∈ C3 T, x ∈ C3 T'
 me : (Jg o i).isSome = true → i ∈ C3 T'
 new : ∀ x ∈ C3 T', x ∉ C3 T → Rch (PR o) i x ∧ (∀ k ∈ PR o x, (Jg o k).isSome = true → k ∈ C3 T') ∧ x ∈ o.map Cl.id
structure CloE (h : Hp) (gS g2 g5 g6 gt : Nat) (U : List Ce) : Prop where
 t : ∀ ms, Cell h ms (⟨g2, 0, none⟩ : Addr) (.pointer (some ⟨gt, 0, none⟩))
 s : ∀ ms, Cell h ms (⟨g5, 0, none⟩ : Addr) (.map (some gS))
 f : ∀ ms, Cell h ms (⟨g6, 0, none⟩ : Addr) (.func (.func 67) #[] #[.pointer (some ⟨g2, 0, none⟩), .pointer (some ⟨g5, 0, none⟩), .pointer (some ⟨g6, 0, none⟩)])
 m : RdT h gt U
 n : ∀ y ∈ U, y.c.sd.length ≤ 1000000
 i : ∀ y ∈ U, ∀ s ∈ y.c.sd, Bq s.1
theorem CloE.up {h h' : Hp} {gS g2 g5 g6 gt : Nat} {U : List Ce} (E : CloE h gS g2 g5 g6 gt U) (l : h.le h') : CloE h' gS g2 g5 g6 gt U :=
 ⟨fun ms => (E.t ms).le l, fun ms => (E.s ms).le l, fun ms => (E.f ms).le l, E.m.up l, E.n, E.i⟩
theorem TC {U : List Ce} {c : Int} {P : List (Int × Int) → Prop} (h0 : P []) (h : ∀ y ∈ U, P y.c.sd) : P (Gu (U.map Ce.c) c).sd := by
 unfold Gu Jg
 cases hc : (U.map Ce.c).find? fun y => decide (y.id = c) with
 | none => exact h0
 | some y =>
  obtain ⟨a, ha, rfl⟩ := List.mem_map.1 (List.mem_of_find?_eq_some hc)
  exact h a ha
theorem TG {o : List Cl} {c : Int} (h : (Jg o c).isSome = true) : c ∈ o.map Cl.id := by
 obtain ⟨y, hy⟩ := Option.isSome_iff_exists.1 h
 unfold Jg at hy
 have h1 := List.mem_of_find?_eq_some hy
 have h2 := List.find?_some hy
 exact List.mem_map.2 ⟨y, h1, of_decide_eq_true h2⟩
theorem Re (U : List Ce) (gS ga gb gc gt : Nat) (hnd : ((U.map Ce.c).map Cl.id).Nodup) : ∀ (fu : Nat) (c : Int) (T : List (Int × Bool)) (bs : List Nat) (mS h : Hp), CloE h gS ga gb gc gt U → Bq c → BK kN vB gS Bq mS T bs → Je T → WC ((U.map Ce.c).map Cl.id) T < fu → FnT Tryz.prog 67 #[.int .i64 c, .pointer (some ⟨ga, 0, none⟩), .pointer (some ⟨gb, 0, none⟩), .pointer (some ⟨gc, 0, none⟩)] h [mS] (fun _ h' ms' => h.le h' ∧ ∃ mS' T' bs', ms' = [mS'] ∧ BK kN vB gS Bq mS' T' bs' ∧ Je T' ∧ Wt (U.map Ce.c) T T' c) := by
 intro fu
 induction fu with
 | zero =>
  intro c T bs mS h E hc hO hA hF
  omega
 | succ fu ih =>
  intro c T bs mS h E hc hO hA hF
  obtain ⟨gm, mMt, bst, vids, hSg, hMt, lmt, hVt, hsU⟩ := E.m
  have eT : ∀ ms, Cell h ms (⟨gt, 0, none⟩ : Addr) (.map (some gm)) := fun ms => Seg.all hSg 0 _ rfl ms
  have e2 := E.t
  have e5 := E.s
  obtain ⟨y, hy⟩ : ∃ y, (AZ (Hb U) c).getD default = y := ⟨_, rfl⟩
  obtain ⟨bb, hbb⟩ : ∃ bb, (AZ (Hb U) c).isSome = bb := ⟨_, rfl⟩
  have hyR := Ly hsU c
  rw [hy] at hyR
  have hbb' : (Jg (U.map Ce.c) c).isSome = bb := by rw [← JK]; exact hbb
  have hyc : y.c = Gu (U.map Ce.c) c := by rw [← Jn, hy]
  have oy := hyR.rd.one
  have hyn : y.c.sd.length ≤ 1000000 := by rw [hyc]; exact TC (P := fun l => l.length ≤ 1000000) (by simp) E.n
  have hyi : ∀ s ∈ y.c.sd, Bq s.1 := by rw [hyc]; exact TC (P := fun l => ∀ s ∈ l, Bq s.1) (fun s hs => nomatch hs) E.i
  have hJ : PR (U.map Ce.c) c = y.c.sd.map Prod.fst := by unfold PR; rw [hyc]
  refine Av func67 ntmps67 rfl rfl (fun w0 hw0 => ?_)
  simp only [A5]
  refine Az (Ql rfl underlying93 (e2 _) (Qm rfl (Qf Gz rfl (Ql rfl underlying113 (eT _) (Qm rfl (Qx (DG (V := vC) (z := (default : Ce)) c hy hbb Ba hMt lmt rfl underlying113 Nk rfl rfl hc) rfl (Qm rfl (Qm rfl (Qm rfl (C4 [.int .i64 0, .int .i64 0, .slice none 0 0] rfl AH rfl rfl (fun g5 => ?_)))))))))))
  refine Sa 0 [_, _, _] AH rfl (by simp [oy]) ?_
  refine Qm rfl (An ?_)
  rcases Bool.eq_false_or_eq_true bb with rfl | rfl
  ·refine AA fun h1 l1 hS5 => ?_
   have E := E.up l1
   have e5 := E.s
   have e6 := E.f
   have e52 : ∀ ms, Cell h1 ms (⟨g5, 2, none⟩ : Addr) y.v := fun ms => Seg.all hS5 2 _ rfl ms
   refine Ac (Az (Qm rfl (Qm rfl (Qm rfl (Qg (oL rfl underlying92 (e5 _)) rfl (Qg (Au rfl rfl) rfl ?_))))))
   refine Qg (Fp (V := vB) (z := false) c Ba hO (by simp) rfl underlying92 PY rfl rfl hc) rfl ?_
   rw [HX hA]
   refine Qm rfl (An ?_)
   refine Bu rfl (fun hin => ?_) (fun hin => ?_)
   ·have him : c ∈ C3 T := of_decide_eq_true hin
    refine Aq (Ae ?_)
    exact Ek rfl (⟨l1, mS, T, bs, rfl, hO, hA, fun x hx => hx, fun _ => him, fun x h1 h2 => absurd h1 h2⟩)
   ·have hni : c ∉ C3 T := fun q => by rw [decide_eq_true q] at hin; cases hin
    have hyR := hyR.up l1
    have hcm := TG hbb'
    refine Ai (Ad (Az (Ql rfl underlying92 (e5 _) (Qm rfl (Bp (V := vB) (z := undef) 0 c true Ba hO rfl rfl underlying92 rfl rfl rfl hc rfl rfl (fun mS1 EO hO1 => ?_))))))
    have hA1 := J9 hA c
    have hU1 := WD hnd hcm hni true
    obtain ⟨T1, hT1⟩ : ∃ T1, Cr T c true = T1 := ⟨_, rfl⟩
    have hk1 : ∀ x, x ∈ C3 T1 ↔ x = c ∨ x ∈ C3 T := fun x => by rw [← hT1]; exact Dg T _ _ x
    rw [hT1] at hO1 hA1 hU1
    refine BG (Qf Bl rfl (Ql rfl underlying57 (e52 _) (Qx (AC hyR.rd.any rfl underlying57 rfl) rfl (Qm rfl (An (Ah ?_))))))
    refine AD (fun q s h' ms' => ∃ (t : Nat) (Tt : List (Int × Bool)) (bt : List Nat) (mt : Hp), q = y.c.sd.length - t ∧ s = [(3, .pointer (some ⟨gc, 0, none⟩)), (28, y.v), (29, .int .i64 y.c.sd.length), (30, .int .i64 t)] ∧ h1.le h' ∧ ms' = [mt] ∧ t ≤ y.c.sd.length ∧ BK kN vB gS Bq mt Tt bt ∧ Je Tt ∧ (∀ x ∈ C3 T1, x ∈ C3 Tt) ∧ (∀ x ∈ C3 Tt, x ∉ C3 T1 → Rch (PR (U.map Ce.c)) c x ∧ (∀ k ∈ PR (U.map Ce.c) x, (Jg (U.map Ce.c) k).isSome = true → k ∈ C3 Tt) ∧ x ∈ (U.map Ce.c).map Cl.id) ∧ ∀ j (hj : j < y.c.sd.length), j < t → (Jg (U.map Ce.c) y.c.sd[j].1).isSome = true → y.c.sd[j].1 ∈ C3 Tt)
     (y.c.sd.length - 0) _ ⟨0, T1, EO, mS1, rfl, rfl, Hp.le_refl _, rfl, by omega, hO1, hA1, fun x hx => hx, fun x h1 h2 => absurd h1 h2, fun j hj h => by omega⟩ Qs ?_
    rintro q s h2 ms' ⟨t, Tt, bt, mt, rfl, rfl, l2, rfl, htl, hOt, hAt, hsub, hnew, hdone⟩
    have hyR := hyR.up l2
    have E := E.up l2
    refine Az (Qm rfl (An (Ac ?_)))
    refine Ax rfl (fun hlt => ?_) (fun hlt => ?_)
    ·have htl : t < y.c.sd.length := by omega
     obtain ⟨s, hs⟩ : ∃ s, y.c.sd[t] = s := ⟨_, rfl⟩
     have hsm : s ∈ y.c.sd := by rw [← hs]; exact List.getElem_mem htl
     have hsI := hyi s hsm
     have hss : ∀ ms, Seg h2 ms ((AI y.v).add (t * 2)) (cD s) := fun ms => by rw [← hs]; exact (hyR.any (ms := ms)).seg htl
     refine Ai (Ad (Ac (Ah (Az (Qx (Af (t) hyR.rd.any rfl underlying57 AR rfl rfl (by omega) (by omega)) rfl (Qx (oG rfl underlying81 AR (hss _)) rfl (C4 [.int .i64 0, .int .i64 0] rfl AR rfl rfl (fun g8 => ?_))))))))
     refine Sa 0 [_, _] AR rfl (by simp [Value.oneCell']) ?_
     refine An (AA fun h3 l3 hS8 => ?_)
     have e80 : ∀ ms, Cell h3 ms (⟨g8, 0, none⟩ : Addr) (.int .i64 s.1) := fun ms => Seg.all hS8 0 _ rfl ms
     have E := E.up l3
     have e6 := E.f
     refine Ab (Ql rfl underlying102 (e6 _) (Qf Cc rfl (Ql rfl underlying3 (e80 _) ?_)))
     refine Dt (pre := [mt]) rfl rfl call67 rfl (ih s.1 Tt bt mt h3 E hsI hOt hAt (by have := Tw hnd hsub; omega)) rfl rfl rfl rfl (fun v' h4 pre' l4 hF => ?_)
     obtain ⟨l4', m2, T2, b2, rfl, hO2, hA2, R2⟩ := hF
     simp only [List.cons_append, List.nil_append, List.append_nil]
     have hrk : Rch (PR (U.map Ce.c)) c s.1 := .step (.refl _) (by rw [hJ]; exact List.mem_map.2 ⟨s, hsm, rfl⟩)
     refine Ak (Aj (Ad (Ab (Qx (oA rfl) rfl (Qm rfl (Ak ?_))))))
     exact Am (y.c.sd.length - (t + 1)) _ (by omega) ⟨t + 1, T2, b2, m2, rfl, rfl, Hp.le_trans l2 (Hp.le_trans l3 l4), rfl, by omega, hO2, hA2, fun x hx => R2.sub x (hsub x hx), fun x h1 h2 => by
      by_cases hx : x ∈ C3 Tt
      ·obtain ⟨q1, q2, q3⟩ := hnew x hx h2
       exact ⟨q1, fun k hk hf => R2.sub k (q2 k hk hf), q3⟩
      ·obtain ⟨q1, q2, q3⟩ := R2.new x h1 hx
       exact ⟨hrk.trans q1, q2, q3⟩, fun j hj hjt hf => by
      rcases (by omega : j < t ∨ j = t) with h1 | rfl
      ·exact R2.sub _ (hdone j hj h1 hf)
      ·rw [hs] at hf ⊢; exact R2.me hf⟩ Qs
    ·obtain rfl : t = y.c.sd.length := by omega
     have hV : Wt (U.map Ce.c) T Tt c := by
      refine ⟨fun x hx => hsub x ((hk1 x).2 (.inr hx)), fun _ => hsub _ ((hk1 _).2 (.inl rfl)), fun x h1 h2 => ?_⟩
      by_cases hx : x = c
      ·subst hx
       refine ⟨.refl _, fun k hk hf => ?_, hcm⟩
       rw [hJ] at hk
       obtain ⟨s, hs, rfl⟩ := List.mem_map.1 hk
       obtain ⟨j, hj, rfl⟩ := List.getElem_of_mem hs
       exact hdone j hj hj hf
      ·exact hnew x h1 fun q => by
        rcases (hk1 x).1 q with q | q
        ·exact hx q
        ·exact h2 q
     refine Aw (Aa (Aa (Ag ?_)))
     exact BL rfl (⟨Hp.le_trans l1 l2, mt, Tt, bt, rfl, hOt, hAt, hV⟩)
  ·refine Ac (Az (Qm rfl (Qm rfl (Qm rfl (Qk rfl (Qk rfl (Qk rfl (Qm rfl (An (Bk rfl (Aq (Ae (AS ?_)))))))))))))
   exact Ek rfl (⟨Hp.le_refl _, mS, T, bs, rfl, hO, hA, fun x hx => hx, fun q => (by rw [hbb'] at q; cases q), fun x h1 h2 => absurd h1 h2⟩)
structure ClosT (o : List Cl) (ids : List Int) (T : List (Int × Bool)) : Prop where
 all : ∀ c ∈ ids, (Jg o c).isSome = true → c ∈ C3 T
 rch : ∀ x ∈ C3 T, ∃ c ∈ ids, Rch (PR o) c x
 cls : ∀ x ∈ C3 T, ∀ k ∈ PR o x, (Jg o k).isSome = true → k ∈ C3 T
 mem : ∀ x ∈ C3 T, x ∈ o.map Cl.id
theorem ClosT.nil (o : List Cl) : ClosT o [] [] := ⟨fun _ h => (nomatch h), fun _ h => (nomatch h), fun _ h => (nomatch h), fun _ h => (nomatch h)⟩
theorem ClosT.snoc {o : List Cl} {ids : List Int} {T T' : List (Int × Bool)} {c : Int} (C : ClosT o ids T) (V : Wt o T T' c) : ClosT o (ids ++ [c]) T' := by
 refine ⟨fun x hx hf => ?_, fun x hx => ?_, fun x hx k hk hf => ?_, fun x hx => ?_⟩
 ·rcases List.mem_append.1 hx with h | h
  ·exact V.sub x (C.all x h hf)
  ·rw [List.mem_singleton.1 h] at hf ⊢; exact V.me hf
 ·by_cases h : x ∈ C3 T
  ·obtain ⟨d, h1, h2⟩ := C.rch x h
   exact ⟨d, List.mem_append_left _ h1, h2⟩
  ·exact ⟨c, List.mem_append_right _ (List.mem_singleton.2 rfl), (V.new x hx h).1⟩
 ·by_cases h : x ∈ C3 T
  ·exact V.sub k (C.cls x h k hk hf)
  ·exact (V.new x hx h).2.1 k hk hf
 ·by_cases h : x ∈ C3 T
  ·exact C.mem x h
  ·exact (V.new x hx h).2.2
theorem ND (U : List Ce) (gt : Nat) (ids : List Int) (vi : Value) (h : Hp) (hnd : ((U.map Ce.c).map Cl.id).Nodup) (hT : RdT h gt U) (hn : ∀ y ∈ U, y.c.sd.length ≤ 1000000) (hi : ∀ y ∈ U, ∀ s ∈ y.c.sd, Bq s.1) (hR : RdL cI 1 h [] vi ids) (hl : ids.length ≤ 1000000) (hI : ∀ c ∈ ids, Bq c) : FnT Tryz.prog 51 #[.pointer (some ⟨gt, 0, none⟩), vi] h [] (fun r h' ms' => h.le h' ∧ ∃ gS mS T bs, r = .map (some gS) ∧ ms' = [mS] ∧ BK kN vB gS Bq mS T bs ∧ ClosT (U.map Ce.c) ids T) := by
 have o1 := hR.rd.one
 refine Av func51 ntmps51 rfl rfl (fun w0 hw0 => ?_)
 simp only [A5]
 refine Az ?_
 refine A8 [_] rfl rfl (by rfl) rfl rfl rfl (fun g2 => ?_)
 refine Qm rfl (BG (Cd (K := kN) (V := vB) (Ok := Bq) rfl rfl rfl rfl (fun gS mS hS0 => C4 [.map none] rfl VO rfl rfl (fun g5 => ?_))))
 refine AK 0 0 rfl VO rfl rfl (by rfl) rfl rfl (by decide) rfl rfl ?_
 refine BG (C4 [.nilFunc] rfl QN rfl rfl (fun g6 => BG (Qx (Bv rfl rfl rfl) rfl ?_)))
 refine AK 0 0 rfl QN rfl rfl (by rfl) rfl rfl (by decide) rfl rfl ?_
 refine An (AA fun h1 l1 hS6 => (AA fun h2 l2 hS5 => (EE 1 rfl (AA fun h3 l3 hS2 => ?_))))
 have hS6 := hS6.le (Hp.le_trans l2 l3)
 have hS5 := hS5.le l3
 have l03 := Hp.le_trans l1 (Hp.le_trans l2 l3)
 have E : CloE h3 gS g2 g5 g6 gt U := ⟨fun ms => Seg.all hS2 0 _ rfl ms, fun ms => Seg.all hS5 0 _ rfl ms, fun ms => Seg.all hS6 0 _ rfl ms, hT.up l03, hn, hi⟩
 have hR := hR.up l03
 refine Ac (Az (Qm rfl (Qx (AC hR.rd.any rfl underlying25 rfl) rfl (Qm rfl (An (Ah ?_))))))
 refine AD (fun q sl h' ms' => ∃ (t : Nat) (T : List (Int × Bool)) (bs : List Nat) (mS : Hp), q = ids.length - t ∧ sl = [(5, .pointer (some ⟨g5, 0, none⟩)), (6, .pointer (some ⟨g6, 0, none⟩)), (11, vi), (12, .int .i64 ids.length), (13, .int .i64 t)] ∧ h3.le h' ∧ ms' = [mS] ∧ t ≤ ids.length ∧ BK kN vB gS Bq mS T bs ∧ Je T ∧ ClosT (U.map Ce.c) (ids.take t) T)
  (ids.length - 0) _ ⟨0, [], [], mS, rfl, rfl, Hp.le_refl _, rfl, by omega, hS0, fun p hp => (nomatch hp), ClosT.nil _⟩ Qs ?_
 rintro q sl h4 ms' ⟨t, T, bs, mS, rfl, rfl, l4, rfl, ht, hO, hA, hC⟩
 have hR := hR.up l4
 have E := E.up l4
 have e5 := E.s
 have e6 := E.f
 refine Az (Qm rfl (An (Ac ?_)))
 refine Ax rfl (fun hlt => ?_) (fun hlt => ?_)
 ·have htl : t < ids.length := by omega
  have hcI := hI _ (List.getElem_mem htl)
  have cc : ∀ ms, Cell h4 ms ((AI vi).add (t * 1)) (.int .i64 ids[t]) := fun ms => (hR.any (ms := ms)).cell0 htl rfl
  refine Ai (Ad (Ac (Ah (Az (Qx (Af (t) hR.rd.any rfl underlying25 Bm rfl rfl (by omega) (by omega)) rfl (Ql rfl underlying3 (cc _) (Qm rfl (GZ (Ql rfl underlying102 (e6 _) (Qm rfl (Dt (pre := [mS]) rfl rfl call67 rfl (Re U gS g2 g5 g6 gt hnd (WC ((U.map Ce.c).map Cl.id) T + 1) ids[t] T bs mS h4 E hcI hO hA (Nat.lt_succ_self _)) rfl rfl rfl rfl (fun v' h5 pre' l5 hF => ?_))))))))))))
  obtain ⟨l5', m2, T2, b2, rfl, hO2, hA2, V⟩ := hF
  simp only [List.cons_append, List.nil_append, List.append_nil]
  have hC2 := hC.snoc V
  rw [← List.take_succ_eq_append_getElem htl] at hC2
  refine Ak (Aj (Ad (Ab (Qx (oA rfl) rfl (Qm rfl (Ak ?_))))))
  exact Am (ids.length - (t + 1)) _ (by omega) ⟨t + 1, T2, b2, m2, rfl, rfl, Hp.le_trans l4 l5, rfl, by omega, hO2, hA2, hC2⟩ Qs
 ·obtain rfl : t = ids.length := by omega
  rw [List.take_length] at hC
  refine Aw (Aa (Aa (Ag (Ad (Az (Ql rfl underlying92 (e5 _) (Qm rfl (An (Aq ?_)))))))))
  exact As rfl rfl (⟨Hp.le_trans l03 l4, gS, mS, T, bs, rfl, rfl, hO, hC⟩)
theorem Xt {U : List Ce} {ids : List Int} {gS : Nat} {mS : Hp} {T : List (Int × Bool)} {bs : List Nat} (O : BK kN vB gS Bq mS T bs) (C : ClosT (U.map Ce.c) ids T) : T.length ≤ (U.map Ce.c).length := by
 have := GA _ _ O.keys C.mem
 simpa using this
theorem RgC.table {l A : List Ce} (hK : RgC l) (hA : A.map Ce.c = l.map Ce.c) : ((A.map Ce.c).map Cl.id).Nodup ∧ (∀ y ∈ A, y.c.sd.length ≤ 1000000) ∧ ∀ y ∈ A, ∀ s ∈ y.c.sd, Bq s.1 := by
 have hG := hK.r.rgt
 have hm : ∀ y ∈ A, y.c ∈ l.map Ce.c := fun y hy => by rw [← hA]; exact List.mem_map.2 ⟨y, hy, rfl⟩
 refine ⟨by rw [hA]; exact hG.nd, fun y hy => ?_, fun y hy s hs => ?_⟩
 ·have := (hK.r.bds (hm y hy)).2.1; omega
 ·obtain ⟨z, hz, e, _⟩ := hG.sid _ (hm y hy) s hs
  obtain ⟨b, hb, rfl⟩ := List.mem_map.1 hz
  have h2 := hG.pos _ hz
  have h3 := hK.i b hb
  rw [← e]; unfold Bq; omega
theorem OQ (l : List Ce) (v vi : Value) (ids : List Int) (hp : Hp) (hK : RgC l) (hR : RdC hp v l) (hI : RdL cI 1 hp [] vi ids) (hl : ids.length ≤ 1000000) (hc : ∀ c ∈ ids, Bq c) : FnT Tryz.prog 22 #[.agg #[v], vi] hp [] (fun r h' ms' => hp.le h' ∧ ∃ (T : List (Int × Bool)) (ks : List Int) (mo : Hp), ms' = [mo] ∧ OwnL cI 1 3 mo r ks ∧ ks.Perm (C3 T) ∧ ks.Nodup ∧ ClosT (l.map Ce.c) ids T) := by
 have o1 := hR.q.rd.one
 have o2 := hI.rd.one
 refine Av func22 ntmps22 rfl rfl (fun w0 hw0 => ?_)
 simp only [A5]
 refine Az ?_
 refine A8 [_] rfl rfl (by rfl) rfl rfl rfl (fun g2 => ?_)
 refine Qm rfl (An (AA fun h1 l1 hS => ?_))
 have hR := hR.up l1
 have hI := hI.up l1
 refine Az (Qx (oG rfl underlying29 Bi (Seg.any hS)) rfl (Qc call50 rfl (TV l v h1 hK hR) (fun rT h2 ms2 l2 hF => ?_)))
 obtain ⟨l2', rfl, g, A, rfl, hA, hT⟩ := hF
 obtain ⟨t1, t2, t3⟩ := hK.table hA
 refine Qm rfl (Qc call51 rfl (ND A g ids vi h2 t1 hT t2 t3 (hI.up l2) hl hc) (fun rC h3 ms3 l3 hF => ?_))
 obtain ⟨l3', gS, mS, T, bs, rfl, rfl, hO, hC⟩ := hF
 refine AN fun h4 l4 lS => (Qc call49 rfl (WX (some gS) h4) (fun rK h5 ms5 l5 hF => ?_))
 obtain ⟨rfl, gk, rfl, rfl⟩ := hF
 refine BF fun h6 l6 hSk => ?_
 have hTl : T.length ≤ 1000000 := by
  have h1 := Xt hO hC
  have h2 := congrArg List.length hA
  rw [List.length_map, List.length_map] at h2
  have h3 := hK.r.n
  rw [List.length_map] at h3
  rw [List.length_map] at h1
  omega
 refine Qc call48 rfl (Rp gk gS mS T bs h6 hSk hO (Hp.le_trans lS l6) hTl) (fun rS h7 ms7 l7 hF => ?_)
 obtain ⟨l7', ks, mo, rfl, hOk, hpm, _⟩ := hF
 have ov : rS.oneCell' = true := (hOk.rd (h := h7) (ms := [mo]) (List.Mem.head _)).rd.one
 refine Qm rfl (An (Aq ?_))
 exact As rfl rfl (⟨Hp.le_trans l1 (Hp.le_trans l2 (Hp.le_trans l3 (Hp.le_trans l4 (Hp.le_trans l6 l7)))), T, ks, mo, rfl, hOk, hpm, hpm.nodup_iff.2 hO.keys, by rw [← hA]; exact hC⟩)
def nV (L : List Int) (k : Int) : Int := if (L.length : Int) > 0 then (L.getD (k % L.length).toNat 0).tmod 100 else k % 3
def FW (L : List Int) (ks : List Int) : Int := ks.foldl (fun m k => max m (nV L k)) (-1073741824)
theorem Jm (L : List Int) (x : Int) : ∀ ks : List Int, FW L ks ≤ x ↔ -1073741824 ≤ x ∧ ∀ k ∈ ks, nV L k ≤ x := Co (by simp [FW]) fun F p ih => by
 unfold FW at *
 rw [List.foldl_append]
 simp only [List.foldl_cons, List.foldl_nil, Int.max_le, ih, List.mem_append, List.mem_singleton]
 constructor
 ·rintro ⟨⟨h1, h2⟩, h3⟩
  exact ⟨h1, fun k hk => hk.elim (h2 k) fun e => e ▸ h3⟩
 ·rintro ⟨h1, h2⟩
  exact ⟨⟨h1, fun k hk => h2 k (.inl hk)⟩, h2 p (.inr rfl)⟩
theorem IC {L : List Int} {ks ks' : List Int} (h : ∀ k ∈ ks, k ∈ ks') : FW L ks ≤ FW L ks' := by
 rw [Jm]
 have h1 := (Jm L (FW L ks') ks').1 (Int.le_refl _)
 exact ⟨h1.1, fun k hk => h1.2 k (h k hk)⟩
theorem OI {L : List Int} {ks ks' : List Int} (h : ∀ k, k ∈ ks ↔ k ∈ ks') : FW L ks = FW L ks' := Int.le_antisymm (IC fun k hk => (h k).1 hk) (IC fun k hk => (h k).2 hk)
theorem XT (L : List Int) {k : Int} (hk : 0 ≤ k) : -100 < nV L k ∧ nV L k < 100 := by
 unfold nV
 split
 ·have h1 := Int.tmod_lt_of_pos (L.getD (k % L.length).toNat 0) (show (0 : Int) < 100 by decide)
  have h2 := Int.lt_tmod_of_pos (L.getD (k % L.length).toNat 0) (show (0 : Int) < 100 by decide)
  omega
 ·omega
open Classical in
noncomputable def NP (o : List Cl) (c : Int) : List Int := (o.map Cl.id).filter fun x => decide (Rch (PR o) c x)
noncomputable def MB (o : List Cl) (L : List Int) (c : Int) : Int := FW L (NP o c)
theorem cloL_mem {o : List Cl} {c x : Int} : x ∈ NP o c ↔ x ∈ o.map Cl.id ∧ Rch (PR o) c x := by
 classical
 unfold NP
 rw [List.mem_filter, decide_eq_true_iff]
theorem Ss {o : List Cl} (R : Rgt o) {c : Int} (hc : c ∈ o.map Cl.id) {T : List (Int × Bool)} (C : ClosT o [c] T) (x : Int) : x ∈ C3 T ↔ x ∈ NP o c := by
 have hf : ∀ y ∈ o.map Cl.id, (Jg o y).isSome = true := fun y hy => by
  obtain ⟨z, hz, rfl⟩ := List.mem_map.1 hy
  rw [GB R.nd hz]; rfl
 have hsd : ∀ y ∈ o.map Cl.id, ∀ k ∈ PR o y, k ∈ o.map Cl.id := fun y hy k hk => by
  obtain ⟨z, hz, rfl⟩ := List.mem_map.1 hy
  unfold PR at hk
  rw [CM R.nd hz] at hk
  obtain ⟨s, hs, rfl⟩ := List.mem_map.1 hk
  obtain ⟨w, hw, e, _⟩ := R.sid z hz s hs
  exact List.mem_map.2 ⟨w, hw, e⟩
 rw [cloL_mem]
 constructor
 ·intro hx
  obtain ⟨d, hd, hr⟩ := C.rch x hx
  rw [List.mem_singleton.1 hd] at hr
  exact ⟨C.mem x hx, hr⟩
 ·rintro ⟨-, hr⟩
  have : x ∈ o.map Cl.id ∧ x ∈ C3 T := by
   induction hr with
   | refl => exact ⟨hc, C.all c (List.mem_singleton.2 rfl) (hf c hc)⟩
   | step h hk ih =>
    obtain ⟨h1, h2⟩ := ih
    have h3 := hsd _ h1 _ hk
    exact ⟨h3, C.cls _ h2 _ hk (hf _ h3)⟩
  exact this.2
noncomputable def E1 (o : List Cl) (L : List Int) (n : Nat) : List (Int × Int) := (o.take n).map fun x => (x.id, MB o L x.id)
theorem Lv (l : List Ce) (v vm : Value) (L : List Int) (hp : Hp) (hK : RgC l) (hR : RdC hp v l) (hL : RdL cI 1 hp [] vm L) (hln : L.length ≤ 9223372036854775807) : FnT Tryz.prog 6 #[.agg #[v], vm] hp [] (fun r h' ms' => hp.le h' ∧ ∃ mo, ms' = [mo] ∧ OwnL cV 2 61 mo r (E1 (l.map Ce.c) L l.length)) := by
 have o1 := hR.q.rd.one
 have o2 := hL.rd.one
 have hG := hK.r.rgt
 have hll := hG.n
 rw [List.length_map] at hll
 refine Av func6 ntmps6 rfl rfl (fun w0 hw0 => ?_)
 simp only [A5]
 refine Az ?_
 refine A8 [_] rfl rfl (by rfl) rfl rfl rfl (fun g2 => ?_)
 refine Qm rfl (An (AA fun h1 l1 hS => ?_))
 have hR := hR.up l1
 have hL := hL.up l1
 have e0 : ∀ ms, Cell h1 ms (⟨g2, 0, none⟩ : Addr) v := fun ms => Seg.all hS 0 _ rfl ms
 refine Bz (Az (Qm rfl (An (Ac (Az (Qm rfl (An (Ah ?_))))))))
 refine AD (fun q sl h' ms' => ∃ (i : Nat) (vo : Value) (mo : Hp), q = l.length - i ∧ sl = [(1, vm), (2, .pointer (some ⟨g2, 0, none⟩)), (5, vo), (6, .int .i64 i)] ∧ h1.le h' ∧ ms' = [mo] ∧ i ≤ l.length ∧ OwnL cV 2 61 mo vo (E1 (l.map Ce.c) L i))
  (l.length - 0) _ ⟨0, _, Hp.emp, rfl, rfl, Hp.le_refl _, rfl, by omega, OwnL.nil Sz⟩ Qs ?_
 rintro q sl h2 ms' ⟨i, vo, mo, rfl, rfl, l2, rfl, hi, hO⟩
 have hR := hR.up l2
 have hL := hL.up l2
 have hS2 := hS.le l2
 have e0 : ∀ ms, Cell h2 ms (⟨g2, 0, none⟩ : Addr) v := fun ms => (e0 ms).le l2
 have ovo : vo.oneCell' = true := (hO.rd (h := h2) (ms := [mo]) (List.Mem.head _)).rd.one
 refine Ac (Az (Qm rfl (Qf BX rfl (Ql rfl underlying27 (e0 _) (Qx (AC hR.q.rd.any rfl underlying27 rfl) rfl (Qm rfl (An ?_)))))))
 refine Ax rfl (fun hlt => ?_) (fun hlt => ?_)
 ·have hil : i < l.length := by omega
  obtain ⟨x, hx⟩ : ∃ x, l[i] = x := ⟨_, rfl⟩
  have hxm : x ∈ l := by rw [← hx]; exact List.getElem_mem hil
  have hxo : x.c ∈ l.map Ce.c := List.mem_map.2 ⟨x, hxm, rfl⟩
  have hx1 := hG.pos _ hxo
  have hx2 := hK.i x hxm
  have cx : ∀ ms, Cell h2 ms (((AI v).add (i * 3)).add 0) (.int .i64 x.c.id) := fun ms => by
   have : Seg h2 ms ((AI v).add (i * 3)) (cC x) := by rw [← hx]; exact (hR.q.any (ms := ms)).seg hil
   exact this 0 _ rfl
  refine Ai (Ad (Ac (Ah (Ac (Bb 8 CN (by kernel_rfl) rfl (AM (oG rfl underlying29 Bi (Seg.any hS2)) rfl rfl (Wf BX rfl (Wl rfl underlying27 (e0 _) (Wm rfl (AM (Af (i) hR.q.rd.any rfl underlying27 AH rfl rfl (by omega) (by omega)) rfl rfl (Wf Bo rfl (Wl rfl underlying3 (cx _) ?_))))))))))))
  refine Uw (Ea [_] rfl underlying25 Bm rfl (by rfl) rfl rfl (by omega)) rfl rfl ?_
  refine Hz (fun g25 => BF fun h3 l3 hS25 => ?_)
  have hR3 := hR.up l3
  have hid : RdL cI 1 h3 [] (.slice (some ⟨g25, 0, none⟩) 1 1) [x.c.id] := ⟨⟨⟨_, _, rfl, Nat.le_refl _, by decide, rfl, fun _ => ⟨_, rfl, hS25⟩⟩⟩, AT⟩
  refine Qc call22 rfl (OQ l v _ [x.c.id] h3 hK hR3 hid (by simp) (fun c hc => by rw [List.mem_singleton.1 hc]; unfold Bq; omega)) (fun rK h4 ms4 l4 hF => ?_)
  obtain ⟨l4', T, ks, mk, rfl, hOk, hpm, hnk, hC⟩ := hF
  refine A7 hOk fun h5 l5 hKs => ?_
  have l25 := Hp.le_trans l3 (Hp.le_trans l4 l5)
  have okv := hKs.rd.one
  have hmem : ∀ k, k ∈ ks ↔ k ∈ NP (l.map Ce.c) x.c.id := fun k => by rw [hpm.mem_iff]; exact Ss hG (List.mem_map.2 ⟨_, hxo, rfl⟩) hC k
  have hval : FW L ks = MB (l.map Ce.c) L x.c.id := OI hmem
  have hksl : ks.length ≤ 4000 := by
   have h1 := hpm.length_eq
   have h2 := GA (ks) ((l.map Ce.c).map Cl.id) (hnk) (fun k hk => (cloL_mem.1 ((hmem k).1 hk)).1)
   simp at h2; omega
  have hkb : ∀ k ∈ ks, 0 ≤ k ∧ k ≤ 1000000 := fun k hk => by
   obtain ⟨y, hy, rfl⟩ := List.mem_map.1 (cloL_mem.1 ((hmem k).1 hk)).1
   have h1 := hG.pos _ hy
   obtain ⟨b, hb, rfl⟩ := List.mem_map.1 hy
   have h2 := hK.i b hb
   omega
  have e0 : ∀ ms, Cell h5 ms (⟨g2, 0, none⟩ : Addr) v := fun ms => (e0 ms).le l25
  have hL5 := hL.up l25
  have hR5 := hR.up l25
  refine Qm rfl (BG (Qm rfl (An ?_)))
  refine AV (fun sl h' ms' => sl = [(1, vm), (2, .pointer (some ⟨g2, 0, none⟩)), (5, vo), (6, .int .i64 i), (8, .int .i64 (FW L ks))] ∧ h5 = h' ∧ ms' = [mo]) ?_ (fun s h ms hI => ?_)
  ·refine Ac (Ab (Qm rfl (An (Ah ?_))))
   refine AD (fun q sl h' ms' => ∃ (k : Nat), q = ks.length - k ∧ sl = [(1, vm), (2, .pointer (some ⟨g2, 0, none⟩)), (5, vo), (6, .int .i64 i), (7, rK), (8, .int .i64 (FW L (ks.take k))), (9, .int .i64 k)] ∧ h5 = h' ∧ ms' = [mo] ∧ k ≤ ks.length)
    (ks.length - 0) _ ⟨0, rfl, rfl, rfl, rfl, by omega⟩ Qs ?_
   rintro q sl h' ms' ⟨k, rfl, rfl, rfl, rfl, hk⟩
   refine Ac (Az (Qm rfl (Qm rfl (Qx (AC hKs.rd.any rfl underlying25 rfl) rfl (Qm rfl (An ?_))))))
   refine Ax rfl (fun hlk => ?_) (fun hlk => ?_)
   ·have hkl : k < ks.length := by omega
    have ck : ∀ ms, Cell h5 ms ((AI rK).add (k * 1)) (.int .i64 ks[k]) := fun ms => (hKs.any (ms := ms)).cell0 hkl rfl
    obtain ⟨hy1, hy2⟩ := hkb _ (List.getElem_mem hkl)
    have hnext : FW L (ks.take (k + 1)) = max (FW L (ks.take k)) (nV L ks[k]) := by
     rw [List.take_succ_eq_append_getElem hkl]
     unfold FW
     rw [List.foldl_append]
     rfl
    obtain ⟨y, hy⟩ : ∃ y, ks[k] = y := ⟨_, rfl⟩
    rw [hy] at ck hy1 hy2 hnext
    refine Ai (Ad (Ac (Ah (Az (Qm rfl (Qm rfl (Qx (Af (k) hKs.rd.any rfl underlying25 Bm rfl rfl (by omega) (by omega)) rfl (Ql rfl underlying3 (ck _) (Qx (B5 rfl rfl rfl (by omega) (by omega)) rfl (Qm rfl (An (Ac (Az (Qm rfl (Qx (AC hL5.rd.any rfl underlying25 rfl) rfl (Qm rfl (An ?_)))))))))))))))))
    refine Ax rfl (fun hL0 => ?_) (fun hL0 => ?_)
    ·have hym : 0 ≤ y % (L.length : Int) ∧ y % (L.length : Int) < L.length := ⟨Int.emod_nonneg _ (by omega), Int.emod_lt_of_pos _ (by omega)⟩
     obtain ⟨z, hz⟩ := Int.eq_ofNat_of_zero_le hym.1
     rw [hz] at hym
     have hzl : z < L.length := by omega
     have cz : ∀ ms, Cell h5 ms ((AI vm).add (z * 1)) (.int .i64 (L.getD z 0)) := fun ms => by rw [show L.getD z 0 = L[z] by simp [List.getD, hzl]]; exact (hL5.any (ms := ms)).cell0 hzl rfl
     have hnv : nV L y = (L.getD z 0).tmod 100 := by
      unfold nV
      rw [if_pos hL0, hz, Int.toNat_natCast]
     refine Ab (Qm rfl (Qm rfl (Qm rfl (Qx (Af (k) hKs.rd.any rfl underlying25 Bm rfl rfl (by omega) (by omega)) rfl (Ql rfl underlying3 (ck _) (Qm rfl (Qx (AC hL5.rd.any rfl underlying25 rfl) rfl (Qx (B5 rfl rfl rfl (by omega) (by omega)) rfl (Qx (Af (z) hL5.rd.any rfl underlying25 Bm rfl rfl (by omega) (by omega)) rfl (Ql rfl underlying3 (cz _) (Qx (Pc rfl rfl rfl (by omega)) rfl (Qm rfl (GZ (Qm rfl (Qm rfl (Qx (Ho rfl rfl rfl) rfl (Qm rfl (Ak (Aj (Ad (Ab (Qm rfl (Qx (oA rfl) rfl (Qm rfl (Ak ?_)))))))))))))))))))))))))
     exact Am (ks.length - (k + 1)) _ (by omega) ⟨k + 1, rfl, by rw [hnext, hnv], rfl, rfl, by omega⟩ Qs
    ·have hnv : nV L y = y % 3 := if_neg hL0
     refine Ai (Ad (Ab (Qm rfl (Qm rfl (Qx (Ho rfl rfl rfl) rfl (Qm rfl (Ak (Aj (Ad (Ab (Qm rfl (Qx (oA rfl) rfl (Qm rfl (Ak ?_))))))))))))))
     exact Am (ks.length - (k + 1)) _ (by omega) ⟨k + 1, rfl, by rw [hnext, hnv], rfl, rfl, by omega⟩ Qs
   ·obtain rfl : k = ks.length := by omega
    refine Aw (Aa (Aa (Ag ?_)))
    rw [List.take_length]
    exact Ay _ ⟨rfl, rfl, rfl⟩ Qs
  ·obtain ⟨rfl, rfl, rfl⟩ := hI
   have hS5 := hS2.le l25
   have cx5 : ∀ ms, Cell h5 ms (((AI v).add (i * 3)).add 0) (.int .i64 x.c.id) := fun ms => (cx ms).le l25
   refine Ab (Qm rfl (Qf BX rfl (Ql rfl underlying27 (e0 _) (Qm rfl (Qx (Af (i) hR5.q.rd.any rfl underlying27 AH rfl rfl (by omega) (by omega)) rfl (Qf Bo rfl (Ql rfl underlying3 (cx5 _) (Qm rfl (Qx (A6 Yt [.int .i64 0, .int .i64 0] [(0, _), (1, _)] [_, _] rfl Fx rfl rfl Qt rfl) rfl ?_)))))))))
   refine Ao [_, _] rfl underlying31 Fx rfl (by rfl) rfl rfl (by omega) rfl rfl rfl (fun g64 => ?_)
   have hvl : (E1 (l.map Ce.c) L i).length ≤ 4000 := by unfold E1; rw [List.length_map, List.length_take]; omega
   refine AJ 1 hO (RdL.one Sz (x := (x.c.id, FW L ks)) (List.Mem.head _) rfl) rfl underlying31 Fx rfl (by omega) rfl rfl rfl Xa (by simp; omega) (by simp; omega) rfl rfl rfl (fun vo2 mo2 hO2 => ?_)
   have hs : E1 (l.map Ce.c) L (i + 1) = E1 (l.map Ce.c) L i ++ [(x.c.id, FW L ks)] := by
    unfold E1
    rw [List.take_succ_eq_append_getElem (by simpa using hil), List.map_append, List.map_singleton, List.getElem_map, hx, hval]
   rw [← hs] at hO2
   have ovo2 : vo2.oneCell' = true := (hO2.rd (h := h5) (ms := [mo2]) (List.Mem.head _)).rd.one
   refine Qm rfl (Ak (Aj (Ad (Ab (Qm rfl (Qx (oA rfl) rfl (Qm rfl (Ak (AS ?_)))))))))
   exact Am (l.length - (i + 1)) _ (by omega) ⟨i + 1, vo2, mo2, rfl, rfl, Hp.le_trans l2 l25, rfl, by omega, hO2⟩ Qs
 ·obtain rfl : i = l.length := by omega
  refine Aw (Aa (Aa (Ag (Ad (Az (Qm rfl (Qm rfl (An (Aq ?_)))))))))
  exact As rfl rfl (⟨Hp.le_trans l1 l2, mo, rfl, hO⟩)
theorem SV {c x : Int} : ∀ {F : List (Int × Int)}, (F.map Prod.fst).Nodup → (c, x) ∈ F → AZ (BE F) c = some x := fun {F} => by
 revert F
 have : ∀ F : List (Int × Int), (F.map Prod.fst).Nodup → (c, x) ∈ F → AZ (BE F) c = some x := Co (fun _ h => nomatch h) fun F p ih hn hm => by
  rw [List.map_append, List.nodup_append] at hn
  rw [Em, CF]
  rcases List.mem_append.1 hm with hm | hm
  ·have hne : c ≠ p.1 := fun e => hn.2.2 c (List.mem_map.2 ⟨_, hm, rfl⟩) p.1 (by simp) e
   rw [if_neg hne]
   exact ih hn.1 hm
  ·rw [← List.mem_singleton.1 hm, if_pos rfl]
 exact fun {F} => this F
theorem Un : ∀ F : List (Int × Int), (F.map Prod.fst).Nodup → (BE F).length = F.length := Co (fun _ => rfl) fun F p ih hn => by
 rw [List.map_append, List.nodup_append] at hn
 rw [Em]
 unfold Cr
 rw [if_neg, List.length_append, List.length_append, ih hn.1]
 intro h
 exact hn.2.2 _ ((Ln p.1 F).1 h) p.1 (by simp) rfl
def UB (x : Int) : Int := max x (-x)
def EZ (F G : List (Int × Int)) (n : Nat) : Int := (List.range n).foldl (fun m i => max m (UB ((F.getD i (0, 0)).2 - (G.getD i (0, 0)).2))) 0
theorem Hn (F G : List (Int × Int)) (n : Nat) : EZ F G (n + 1) = max (EZ F G n) (UB ((F.getD n (0, 0)).2 - (G.getD n (0, 0)).2)) := by
 unfold EZ
 rw [List.range_succ, List.foldl_append]
 rfl
theorem MK (F G : List (Int × Int)) : ∀ {n i : Nat}, i < n → (F.getD i (0, 0)).2 - (G.getD i (0, 0)).2 ≤ EZ F G n ∧ (G.getD i (0, 0)).2 - (F.getD i (0, 0)).2 ≤ EZ F G n
 | 0, i, h => by omega
 | n + 1, i, h => by
  rw [Hn]
  rcases (by omega : i < n ∨ i = n) with h1 | rfl
  ·have := MK F G h1; omega
  ·unfold UB; omega
theorem H3 (F G : List (Int × Int)) (hF : ∀ p ∈ F, -2000000000 ≤ p.2 ∧ p.2 ≤ 2000000000) (hG : ∀ p ∈ G, -2000000000 ≤ p.2 ∧ p.2 ≤ 2000000000) : ∀ n, 0 ≤ EZ F G n ∧ EZ F G n ≤ 4000000000
 | 0 => by simp [EZ]
 | n + 1 => by
  have ih := H3 F G hF hG n
  rw [Hn]
  have h1 : ∀ (F : List (Int × Int)), (∀ p ∈ F, -2000000000 ≤ p.2 ∧ p.2 ≤ 2000000000) → -2000000000 ≤ (F.getD n (0, 0)).2 ∧ (F.getD n (0, 0)).2 ≤ 2000000000 := fun F h => by
   by_cases hn : n < F.length
   ·rw [show F.getD n (0, 0) = F[n] by simp [List.getD, hn]]; exact h _ (List.getElem_mem hn)
   ·simp [List.getD, List.getElem?_eq_none (show F.length ≤ n by omega)]
  have a := h1 F hF
  have b := h1 G hG
  unfold UB
  omega
theorem WK (x : Int) (hx : -9000000000000000000 ≤ x ∧ x ≤ 9000000000000000000) (h : Hp) (ms : List Hp) : FnV Tryz.prog 25 #[.int .i64 x] h ms (.int .i64 (UB x)) := by
 refine IV ?_ ms
 refine Av func25 ntmps25 rfl rfl (fun w0 hw0 => ?_)
 simp only [A5]
 refine Az (Qm rfl (BG (Qm rfl (Qm rfl (Qx (MA rfl rfl (by omega)) rfl (Qx (Ho rfl rfl rfl) rfl (Qm rfl (An (Aq ?_)))))))))
 exact As rfl rfl (rfl)
theorem RU (F G : List (Int × Int)) (vf vg : Value) (h : Hp) (hF : RdL cV 2 h [] vf F) (hG : RdL cV 2 h [] vg G) (hk : F.map Prod.fst = G.map Prod.fst) (hnd : (F.map Prod.fst).Nodup) (hn : F.length ≤ 1000000) (hI : ∀ p ∈ F, Bq p.1) (bF : ∀ p ∈ F, -2000000000 ≤ p.2 ∧ p.2 ≤ 2000000000) (bG : ∀ p ∈ G, -2000000000 ≤ p.2 ∧ p.2 ≤ 2000000000) : FnT Tryz.prog 8 #[vf, vg] h [] (fun r _ _ => r = .tuple #[.int .i64 (EZ F G F.length), .bool true]) := by
 have o1 := hF.rd.one
 have o2 := hG.rd.one
 have hlen : G.length = F.length := by have := congrArg List.length hk; simpa using this.symm
 have hkey : ∀ i (hi : i < F.length) (hi' : i < G.length), F[i].1 = G[i].1 := fun i hi hi' => by
  have := congrArg (fun l => l[i]?) hk
  simpa [hi, hi'] using this
 refine Av func8 ntmps8 rfl rfl (fun w0 hw0 => ?_)
 simp only [A5]
 refine Az (Qm rfl (Qm rfl (BG (Cd (K := kN) (V := kN) (Ok := Bq) rfl rfl rfl rfl (fun gA mA hA0 => Qm rfl (An ?_))))))
 refine AV (fun sl h' ms' => ∃ (mA : Hp) (bs : List Nat), sl = [(0, vf), (1, vg), (6, .map (some gA))] ∧ h.le h' ∧ ms' = [mA] ∧ BK kN kN gA Bq mA (BE F) bs) ?_ (fun s h ms hI => ?_)
 ·refine Ac (Ab (Qm rfl (Qx (AC hF.rd.any rfl underlying31 rfl) rfl (Qm rfl (An (Ah ?_))))))
  refine AD (fun q sl h' ms' => ∃ (i : Nat) (mA : Hp) (bs : List Nat), q = F.length - i ∧ sl = [(0, vf), (1, vg), (6, .map (some gA)), (15, vf), (16, .int .i64 F.length), (17, .int .i64 i)] ∧ h.le h' ∧ ms' = [mA] ∧ i ≤ F.length ∧ BK kN kN gA Bq mA (BE (F.take i)) bs)
   (F.length - 0) _ ⟨0, mA, [], rfl, rfl, Hp.le_refl _, rfl, by omega, hA0⟩ Qs ?_
  rintro q sl h2 ms' ⟨i, mA, bs, rfl, rfl, l2, rfl, hi, hO⟩
  have hF := hF.up l2
  refine Az (Qm rfl (An (Ac ?_)))
  refine Ax rfl (fun hlt => ?_) (fun hlt => ?_)
  ·have hil : i < F.length := by omega
   obtain ⟨p, hp⟩ : ∃ p, F[i] = p := ⟨_, rfl⟩
   have hpI : Bq p.1 := hI p (by rw [← hp]; exact List.getElem_mem hil)
   have hsx : ∀ ms, Seg h2 ms ((AI vf).add (i * 2)) (cV p) := fun ms => by rw [← hp]; exact (hF.any (ms := ms)).seg hil
   have hs := Em (F.take i) p
   rw [← hp, ← List.take_succ_eq_append_getElem hil, hp] at hs
   refine Ai (Ad (Ac (Ah (Az (Qx (Af (i) hF.rd.any rfl underlying31 Fx rfl rfl (by omega) (by omega)) rfl (Qx (oG rfl underlying61 Fx (hsx _)) rfl (C4 [.int .i64 0, .int .i64 0] rfl Fx rfl rfl (fun g8 => ?_))))))))
   refine Sa 0 [_, _] Fx rfl (by simp [Value.oneCell']) ?_
   refine An (AA fun h3 l3 hS8 => ?_)
   have e0 : ∀ ms, Cell h3 ms (⟨g8, 0, none⟩ : Addr) (.int .i64 p.1) := fun ms => Seg.all hS8 0 _ rfl ms
   have e1 : ∀ ms, Cell h3 ms (⟨g8, 1, none⟩ : Addr) (.int .i64 p.2) := fun ms => Seg.all hS8 1 _ rfl ms
   refine Ab (Qm rfl (Qf FI rfl (Ql rfl underlying3 (e0 _) (Qf Pt rfl (Ql rfl underlying3 (e1 _) (Bp (V := kN) (z := undef) 0 p.1 p.2 Ba hO rfl rfl underlying66 rfl rfl rfl hpI rfl rfl (fun mA' bs' hO' => ?_)))))))
   rw [← hs] at hO'
   refine Ak (Aj (Ad (Ab (Qx (oA rfl) rfl (Qm rfl (Ak ?_))))))
   exact Am (F.length - (i + 1)) _ (by omega) ⟨i + 1, mA', bs', rfl, rfl, Hp.le_trans l2 l3, rfl, by omega, hO'⟩ Qs
  ·obtain rfl : i = F.length := by omega
   rw [List.take_length] at hO
   refine Aw (Aa (Aa (Ag ?_)))
   exact Ay _ ⟨mA, bs, rfl, l2, rfl, hO⟩ Qs
 ·obtain ⟨mA, bs, rfl, l1, rfl, hO⟩ := hI
  have hF := hF.up l1
  have hG := hG.up l1
  refine Ac (Az (Qm rfl ?_))
  refine Qx (Pw hO (by simp) rfl underlying66 rfl) rfl ?_
  rw [Un F hnd]
  refine Qm rfl (Qx (AC hF.rd.any rfl underlying31 rfl) rfl (Qm rfl (Qm rfl (AQ (t := 32) rfl (fun hs => absurd hs (fun h => h rfl)) (fun hs => Qg (Au rfl rfl) rfl (Qg (AC hF.rd.any rfl underlying31 rfl) rfl (Qg (Au rfl rfl) rfl (Qg (AC hG.rd.any rfl underlying31 rfl) rfl (Qg (DP rfl rfl rfl) rfl (Qm rfl (An (Ax rfl (fun hc => absurd hc (fun h => h (by omega))) (fun hc => Ai (Ad (Az (Qm rfl (An (Ac (Az (Qm rfl (Qx (AC hG.rd.any rfl underlying31 rfl) rfl (Qm rfl (An (Ah ?_))))))))))))))))))))))))
  refine AD (fun q sl h' ms' => ∃ (i : Nat) (T : List (Int × Int)) (mA : Hp) (bs : List Nat), q = G.length - i ∧ sl = [(6, .map (some gA)), (9, .int .i64 (EZ F G i)), (39, vg), (40, .int .i64 G.length), (41, .int .i64 i)] ∧ h.le h' ∧ ms' = [mA] ∧ i ≤ G.length ∧ BK kN kN gA Bq mA T bs ∧ ∀ j (hj : j < F.length), i ≤ j → AZ T F[j].1 = some F[j].2)
   (G.length - 0) _ ⟨0, BE F, mA, bs, rfl, rfl, Hp.le_refl _, rfl, by omega, hO, fun j hj _ => SV hnd (List.getElem_mem hj)⟩ Qs ?_
  rintro q sl h2 ms' ⟨i, T, mA, bs, rfl, rfl, l2, rfl, hi, hO, hT⟩
  have hG := hG.up l2
  refine Az (Qm rfl (An (Ac ?_)))
  refine Ax rfl (fun hlt => ?_) (fun hlt => ?_)
  ·have hil : i < G.length := by omega
   have hif : i < F.length := by omega
   obtain ⟨p, hp⟩ : ∃ p, G[i] = p := ⟨_, rfl⟩
   obtain ⟨f, hf⟩ : ∃ f, F[i] = f := ⟨_, rfl⟩
   have hfp : f.1 = p.1 := by rw [← hf, ← hp]; exact hkey i hif hil
   have hpI : Bq p.1 := by rw [← hfp]; exact hI f (by rw [← hf]; exact List.getElem_mem hif)
   have hb1 := bF f (by rw [← hf]; exact List.getElem_mem hif)
   have hb2 := bG p (by rw [← hp]; exact List.getElem_mem hil)
   have hgF : F.getD i (0, 0) = f := by simp [List.getD, hif, hf]
   have hgG : G.getD i (0, 0) = p := by simp [List.getD, hil, hp]
   have hg := hT i hif (Nat.le_refl _)
   rw [hf, hfp] at hg
   have hmb := H3 F G bF bG i
   have hnext := Hn F G i
   rw [hgF, hgG] at hnext
   have hsx : ∀ ms, Seg h2 ms ((AI vg).add (i * 2)) (cV p) := fun ms => by rw [← hp]; exact (hG.any (ms := ms)).seg hil
   refine Ai (Ad (Ac (Ah (Az (Qx (Af (i) hG.rd.any rfl underlying31 Fx rfl rfl (by omega) (by omega)) rfl (Qx (oG rfl underlying61 Fx (hsx _)) rfl (C4 [.int .i64 0, .int .i64 0] rfl Fx rfl rfl (fun g11 => ?_))))))))
   refine Sa 0 [_, _] Fx rfl (by simp [Value.oneCell']) ?_
   refine An (AA fun h3 l3 hS11 => ?_)
   have e0 : ∀ ms, Cell h3 ms (⟨g11, 0, none⟩ : Addr) (.int .i64 p.1) := fun ms => Seg.all hS11 0 _ rfl ms
   have e1 : ∀ ms, Cell h3 ms (⟨g11, 1, none⟩ : Addr) (.int .i64 p.2) := fun ms => Seg.all hS11 1 _ rfl ms
   refine Az (Qm rfl (Qf FI rfl (Ql rfl underlying3 (e0 _) ?_)))
   refine Qx (Nn (V := kN) (z := (0 : Int)) p.1 Ba hO (by simp) rfl underlying66 GP rfl rfl hpI) rfl ?_
   rw [hg, show (some f.2).getD 0 = f.2 from rfl]
   refine Qm rfl (Qm rfl (Qm rfl (Qm rfl (Qm rfl (An (Ac (Az (Qm rfl (Qm rfl (An (AO rfl (Ai (Ad (Az (Qm rfl (Qf FI rfl (Ql rfl underlying3 (e0 _) (L3 (V := kN) 0 p.1 Ba hO rfl rfl underlying66 rfl rfl hpI rfl rfl (fun mA' bs' hO' => GZ (Qm rfl (Qm rfl (Qf Pt rfl (Ql rfl underlying3 (e1 _) (Qx (oS rfl) rfl (Qx (AG rfl call25 rfl (WK _ (by omega) _ _)) rfl (Qx (Ho rfl rfl rfl) rfl (Qm rfl (Ak (Aj (Ad (Ab (Qx (oA rfl) rfl (Qm rfl (Ak ?_))))))))))))))))))))))))))))))))))
   exact Am (G.length - (i + 1)) _ (by omega) ⟨i + 1, _, mA', bs', rfl, by rw [hnext], Hp.le_trans l2 l3, rfl, by omega, hO', fun j hj hij => by
    rw [Rv, if_neg, hT j hj (by omega)]
    intro e
    have h1 := hkey i hif hil
    rw [hp, ← e] at h1
    have h2 := List.pairwise_iff_getElem.1 hnd i j (by simpa using hif) (by simpa using hj) (by omega)
    simp only [List.getElem_map] at h2
    exact h2 h1⟩ Qs
  ·obtain rfl : i = G.length := by omega
   refine Aw (Aa (Aa (Ag (Ad (Az (Qm rfl (Qm rfl (Qm rfl (An (Aq ?_))))))))))
   exact BH rfl rfl rfl (by rw [hlen])
end Go.Proofs.YtodheebhahdepaaGreat
namespace Go.Proofs.YtodheebhahdepaaGreat
open Go.Eng Go.RowKit Go.Lin
variable {o : List Cl} {j i : Nat}
def sgn (sd : List (Int × Int)) (c : Int) : Int := (sd.map fun s => if s.1 = c then s.2 else 0).sum
theorem LN (c : Int) : sgn [] c = 0 := rfl
theorem KA (s : Int × Int) (sd : List (Int × Int)) (c : Int) : sgn (s :: sd) c = (if s.1 = c then s.2 else 0) + sgn sd c := by unfold sgn; rw [List.map_cons, List.sum_cons]
theorem Uh (s : Int × Int) (sd : List (Int × Int)) (c : Int) : sgn (sd ++ [s]) c = sgn sd c + if s.1 = c then s.2 else 0 := by unfold sgn; simp
theorem Ko {c : Int} : ∀ {sd : List (Int × Int)}, (∀ s ∈ sd, s.1 ≠ c) → sgn sd c = 0
 | [], _ => rfl
 | s :: sd, h => by rw [KA, if_neg (h s (List.Mem.head _)), Ko fun s hs => h s (List.Mem.tail _ hs)]; rfl
theorem Tx {c : Int} {sd : List (Int × Int)} (h : sgn sd c ≠ 0) : ∃ s ∈ sd, s.1 = c := Classical.byContradiction fun q => h (Ko fun s hs e => q ⟨s, hs, e⟩)
def DM (o : List Cl) (i j : Nat) : Int := sgn (o.getD j default).sd (o.getD i default).id
def Q8 (o : List Cl) (c : Int) : Nat := (o.map Cl.id).idxOf c
theorem Js {y : Cl} (hy : y ∈ o) (hn : (o.map Cl.id).Nodup) : Q8 o y.id < o.length ∧ o.getD (Q8 o y.id) default = y := by
 have hm : y.id ∈ o.map Cl.id := List.mem_map.2 ⟨y, hy, rfl⟩
 have hlt := List.idxOf_lt_length_of_mem hm
 have h1 : Q8 o y.id < o.length := by unfold Q8; simpa using hlt
 refine ⟨h1, ?_⟩
 rw [show o.getD (Q8 o y.id) default = o[Q8 o y.id] by simp [List.getD, h1]]
 have h2 : (o[Q8 o y.id]).id = y.id := by
  have := List.getElem_idxOf hlt
  rw [List.getElem_map] at this
  exact this
 have h3 := CM hn (List.getElem_mem h1)
 rw [h2, CM hn hy] at h3
 exact h3.symm
theorem OE (hn : (o.map Cl.id).Nodup) (hi : i < o.length) (hj : j < o.length) (h : (o.getD i default).id = (o.getD j default).id) : i = j := by
 rw [show o.getD i default = o[i] by simp [List.getD, hi], show o.getD j default = o[j] by simp [List.getD, hj]] at h
 have hp := List.pairwise_iff_getElem.1 hn
 rcases Nat.lt_trichotomy i j with h1 | h1 | h1
 ·have := hp i j (by simpa using hi) (by simpa using hj) h1
  simp only [List.getElem_map] at this
  exact absurd h this
 ·exact h1
 ·have := hp j i (by simpa using hj) (by simpa using hi) h1
  simp only [List.getElem_map] at this
  exact absurd h.symm this
theorem Ue (hn : (o.map Cl.id).Nodup) (g : Nat → Int) : ∀ sd : List (Int × Int), (∀ s ∈ sd, ∃ y ∈ o, y.id = s.1) → sm o.length (fun k => g k * sgn sd (o.getD k default).id) = (sd.map fun s => s.2 * g (Q8 o s.1)).sum
 | [], _ => by rw [List.map_nil]; exact Ij fun i _ => by rw [LN, Int.mul_zero]
 | s :: sd, h => by
  obtain ⟨y, hy, e⟩ := h s (List.Mem.head _)
  obtain ⟨h1, h2⟩ := Js hy hn
  rw [e] at h1 h2
  rw [List.map_cons, List.sum_cons, ← Ue hn g sd fun s hs => h s (List.Mem.tail _ hs), A9 (g := fun k => g k * (if s.1 = (o.getD k default).id then s.2 else 0) + g k * sgn sd (o.getD k default).id) fun k _ => by rw [KA, Int.mul_add], L5]
  congr 1
  rw [LZ o.length (Q8 o s.1) _ h1 fun k hk hne => ?_]
  ·rw [h2, if_pos e.symm, Int.mul_comm]
  ·rw [if_neg, Int.mul_zero]
   intro e2
   refine hne (OE hn hk h1 ?_)
   rw [h2, e, e2]
theorem Kb (L : Int → List (Int × Int)) (c : Int) : ∀ s : List (Int × Int), Dy (KF L s) c = (s.map fun a => a.2 * sgn (L a.1) c).sum
 | [] => rfl
 | a :: s => by
  have ih := Kb L c s
  unfold Dy KF at *
  rw [List.flatMap_cons, List.map_append, List.sum_append, ih, List.map_cons, List.sum_cons]
  congr 1
  have : ∀ l : List (Int × Int), ((l.map fun r => (a.1, r.1, a.2 * r.2)).map fun (e : Int × Int × Int) => if e.2.1 = c then e.2.2 else 0).sum = a.2 * sgn l c := fun l => by
   induction l with
   | nil => simp [sgn]
   | cons r l ih =>
    rw [List.map_cons, List.map_cons, List.sum_cons, ih, KA, Int.mul_add]
    congr 1
    show (if r.1 = c then a.2 * r.2 else 0) = _
    split
    ·rfl
    ·rw [Int.mul_zero]
  exact this _
theorem M4 {α : Type} {h : α → Int} : ∀ {l : List α}, (∀ s ∈ l, h s = 0) → (l.map h).sum = 0
 | [], _ => rfl
 | a :: l, hl => by rw [List.map_cons, List.sum_cons, hl a (List.Mem.head _), M4 fun s hs => hl s (List.Mem.tail _ hs)]; rfl
theorem Fl (hj : j < o.length) : o.getD j default ∈ o := by
 rw [show o.getD j default = o[j] by simp [List.getD, hj]]; exact List.getElem_mem hj
theorem YG (R : Rgt o) (hj : j < o.length) : Dc o.length (DM o) (fun k => DM o k j) i = 0 := by
 obtain ⟨x, hx⟩ : ∃ x, o.getD j default = x := ⟨_, rfl⟩
 have hxm : x ∈ o := by rw [← hx]; exact Fl hj
 obtain ⟨c, hc⟩ : ∃ c, (o.getD i default).id = c := ⟨_, rfl⟩
 have hs : ∀ s ∈ x.sd, ∃ y ∈ o, y.id = s.1 := fun s hs => by
  obtain ⟨y, hy, e, _⟩ := R.sid x hxm s hs
  exact ⟨y, hy, e⟩
 have e1 : Dc o.length (DM o) (fun k => DM o k j) i = (x.sd.map fun s => s.2 * DM o i (Q8 o s.1)).sum := by
  rw [← Ue R.nd (fun k => DM o i k) x.sd hs]
  unfold Dc
  exact A9 fun k _ => by unfold DM; rw [hx]
 have e2 : (x.sd.map fun s => s.2 * DM o i (Q8 o s.1)).sum = Dy (FV o x) c := by
  unfold FV
  rw [Kb]
  congr 1
  refine List.map_congr_left fun s hs' => ?_
  obtain ⟨y, hy, e⟩ := hs s hs'
  obtain ⟨h1, h2⟩ := Js hy R.nd
  unfold DM
  rw [hc, ← e, h2, CM R.nd hy]
 rw [e1, e2]
 have hd := R.dim x hxm
 rcases (by omega : 2 ≤ x.dim ∨ x.dim = 1 ∨ x.dim = 0) with h | h | h
 ·by_cases he : ∃ e ∈ FV o x, e.2.1 = c
  ·obtain ⟨e, he, rfl⟩ := he
   exact (R.tab x hxm h).sum e he
  ·exact (K3 fun e he' q => he ⟨e, he', q⟩).1
 ·unfold FV
  rw [Kb]
  have : ∀ s ∈ x.sd, s.2 * sgn (Gu o s.1).sd c = 0 := fun s hs' => by
   obtain ⟨y, hy, e, hyd⟩ := R.sid x hxm s hs'
   rw [← e, CM R.nd hy]
   have hnum := R.num y hy
   unfold BD at hnum
   have : y.sd = [] := List.length_eq_zero_iff.1 (by omega)
   rw [this, LN, Int.mul_zero]
  exact M4 this
 ·have hnum := R.num x hxm
  unfold BD at hnum
  have : x.sd = [] := List.length_eq_zero_iff.1 (by omega)
  unfold FV
  rw [this]; rfl
theorem Xc (R : Rgt o) (hi : i < o.length) (hj : j < o.length) (h : DM o i j ≠ 0) : (o.getD j default).dim = (o.getD i default).dim + 1 := by
 obtain ⟨s, hs, e⟩ := Tx h
 obtain ⟨y, hy, e1, e2⟩ := R.sid _ (Fl hj) s hs
 obtain ⟨h1, h2⟩ := Js hy R.nd
 have h3 : Q8 o y.id = i := OE R.nd h1 hi (by rw [h2, e1, e])
 rw [← h3, h2, e2]; omega
end Go.Proofs.YtodheebhahdepaaGreat
namespace Go.Proofs.YtodheebhahdepaaGreat
open Go.Eng Go.RowKit Go.Lin
variable {i j : Nat}
def G1 (S : List Ce) (i : Nat) : Cl := (S.getD i default).c
theorem FN {S : List Ce} (h : i < S.length) : G1 S i = S[i].c := by unfold G1; simp [List.getD, h]
structure PerH (p : Int) (F : List (Int × Int)) (l S : List Ce) (R V : Nat → List Int) : Prop where
 P : PersF p F l S R V
 hp : IsP p
 G : Rgt (l.map Ce.c)
 mon : ∀ x ∈ l.map Ce.c, ∀ s ∈ x.sd, D5 (BE F) s.1 ≤ D5 (BE F) x.id
section
variable {p : Int} {F : List (Int × Int)} {l S : List Ce} {R V : Nat → List Int}
theorem PerH.nd (H : PerH p F l S R V) : (S.map fun a => a.c.id).Nodup := by
 have := (H.P.perm.map Cl.id).nodup_iff.2 H.G.nd
 rwa [List.map_map] at this
theorem PerH.mem (H : PerH p F l S R V) (h : i < S.length) : G1 S i ∈ l.map Ce.c := by
 rw [FN h]; exact H.P.perm.mem_iff.1 (List.mem_map.2 ⟨_, List.getElem_mem h, rfl⟩)
theorem PerH.inj (H : PerH p F l S R V) (hi : i < S.length) (hj : j < S.length) (h : (G1 S i).id = (G1 S j).id) : i = j := by
 rw [FN hi, FN hj] at h
 have hp := List.pairwise_iff_getElem.1 H.nd
 rcases Nat.lt_trichotomy i j with h1 | h1 | h1
 ·have := hp i j (by simpa using hi) (by simpa using hj) h1
  simp only [List.getElem_map] at this
  exact absurd h this
 ·exact h1
 ·have := hp j i (by simpa using hj) (by simpa using hi) h1
  simp only [List.getElem_map] at this
  exact absurd h.symm this
theorem PerH.place (H : PerH p F l S R V) {y : Cl} (hy : y ∈ l.map Ce.c) : ∃ m, m < S.length ∧ G1 S m = y := by
 obtain ⟨a, ha, rfl⟩ := List.mem_map.1 (H.P.perm.mem_iff.2 hy)
 obtain ⟨m, hm, rfl⟩ := List.getElem_of_mem ha
 exact ⟨m, hm, FN hm⟩
theorem PerH.before (H : PerH p F l S R V) (hj : j < S.length) {s : Int × Int} (hs : s ∈ (G1 S j).sd) : ∃ m, m < j ∧ (G1 S m).id = s.1 ∧ (G1 S m).dim = (G1 S j).dim - 1 := by
 obtain ⟨y, hy, e1, e2⟩ := H.G.sid _ (H.mem hj) s hs
 obtain ⟨m, hm, rfl⟩ := H.place hy
 refine ⟨m, ?_, e1, e2⟩
 have hf := H.mon _ (H.mem hj) s hs
 rw [← e1] at hf
 refine Classical.byContradiction fun hn => ?_
 rcases (by omega : m = j ∨ j < m) with rfl | h
 ·omega
 ·have := List.pairwise_iff_getElem.1 H.P.srt j m hj hm h
  rw [← FN hj, ← FN hm] at this
  omega
def EM (S : List Ce) (i k : Nat) : Int := sgn (G1 S k).sd (G1 S i).id
theorem PI (H : PerH p F l S R V) (hj : j < S.length) (hi : i < S.length) : ∀ k, k ≤ (G1 S j).sd.length → Cg p ((Ey p S j k).getD i 0) (sgn ((G1 S j).sd.take k) (G1 S i).id)
 | 0, _ => by
  have : (Ey p S j 0).getD i 0 = 0 := by unfold Ey; simp [List.getD, hi]
  rw [this, List.take_zero, LN]; exact Cg.refl _ _
 | k + 1, hk => by
  have ih := PI H hj hi k (by omega)
  have hkl : k < (S.getD j default).c.sd.length := by unfold G1 at hk; omega
  have hkl' : k < (G1 S j).sd.length := hkl
  obtain ⟨s, hs⟩ : ∃ s, (G1 S j).sd[k] = s := ⟨_, rfl⟩
  have hs' : (S.getD j default).c.sd[k] = s := hs
  have hcs : Ey p S j (k + 1) = (Ey p S j k).set (pl S (j + 1) s.1) ((s.2 + p) % p) := by
   rw [← hs']; exact KV hkl
  rw [hcs, List.take_succ_eq_append_getElem hkl', Uh, hs]
  have hsm : s ∈ (G1 S j).sd := by rw [← hs]; exact List.getElem_mem hkl'
  obtain ⟨m, hm, e1, e2⟩ := H.before hj hsm
  have hpl : pl S (j + 1) s.1 = m := by
   rw [← e1]
   exact Wg H.nd (by omega) (by omega)
  rw [hpl]
  have hpp : 0 < p := by have := H.hp.1; omega
  by_cases him : i = m
  ·subst him
   have hz : sgn ((G1 S j).sd.take k) (G1 S i).id = 0 := Ko fun s' hs2 e => by
    have h1 := List.pairwise_iff_getElem.1 (H.G.sds _ (H.mem hj))
    obtain ⟨t, ht, rfl⟩ := List.getElem_of_mem hs2
    rw [List.length_take] at ht
    have := h1 t k (by simp; omega) (by simpa using hkl') (by omega)
    rw [List.getElem_map, List.getElem_map, hs] at this
    rw [List.getElem_take] at e
    exact this (e.trans e1)
   have hlt : i < (Ey p S j k).length := by rw [Fh]; exact hi
   rw [hz, if_pos e1.symm]
   have hv : ((Ey p S j k).set i ((s.2 + p) % p)).getD i 0 = (s.2 + p) % p := by simp [List.getD, hlt]
   rw [hv, Int.zero_add]
   have h5 := (Cg.mod p (s.2 + p)).trans ((Cg.refl p s.2).add (Cg.self p))
   rwa [Int.add_zero] at h5
  ·have hne : s.1 ≠ (G1 S i).id := fun e => him (H.inj hi (by omega) (by rw [e1, e]))
   rw [if_neg hne, Int.add_zero]
   have hv : ((Ey p S j k).set m ((s.2 + p) % p)).getD i 0 = (Ey p S j k).getD i 0 := by
    simp [List.getD, List.getElem?_set_ne (Ne.symm him)]
   rw [hv]; exact ih
theorem QE (H : PerH p F l S R V) (hj : j < S.length) (hi : i < S.length) : Cg p ((Jc p S j).getD i 0) (EM S i j) := by
 have := PI H hj hi (G1 S j).sd.length (Nat.le_refl _)
 rw [List.take_length] at this
 exact this
end
end Go.Proofs.YtodheebhahdepaaGreat
namespace Go.Proofs.YtodheebhahdepaaGreat
open Go.Eng Go.RowKit Go.Lin
variable {i k j : Nat} {o o' : List Cl}
section
variable {p : Int} {F : List (Int × Int)} {l S : List Ce} {R V : Nat → List Int}
structure ColI (p : Int) (S : List Ce) (k : Nat) (r v : List Int) : Prop where
 rl : r.length = S.length
 vl : v.length = S.length
 eq : ∀ i, i < S.length → Cg p (r.getD i 0) (Dc S.length (EM S) (fun m => v.getD m 0) i)
 one : v.getD k 0 = 1
 aft : ∀ i, k < i → v.getD i 0 = 0
 vd : ∀ i, i < S.length → v.getD i 0 ≠ 0 → (G1 S i).dim = (G1 S k).dim
 rd : ∀ i, i < S.length → r.getD i 0 ≠ 0 → (G1 S k).dim = (G1 S i).dim + 1
theorem Gm {n : Nat} (hk : k < n) (i : Nat) : (Es n k).getD i 0 = if i = k then 1 else 0 := by
 unfold Es
 by_cases e : i = k
 ·subst e; simp [List.getD, hk]
 ·rw [if_neg e]
  simp only [List.getD]
  rw [List.getElem?_set_ne (Ne.symm e)]
  by_cases h : i < n
  ·simp [h]
  ·simp [List.getElem?_eq_none (show (List.replicate n (0 : Int)).length ≤ i by simp; omega)]
theorem PerH.col0 (H : PerH p F l S R V) (hk : k < S.length) : ColI p S k (Jc p S k) (Es S.length k) := by
 have hp := H.hp.1
 refine ⟨Fh _ _ _ _, Lb _ _, fun i hi => ?_, ?_, fun i hi => ?_, fun i hi h => ?_, fun i hi h => ?_⟩
 ·refine (QE H hk hi).trans (Cg.of_eq ?_)
  unfold Dc
  rw [LZ S.length k _ hk fun m hm hne => by show EM S i m * (Es S.length k).getD m 0 = 0; rw [Gm hk, if_neg hne, Int.mul_zero]]
  show EM S i k = EM S i k * (Es S.length k).getD k 0
  rw [Gm hk, if_pos rfl, Int.mul_one]
 ·rw [Gm hk, if_pos rfl]
 ·rw [Gm hk, if_neg (by omega)]
 ·rw [Gm hk] at h
  split at h
  ·rename_i e; rw [e]
  ·exact absurd rfl h
 ·have hE : EM S i k ≠ 0 := fun e => h (by
   have h1 := QE H hk hi
   rw [e] at h1
   exact h1.eq (HP (by omega) (MN (by omega) S k _) i) ⟨by omega, by omega⟩)
  obtain ⟨s, hs, e⟩ := Tx hE
  obtain ⟨m, hm, e1, e2⟩ := H.before hk hs
  have : m = i := H.inj (by omega) hi (by rw [e1, e])
  subst this
  omega
theorem VC (n : Nat) (D : Nat → Nat → Int) (x y : Nat → Int) (c : Int) (i : Nat) : Dc n D (fun k => x k + c * y k) i = Dc n D x i + c * Dc n D y i := by
 unfold Dc
 rw [← EA, ← L5]
 exact A9 fun k _ => by rw [Int.mul_add, ← Int.mul_assoc, ← Int.mul_assoc, Int.mul_comm c]
theorem ColI.step {k' i0 : Nat} {t : Int} {r v r' v' : List Int} (hp : 2 ≤ p) (C : ColI p S k r v) (C' : ColI p S k' r' v') (hk : k' < k) (hi0 : i0 < S.length) (h1 : r.getD i0 0 ≠ 0) (h2 : r'.getD i0 0 ≠ 0) : ColI p S k (Fb p r r' t) (Fb p v v' t) := by
 have lr : r.length = r'.length := C.rl.trans C'.rl.symm
 have lv : v.length = v'.length := C.vl.trans C'.vl.symm
 have hd : (G1 S k').dim = (G1 S k).dim := by
  have := C.rd i0 hi0 h1
  have := C'.rd i0 hi0 h2
  omega
 refine ⟨by rw [EI lr, C.rl], by rw [EI lv, C.vl], fun i hi => ?_, ?_, fun i hi => ?_, fun i hi h => ?_, fun i hi h => ?_⟩
 ·rw [DS lr]
  refine (Cg.mod p _).trans (((C.eq i hi).add ((Cg.refl p t).mul (C'.eq i hi))).trans ?_)
  rw [← VC]
  exact Mi (fun m _ => by rw [DS lv]; exact (Cg.mod p _).symm) i
 ·rw [DS lv, C.one, C'.aft k hk, Int.mul_zero, Int.add_zero]
  exact Int.emod_eq_of_lt (by omega) (by omega)
 ·rw [DS lv, C.aft i hi, C'.aft i (by omega), Int.mul_zero, Int.add_zero]; rfl
 ·rw [DS lv] at h
  by_cases e : v.getD i 0 = 0
  ·by_cases e' : v'.getD i 0 = 0
   ·rw [e, e', Int.mul_zero] at h; exact absurd rfl h
   ·rw [C'.vd i hi e', hd]
  ·exact C.vd i hi e
 ·rw [DS lr] at h
  by_cases e : r.getD i 0 = 0
  ·by_cases e' : r'.getD i 0 = 0
   ·rw [e, e', Int.mul_zero] at h; exact absurd rfl h
   ·rw [← hd]; exact C'.rd i hi e'
  ·exact C.rd i hi e
theorem PerH.ops (H : PerH p F l S R V) (ih : ∀ k', k' < k → ColI p S k' (R k') (V k')) {r0 v0 r v : List Int} (C : ColI p S k r0 v0) (h : Ops p S.length k R V r0 v0 r v) : ColI p S k r v := by
 induction h with
 | refl => exact C
 | step h hk hi h0 h1 h2 h3 ih' => exact ih'.step H.hp.1 (ih _ hk) hk hi h2 h3
theorem PerH.col (H : PerH p F l S R V) : ∀ k, k < S.length → ColI p S k (R k) (V k) := fun k => by
 induction k using Nat.strongRecOn with
 | ind k ih =>
  intro hk
  obtain ⟨la, A⟩ := H.P.all
  exact H.ops (fun k' hk' => ih k' hk' (by omega)) (H.col0 hk) (A.ops k hk)
end
def tr (o o' : List Cl) (i : Nat) : Nat := Q8 o' (o.getD i default).id
theorem K5 (h : o.Perm o') (hn : (o.map Cl.id).Nodup) (hi : i < o.length) : tr o o' i < o.length ∧ o'.getD (tr o o' i) default = o.getD i default := by
 have := Js (h.mem_iff.1 (Fl hi)) ((h.map Cl.id).nodup_iff.1 hn)
 exact ⟨by rw [h.length_eq]; exact this.1, this.2⟩
theorem GU (h : o.Perm o') (hn : (o.map Cl.id).Nodup) (hi : i < o.length) : tr o' o (tr o o' i) = i := by
 obtain ⟨h1, h2⟩ := K5 h hn hi
 have hn' := (h.map Cl.id).nodup_iff.1 hn
 obtain ⟨h3, h4⟩ := K5 h.symm hn' (i := tr o o' i) (by rw [← h.length_eq]; exact h1)
 exact OE hn (by rw [h.length_eq]; exact h3) hi (by rw [h4, h2])
theorem S9 (h : o.Perm o') (hn : (o.map Cl.id).Nodup) (hi : i < o.length) (hj : j < o.length) (e : tr o o' i = tr o o' j) : i = j := by
 rw [← GU h hn hi, e, GU h hn hj]
theorem XZ {n : Nat} {π ρ : Nat → Nat} (f : Nat → Int) (h1 : ∀ i, i < n → π i < n) (h2 : ∀ i, i < n → ρ i < n) (h3 : ∀ i, i < n → π (ρ i) = i) (h4 : ∀ i, i < n → ρ (π i) = i) : sm n (fun i => f (π i)) = sm n f := by
 rw [A9 (g := fun i => sm n fun m => if m = π i then f m else 0) fun i hi => (Ev n (π i) f (h1 i hi)).symm, FA]
 refine A9 fun m hm => ?_
 rw [LZ n (ρ m) _ (h2 m hm) fun i hi hne => if_neg fun e => hne (by rw [e, h4 i hi]), if_pos (h3 m hm).symm]
theorem Q2 {l : List Int} (h : Bs l < 0) (i : Nat) : l.getD i 0 = 0 := by
 rcases H8 l with ⟨k, hk, e, _⟩ | ⟨e, h1⟩
 ·omega
 ·by_cases hi : i < l.length
  ·rw [show l.getD i 0 = l[i] by simp [List.getD, hi]]; exact h1 i hi
  ·simp [List.getD, List.getElem?_eq_none (show l.length ≤ i by omega)]
def vO (o : List Cl) (S : List Ce) (V : Nat → List Int) (j i : Nat) : Int := (V (tr o (S.map Ce.c) j)).getD (tr o (S.map Ce.c) i) 0
noncomputable def G9 (o : List Cl) (S : List Ce) (R : Nat → List Int) (j : Nat) : Option Nat := if 0 ≤ Bs (R (tr o (S.map Ce.c) j)) then some (tr (S.map Ce.c) o (Bs (R (tr o (S.map Ce.c) j))).toNat) else none
theorem PN {S : List Ce} (h : i < S.length) : (S.map Ce.c).getD i default = G1 S i := by
 rw [FN h]; simp [List.getD, h]
def QV (o : List Cl) (i : Nat) : Int := (o.getD i default).dim
section
variable {p : Int} {F : List (Int × Int)} {l S : List Ce} {R V : Nat → List Int}
theorem PerH.lenS (H : PerH p F l S R V) : S.length = (l.map Ce.c).length := by have := H.P.perm.length_eq; simpa using this
theorem PerH.trS (H : PerH p F l S R V) (hi : i < S.length) : tr (l.map Ce.c) (S.map Ce.c) i < S.length ∧ G1 S (tr (l.map Ce.c) (S.map Ce.c) i) = (l.map Ce.c).getD i default := by
 have h1 := K5 H.P.perm.symm H.G.nd (i := i) (by rw [← H.lenS]; exact hi)
 have h2 : tr (l.map Ce.c) (S.map Ce.c) i < S.length := by rw [H.lenS]; exact h1.1
 exact ⟨h2, by rw [← PN h2]; exact h1.2⟩
theorem PerH.bndS (H : PerH p F l S R V) (hj : j < S.length) (hi : i < S.length) : Dc S.length (DM (l.map Ce.c)) (vO (l.map Ce.c) S V j) i = Dc S.length (EM S) (fun m => (V (tr (l.map Ce.c) (S.map Ce.c) j)).getD m 0) (tr (l.map Ce.c) (S.map Ce.c) i) := by
 have hnS : ((S.map Ce.c).map Cl.id).Nodup := (H.P.perm.map Cl.id).nodup_iff.2 H.G.nd
 unfold Dc
 rw [← XZ (π := tr (l.map Ce.c) (S.map Ce.c)) (ρ := tr (S.map Ce.c) (l.map Ce.c)) (fun m => EM S (tr (l.map Ce.c) (S.map Ce.c) i) m * (V (tr (l.map Ce.c) (S.map Ce.c) j)).getD m 0) (fun k hk => (H.trS hk).1) (fun k hk => ?_) (fun k hk => ?_) (fun k hk => ?_)]
 ·refine A9 fun k hk => ?_
  show DM _ i k * (V _).getD _ 0 = EM S _ _ * _
  congr 1
  unfold DM EM
  rw [(H.trS hk).2, (H.trS hi).2]
 ·have := (K5 H.P.perm hnS (i := k) (by simpa using hk)).1
  simpa using this
 ·exact GU H.P.perm hnS (by simpa using hk)
 ·exact GU H.P.perm.symm H.G.nd (by rw [← H.lenS]; exact hk)
theorem PerH.lowS (H : PerH p F l S R V) (hj : j < S.length) : G9 (l.map Ce.c) S R j = some i ↔ i < S.length ∧ Bs (R (tr (l.map Ce.c) (S.map Ce.c) j)) = tr (l.map Ce.c) (S.map Ce.c) i := by
 have hnS : ((S.map Ce.c).map Cl.id).Nodup := (H.P.perm.map Cl.id).nodup_iff.2 H.G.nd
 have C := H.col _ (H.trS hj).1
 unfold G9
 constructor
 ·intro h
  split at h
  ·rename_i h0
   cases h
   have h1 := (Kw (R (tr (l.map Ce.c) (S.map Ce.c) j))).2
   rw [C.rl] at h1
   have h2 : (Bs (R (tr (l.map Ce.c) (S.map Ce.c) j))).toNat < (S.map Ce.c).length := by rw [List.length_map]; omega
   have h3 := K5 H.P.perm hnS h2
   have h4 := GU H.P.perm hnS h2
   refine ⟨by simpa using h3.1, ?_⟩
   rw [h4, Int.toNat_of_nonneg h0]
  ·cases h
 ·rintro ⟨hi, h⟩
  rw [h, if_pos (by omega), Int.toNat_natCast, GU H.P.perm.symm H.G.nd (by rw [← H.lenS]; exact hi)]
theorem PerH.rdc (H : PerH p F l S R V) : Rdc p S.length (DM (l.map Ce.c)) (QV (l.map Ce.c)) (tr (l.map Ce.c) (S.map Ce.c)) (vO (l.map Ce.c) S V) (G9 (l.map Ce.c) S R) := by
 have hp := H.hp.1
 obtain ⟨la, A⟩ := H.P.all
 have e1 := H.lenS
 have hR : ∀ k, k < S.length → ∀ i, p ∣ (R k).getD i 0 → (R k).getD i 0 = 0 := fun k hk i hd => by
  have := HP (by omega) (A.red.rr k hk) i
  exact (Cg.eq (cgz.2 hd) this ⟨by omega, by omega⟩)
 have hb : ∀ j i, j < S.length → i < S.length → (p ∣ Dc S.length (DM (l.map Ce.c)) (vO (l.map Ce.c) S V j) i ↔ (R (tr (l.map Ce.c) (S.map Ce.c) j)).getD (tr (l.map Ce.c) (S.map Ce.c) i) 0 = 0) := fun j i hj hi => by
  have ht := (H.trS hj).1
  rw [H.bndS hj hi, ← ((H.col _ ht).eq _ (H.trS hi).1).dvd_iff]
  exact ⟨hR _ ht _, fun h => by rw [h]; exact Int.dvd_zero p⟩
 refine ⟨H.hp.fld, fun i j hi hj => ?_, fun i j hi hj h => ?_, fun i j hi hj h => ?_, fun j hj => ?_, fun j i hj hi h => ?_, fun j hj h i hi => ?_, fun j i hj h => ?_, fun j j' i hj hj' h h' => ?_⟩
 ·rw [e1, YG H.G (by omega)]; exact Int.dvd_zero p
 ·exact Xc H.G (by omega) (by omega) fun e => h (by rw [e]; exact Int.dvd_zero p)
 ·exact S9 H.P.perm.symm H.G.nd (by omega) (by omega) h
 ·have C := H.col _ (H.trS hj).1
  refine ⟨hj, fun h => ?_, fun i' hi' h => ?_⟩
  ·unfold vO at h
   rw [C.one] at h
   have := Int.le_of_dvd (by omega) h
   omega
  ·refine Nat.le_of_not_lt fun hlt => h ?_
   unfold vO
   rw [C.aft _ hlt]; exact Int.dvd_zero p
 ·have C := H.col _ (H.trS hj).1
  have := C.vd _ (H.trS hi).1 fun e => h (by unfold vO; rw [e]; exact Int.dvd_zero p)
  rw [(H.trS hi).2, (H.trS hj).2] at this
  exact this
 ·rw [hb j i hj hi]
  refine Q2 ?_ _
  unfold G9 at h
  split at h
  ·cases h
  ·omega
 ·obtain ⟨hi, e⟩ := (H.lowS hj).1 h
  obtain ⟨h1, h2, h3⟩ := Fj e
  refine ⟨hi, fun hd => h2 ((hb j i hj hi).1 hd), fun i' hi' hd => Nat.le_of_not_lt fun hlt => hd ((hb j i' hj hi').2 (h3 _ hlt))⟩
 ·obtain ⟨hi, e⟩ := (H.lowS hj).1 h
  obtain ⟨_, e'⟩ := (H.lowS hj').1 h'
  have a1 := A.red.a1 _ (H.trS hj).1 (by omega)
  have a2 := A.red.a1 _ (H.trS hj').1 (by omega)
  rw [e'] at a2
  rw [e] at a1
  exact S9 H.P.perm.symm H.G.nd (by omega) (by omega) (by omega)
end
end Go.Proofs.YtodheebhahdepaaGreat
namespace Go.Proofs.YtodheebhahdepaaGreat
open Go.Eng Go.RowKit Go.Lin Go.Kuhn
variable {j m i : Nat}
theorem Mz {α β : Type} (P : α → Bool) (g : α → β) : ∀ l : List α, (l.flatMap fun a => if P a then [g a] else []) = (l.filter P).map g
 | [] => rfl
 | a :: l => by
  rw [List.flatMap_cons, Mz P g l, List.filter_cons]
  split <;> simp
theorem GW {α β : Type} {l : List α} {g : α → β} (h : l.Nodup) (hi : ∀ a ∈ l, ∀ b ∈ l, g a = g b → a = b) : (l.map g).Nodup :=
 List.pairwise_map.2 (h.imp_of_mem fun {a b} ha hb hne e => hne (hi a ha b hb e))
theorem Pu {l : List Nat} (h : l.Nodup) (hi : i < l.length) (hj : j < l.length) (e : l.getD i 0 = l.getD j 0) : i = j := by
 rw [show l.getD i 0 = l[i] by simp [List.getD, hi], show l.getD j 0 = l[j] by simp [List.getD, hj]] at e
 have hp := List.pairwise_iff_getElem.1 h
 rcases Nat.lt_trichotomy i j with h1 | h1 | h1
 ·exact absurd e (hp i j hi hj h1)
 ·exact h1
 ·exact absurd e.symm (hp j i hj hi h1)
theorem RO {l : List Nat} (hi : i < l.length) : l.getD i 0 ∈ l := by
 rw [show l.getD i 0 = l[i] by simp [List.getD, hi]]; exact List.getElem_mem hi
def fo (F : List (Int × Int)) (o : List Cl) (i : Nat) : Int := D5 (BE F) (o.getD i default).id
def O6 (f : Int → Int) (S : List Ce) (L : List Int) (d : Int) (m : Nat) : Bool := match AZ (Cy L L.length) (m : Int) with
 | some j => decide (f (S.getD m default).c.id < f (S.getD j.toNat default).c.id ∧ (S.getD m default).c.dim = d)
 | none => false
def jE (L : List Int) (m : Nat) : Nat := ((AZ (Cy L L.length) (m : Int)).getD 0).toNat
def Ul (f : Int → Int) (S : List Ce) (L : List Int) (m : Nat) : Br := ⟨(S.getD m default).c.dim, f (S.getD m default).c.id, f (S.getD (jE L m) default).c.id, false, (S.getD m default).c.id, (S.getD (jE L m) default).c.id⟩
theorem Sw (f : Int → Int) (S : List Ce) (L : List Int) (d : Int) (m : Nat) : (HR f S L m).filter (Br.finIn d) = if O6 f S L d m then [Ul f S L m] else [] := by
 unfold HR O6 Ul jE
 cases AZ (Cy L L.length) (m : Int) with
 | none =>
  generalize (S.getD m default).c = x
  generalize L.getD m 0 = z
  by_cases h1 : z < 0 <;> simp [h1, Br.finIn]
 | some j =>
  simp only [Option.getD_some]
  generalize (S.getD m default).c = x
  generalize (S.getD j.toNat default).c = y
  by_cases h1 : f x.id < f y.id
  ·by_cases h2 : x.dim = d <;> simp [Br.finIn, Br.cnt, h1, h2]
  ·simp [h1]
theorem RZ (f : Int → Int) (S : List Ce) (L : List Int) (d : Int) (n : Nat) : (BZ f S L n).filter (Br.finIn d) = ((List.range n).filter (O6 f S L d)).map (Ul f S L) := by
 unfold BZ
 rw [List.filter_flatMap, ← Mz]
 congr 1
 exact funext fun m => Sw f S L d m
def OO (S : List Ce) (L : List Int) (d : Int) (m : Nat) : Bool := match AZ (Cy L L.length) (m : Int) with
 | some _ => false
 | none => decide (L.getD m 0 < 0 ∧ (S.getD m default).c.dim = d)
theorem Uo (f : Int → Int) (S : List Ce) (L : List Int) (d : Int) (m : Nat) : (HR f S L m).filter (Br.openIn d) = if OO S L d m then [⟨(S.getD m default).c.dim, f (S.getD m default).c.id, 0, true, (S.getD m default).c.id, 0⟩] else [] := by
 unfold HR OO
 cases AZ (Cy L L.length) (m : Int) with
 | none =>
  generalize (S.getD m default).c = x
  generalize L.getD m 0 = z
  by_cases h1 : z < 0 <;> by_cases h2 : x.dim = d <;> simp [h1, h2, Br.openIn]
 | some j =>
  simp only []
  generalize (S.getD m default).c = x
  generalize (S.getD j.toNat default).c = y
  by_cases h1 : f x.id < f y.id <;> simp [h1, Br.openIn]
theorem RW (f : Int → Int) (S : List Ce) (L : List Int) (d : Int) (n : Nat) : ((BZ f S L n).filter (Br.openIn d)).map Br.birth = ((List.range n).filter (OO S L d)).map fun m => f (S.getD m default).c.id := by
 unfold BZ
 rw [List.filter_flatMap, show (fun a => (HR f S L a).filter (Br.openIn d)) = _ from funext fun m => Uo f S L d m, Mz, List.map_map]
 rfl
section
variable {p : Int} {F : List (Int × Int)} {l S : List Ce} {R V : Nat → List Int}
theorem PerH.uniq (H : PerH p F l S R V) {j' : Nat} (hj : j < S.length) (hj' : j' < S.length) (h0 : 0 ≤ Bs (R j)) (e : Bs (R j) = Bs (R j')) : j = j' := by
 obtain ⟨la, A⟩ := H.P.all
 have a1 := A.red.a1 j hj h0
 have a2 := A.red.a1 j' hj' (by omega)
 rw [e] at a1
 omega
theorem PerH.end_some (H : PerH p F l S R V) {x : Int} (h : AZ (Cy (B7 S R) (B7 S R).length) (m : Int) = some x) : ∃ j, j < S.length ∧ x = j ∧ Bs (R j) = m := by
 obtain ⟨j, h1, h2, h3, _⟩ := Fy h
 rw [Kx] at h1
 rw [Ib S R h1] at h3
 exact ⟨j, h1, h2, h3⟩
theorem PerH.end_get (H : PerH p F l S R V) (hj : j < S.length) (e : Bs (R j) = m) : AZ (Cy (B7 S R) (B7 S R).length) (m : Int) = some (j : Int) := by
 cases h : AZ (Cy (B7 S R) (B7 S R).length) (m : Int) with
 | none => exact absurd (by rw [Ib S R hj]; exact e) (G8 h j (by rw [Kx]; exact hj) (by omega))
 | some x =>
  obtain ⟨j', h1, rfl, h3⟩ := H.end_some h
  rw [H.uniq h1 hj (by omega) (by rw [e, h3])]
theorem PerH.inv (H : PerH p F l S R V) (hm : m < S.length) : tr (S.map Ce.c) (l.map Ce.c) m < S.length ∧ (l.map Ce.c).getD (tr (S.map Ce.c) (l.map Ce.c) m) default = (S.getD m default).c ∧ tr (l.map Ce.c) (S.map Ce.c) (tr (S.map Ce.c) (l.map Ce.c) m) = m := by
 have hnS : ((S.map Ce.c).map Cl.id).Nodup := (H.P.perm.map Cl.id).nodup_iff.2 H.G.nd
 have hm' : m < (S.map Ce.c).length := by simpa using hm
 obtain ⟨h1, h2⟩ := K5 H.P.perm hnS hm'
 refine ⟨by simpa using h1, ?_, GU H.P.perm hnS hm'⟩
 rw [h2, PN hm]; rfl
theorem PerH.pair (H : PerH p F l S R V) (hm : m < S.length) (hj : j < S.length) (e : Bs (R j) = m) : G9 (l.map Ce.c) S R (tr (S.map Ce.c) (l.map Ce.c) j) = some (tr (S.map Ce.c) (l.map Ce.c) m) := by
 rw [H.lowS (H.inv hj).1]
 exact ⟨(H.inv hm).1, by rw [(H.inv hj).2.2, (H.inv hm).2.2]; exact e⟩
theorem PerH.lo_dim (H : PerH p F l S R V) (hj : j < S.length) (h : G9 (l.map Ce.c) S R j = some i) : i < S.length ∧ QV (l.map Ce.c) j = QV (l.map Ce.c) i + 1 := by
 obtain ⟨h1, h2, _⟩ := H.rdc.lsome j i hj h
 exact ⟨h1, H.rdc.bdm hj h1 h2⟩
theorem PerH.mono (H : PerH p F l S R V) (i j : Nat) (hi : i < S.length) (hj : j < S.length) (h : tr (l.map Ce.c) (S.map Ce.c) i ≤ tr (l.map Ce.c) (S.map Ce.c) j) : fo F (l.map Ce.c) i ≤ fo F (l.map Ce.c) j := by
 obtain ⟨h1, h2⟩ := H.trS hi
 obtain ⟨h3, h4⟩ := H.trS hj
 unfold fo
 rw [← h2, ← h4, FN h1, FN h3]
 rcases Nat.lt_or_eq_of_le h with h5 | h5
 ·have := List.pairwise_iff_getElem.1 H.P.srt _ _ h1 h3 h5
  omega
 ·simp only [h5]; exact Int.le_refl _
noncomputable def Eh (F : List (Int × Int)) (o : List Cl) (low : Nat → Option Nat) (j : Nat) : Br := ⟨QV o (lo low j), fo F o (lo low j), fo F o j, false, (o.getD (lo low j) default).id, (o.getD j default).id⟩
theorem PerH.fins (H : PerH p F l S R V) (d : Int) : ∃ JB : List Nat, JB.Nodup ∧ (∀ j, j ∈ JB ↔ j < S.length ∧ D4 (QV (l.map Ce.c)) (G9 (l.map Ce.c) S R) (d + 1) j = true ∧ fo F (l.map Ce.c) (lo (G9 (l.map Ce.c) S R) j) < fo F (l.map Ce.c) j) ∧ (BZ (D5 (BE F)) S (B7 S R) S.length).filter (Br.finIn d) = JB.map (Eh F (l.map Ce.c) (G9 (l.map Ce.c) S R)) := by
 rw [RZ]
 obtain ⟨o, ho⟩ : ∃ o, l.map Ce.c = o := ⟨_, rfl⟩
 obtain ⟨low, hlow⟩ : ∃ low, G9 o S R = low := ⟨_, rfl⟩
 obtain ⟨f, hf⟩ : ∃ f, D5 (BE F) = f := ⟨_, rfl⟩
 obtain ⟨inv, hinv⟩ : ∃ inv, tr (S.map Ce.c) o = inv := ⟨_, rfl⟩
 have hfo : ∀ {m}, m < S.length → fo F o (inv m) = f (S.getD m default).c.id := fun {m} hm => by
  unfold fo
  have := (H.inv hm).2.1
  rw [ho, hinv] at this
  rw [this, hf]
 have hdo : ∀ {m}, m < S.length → QV o (inv m) = (S.getD m default).c.dim := fun {m} hm => by
  unfold QV
  have := (H.inv hm).2.1
  rw [ho, hinv] at this
  rw [this]
 have hpair : ∀ {m j}, m < S.length → j < S.length → Bs (R j) = (m : Nat) → low (inv j) = some (inv m) := fun {m j} hm hj e => by
  have := H.pair hm hj e
  rw [ho, hinv, hlow] at this
  exact this
 have hilt : ∀ {m}, m < S.length → inv m < S.length := fun {m} hm => by
  have := (H.inv hm).1
  rw [ho, hinv] at this
  exact this
 have hii : ∀ {m m'}, m < S.length → m' < S.length → inv m = inv m' → m = m' := fun {m m'} hm hm' e => by
  have h1 := (H.inv hm).2.2
  have h2 := (H.inv hm').2.2
  rw [ho, hinv] at h1 h2
  rw [← h1, e, h2]
 have hld : ∀ {j i}, j < S.length → low j = some i → i < S.length ∧ QV o j = QV o i + 1 := fun {j i} hj h => by
  have := H.lo_dim (j := j) (i := i) hj
  rw [ho, hlow] at this
  exact this h
 rw [ho, hlow, hf]
 have hP : ∀ {m}, m ∈ (List.range S.length).filter (O6 f S (B7 S R) d) → ∃ j, m < S.length ∧ j < S.length ∧ Bs (R j) = (m : Nat) ∧ jE (B7 S R) m = j ∧ f (S.getD m default).c.id < f (S.getD j default).c.id ∧ (S.getD m default).c.dim = d := fun {m} hm => by
  obtain ⟨h1, h2⟩ := List.mem_filter.1 hm
  unfold O6 at h2
  split at h2
  ·rename_i x hx
   obtain ⟨j, h3, rfl, h4⟩ := H.end_some hx
   have h2 := of_decide_eq_true h2
   rw [Int.toNat_natCast] at h2
   exact ⟨j, List.mem_range.1 h1, h3, h4, by unfold jE; rw [hx]; rfl, h2.1, h2.2⟩
  ·cases h2
 refine ⟨((List.range S.length).filter (O6 f S (B7 S R) d)).map fun m => inv (jE (B7 S R) m), GW (List.Pairwise.filter _ List.nodup_range) fun a ha b hb e => ?_, fun j => ⟨fun h => ?_, fun ⟨h1, h2, h3⟩ => ?_⟩, ?_⟩
 ·obtain ⟨j, a1, a2, a3, a4, _⟩ := hP ha
  obtain ⟨j', b1, b2, b3, b4, _⟩ := hP hb
  rw [a4, b4] at e
  have := hii a2 b2 e
  subst this
  omega
 ·obtain ⟨m, hm, rfl⟩ := List.mem_map.1 h
  obtain ⟨j, a1, a2, a3, a4, a5, a6⟩ := hP hm
  show inv (jE (B7 S R) m) < _ ∧ _
  have hp := hpair a1 a2 a3
  have hl : lo low (inv j) = inv m := by unfold lo; rw [hp]; rfl
  rw [a4]
  refine ⟨hilt a2, prs_iff.2 ⟨?_, ?_⟩, ?_⟩
  ·rw [(hld (hilt a2) hp).2, hdo a1, a6]
  ·rw [hl]; exact hp
  ·rw [hl, hfo a1, hfo a2]; exact a5
 ·obtain ⟨h4, h5⟩ := prs_iff.1 h2
  obtain ⟨h6, h7⟩ := hld h1 h5
  have t1 := H.lowS h1 (i := lo low j)
  rw [ho, hlow] at t1
  obtain ⟨_, t2⟩ := t1.1 h5
  obtain ⟨c1, c2⟩ := H.trS h1
  obtain ⟨c3, c4⟩ := H.trS h6
  have c5 := GU H.P.perm.symm H.G.nd (i := j) (by rw [← H.lenS]; exact h1)
  have c6 := GU H.P.perm.symm H.G.nd (i := lo low j) (by rw [← H.lenS]; exact h6)
  rw [ho] at c1 c2 c3 c4 c5 c6
  rw [hinv] at c5 c6
  obtain ⟨m, hm⟩ : ∃ m, tr o (S.map Ce.c) (lo low j) = m := ⟨_, rfl⟩
  obtain ⟨k, hk⟩ : ∃ k, tr o (S.map Ce.c) j = k := ⟨_, rfl⟩
  rw [hm] at t2 c3 c4 c6
  rw [hk] at t2 c1 c2 c5
  have hg := H.end_get c1 t2
  have hjE : jE (B7 S R) m = k := by unfold jE; rw [hg]; rfl
  refine List.mem_map.2 ⟨m, List.mem_filter.2 ⟨List.mem_range.2 c3, ?_⟩, by rw [hjE]; exact c5⟩
  unfold O6
  rw [hg]
  simp only [Int.toNat_natCast]
  refine decide_eq_true ⟨?_, ?_⟩
  ·rw [← hfo c3, ← hfo c1, c5, c6]; exact h3
  ·rw [← hdo c3, c6]; omega
 ·rw [List.map_map]
  refine List.map_congr_left fun m hm => ?_
  obtain ⟨j, a1, a2, a3, a4, a5, a6⟩ := hP hm
  have hp := hpair a1 a2 a3
  show Ul f S (B7 S R) m = Eh F o low (inv (jE (B7 S R) m))
  have hl : lo low (inv j) = inv m := by unfold lo; rw [hp]; rfl
  have g1 := (H.inv a1).2.1
  have g2 := (H.inv a2).2.1
  rw [ho, hinv] at g1 g2
  unfold Ul Eh
  rw [a4, hl, hfo a1, hfo a2, hdo a1, g1, g2]
theorem PerH.opens (H : PerH p F l S R V) (d : Int) : ∃ OB : List Nat, OB.Nodup ∧ (∀ i, i ∈ OB ↔ i < S.length ∧ opn S.length (QV (l.map Ce.c)) (G9 (l.map Ce.c) S R) d i) ∧ ((BZ (D5 (BE F)) S (B7 S R) S.length).filter (Br.openIn d)).map Br.birth = OB.map (fo F (l.map Ce.c)) := by
 rw [RW]
 have hP : ∀ {m}, m ∈ (List.range S.length).filter (OO S (B7 S R) d) ↔ m < S.length ∧ (∀ j, j < S.length → Bs (R j) ≠ (m : Nat)) ∧ Bs (R m) < 0 ∧ (S.getD m default).c.dim = d := fun {m} => by
  rw [List.mem_filter, List.mem_range]
  constructor
  ·rintro ⟨h1, h2⟩
   unfold OO at h2
   split at h2
   ·cases h2
   ·rename_i hx
    have h2 := of_decide_eq_true h2
    rw [Ib S R h1] at h2
    refine ⟨h1, fun j hj e => ?_, h2⟩
    have := H.end_get hj e
    rw [this] at hx
    cases hx
  ·rintro ⟨h1, h2, h3, h4⟩
   refine ⟨h1, ?_⟩
   unfold OO
   split
   ·rename_i x hx
    obtain ⟨j, h5, _, h6⟩ := H.end_some hx
    exact absurd h6 (h2 j h5)
   ·rw [Ib S R h1]; exact decide_eq_true ⟨h3, h4⟩
 refine ⟨((List.range S.length).filter (OO S (B7 S R) d)).map (tr (S.map Ce.c) (l.map Ce.c)), GW (List.Pairwise.filter _ List.nodup_range) fun a ha b hb e => ?_, fun i => ⟨fun h => ?_, fun ⟨h1, h2, h3, h4⟩ => ?_⟩, ?_⟩
 ·rw [← (H.inv (hP.1 ha).1).2.2, e, (H.inv (hP.1 hb).1).2.2]
 ·obtain ⟨m, hm, rfl⟩ := List.mem_map.1 h
  obtain ⟨h1, h2, h3, h4⟩ := hP.1 hm
  obtain ⟨g1, g2, g3⟩ := H.inv h1
  refine ⟨g1, ?_, ?_, fun j hj e => ?_⟩
  ·unfold QV; rw [g2, h4]
  ·unfold G9; rw [g3, if_neg (by omega)]
  ·have := ((H.lowS hj).1 e).2
   rw [g3] at this
   exact h2 _ (H.trS hj).1 this
 ·obtain ⟨c1, c2⟩ := H.trS h1
  have c5 := GU H.P.perm.symm H.G.nd (i := i) (by rw [← H.lenS]; exact h1)
  refine List.mem_map.2 ⟨_, hP.2 ⟨c1, fun j hj e => ?_, ?_, ?_⟩, c5⟩
  ·have := H.pair c1 hj e
   rw [c5] at this
   exact h4 _ (H.inv hj).1 this
  ·unfold G9 at h3
   split at h3
   ·cases h3
   ·omega
  ·have : QV (l.map Ce.c) i = d := h2
   unfold QV at this
   rw [← this, ← c2]; rfl
 ·rw [List.map_map]
  refine List.map_congr_left fun m hm => ?_
  show D5 (BE F) (S.getD m default).c.id = fo F (l.map Ce.c) (tr (S.map Ce.c) (l.map Ce.c) m)
  unfold fo
  rw [(H.inv (hP.1 hm).1).2.1]
end
section
variable {p : Int} {F G : List (Int × Int)} {l S S' : List Ce} {R V R' V' : Nat → List Int} {δ : Int}
theorem N6 (H : PerH p F l S R V) (H' : PerH p G l S' R' V') (hd : ∀ i, i < S.length → fo G (l.map Ce.c) i ≤ fo F (l.map Ce.c) i + δ ∧ fo F (l.map Ce.c) i ≤ fo G (l.map Ce.c) i + δ) (d : Int) :
  X9 ((BZ (D5 (BE F)) S (B7 S R) S.length).filter (Br.finIn d)) ((BZ (D5 (BE G)) S' (B7 S' R') S'.length).filter (Br.finIn d)) (2 * δ) := by
 obtain ⟨JB, hJ, hm, e⟩ := H.fins d
 obtain ⟨JB', hJ', hm', e'⟩ := H'.fins d
 rw [e, e']
 have hl : S'.length = S.length := by rw [H'.lenS, H.lenS]
 have Q := H.rdc
 have Q' := H'.rdc
 have mo := H.mono
 have mo' := H'.mono
 rw [hl] at Q' hm' mo'
 obtain ⟨o, ho⟩ : ∃ o, l.map Ce.c = o := ⟨_, rfl⟩
 obtain ⟨low, hlow⟩ : ∃ low, G9 o S R = low := ⟨_, rfl⟩
 obtain ⟨low', hlow'⟩ : ∃ low, G9 o S' R' = low := ⟨_, rfl⟩
 rw [ho] at Q Q' mo mo' hm hm' hd ⊢
 rw [hlow] at Q hm ⊢
 rw [hlow'] at Q' hm' ⊢
 have hlen : ∀ x, x < (JB.map (Eh F o low)).length → (JB.map (Eh F o low))[x]? = some (Eh F o low (JB.getD x 0)) := fun x hx => by
  have hx' : x < JB.length := by simpa using hx
  simp [List.getD, hx']
 have hlen' : ∀ x, x < (JB'.map (Eh G o low')).length → (JB'.map (Eh G o low'))[x]? = some (Eh G o low' (JB'.getD x 0)) := fun x hx => by
  have hx' : x < JB'.length := by simpa using hx
  simp [List.getD, hx']
 have hap : ∀ j k, (Eh F o low j).apart (Eh G o low' k) ≤ 2 * δ ↔ (fo F o (lo low j) ≤ fo G o (lo low' k) + δ ∧ fo G o (lo low' k) ≤ fo F o (lo low j) + δ) ∧ (fo F o j ≤ fo G o k + δ ∧ fo G o k ≤ fo F o j + δ) := fun j k => by
  show 2 * max (max (fo F o (lo low j) - fo G o (lo low' k)) (-(fo F o (lo low j) - fo G o (lo low' k)))) (max (fo F o j - fo G o k) (-(fo F o j - fo G o k))) ≤ _ ↔ _
  omega
 obtain ⟨pos, h1, h2⟩ := TO JB.length JB'.length (fun x => 2 * δ < (Eh F o low (JB.getD x 0)).len) (fun x k => (Eh F o low (JB.getD x 0)).apart (Eh G o low' (JB'.getD k 0)) ≤ 2 * δ) fun A T hA hAL hT => by
  have := Q.near Q' mo mo' hd (d + 1) (A.map fun x => JB.getD x 0) (T.map fun k => JB'.getD k 0) (GW hA fun a ha b hb e => Pu hJ (hAL a ha).1 (hAL b hb).1 e) (fun j hj => by
   obtain ⟨x, hx, rfl⟩ := List.mem_map.1 hj
   have := (hm _).1 (RO (hAL x hx).1)
   exact ⟨this.1, this.2.1⟩) (fun k hk hp j hj n1 n2 => by
   obtain ⟨x, hx, rfl⟩ := List.mem_map.1 hj
   have hL : 2 * δ < (Eh F o low (JB.getD x 0)).len := (hAL x hx).2
   have hL' : 2 * δ < fo F o (JB.getD x 0) - fo F o (lo low (JB.getD x 0)) := hL
   have hk' : k ∈ JB' := (hm' k).2 ⟨hk, hp, by omega⟩
   obtain ⟨y, hy, rfl⟩ := List.getElem_of_mem hk'
   have hy' : JB'.getD y 0 = JB'[y] := by simp [List.getD, hy]
   exact List.mem_map.2 ⟨y, hT x hx y hy (by rw [hy', hap]; exact ⟨n1, n2⟩), hy'⟩)
  simpa using this
 refine ⟨pos, fun x hx hc => ?_, fun x y hx hy hcx hcy ee => ?_⟩
 ·have hx' : x < JB.length := by simpa using hx
  have e1 : (JB.map (Eh F o low))[x] = Eh F o low (JB.getD x 0) := Option.some.inj (by rw [← List.getElem?_eq_getElem hx]; exact hlen x hx)
  rw [e1] at hc ⊢
  obtain ⟨g1, g2⟩ := h1 x hx' hc
  have hg : pos x < (JB'.map (Eh G o low')).length := by simpa using g1
  refine ⟨hg, ?_⟩
  rw [show (JB'.map (Eh G o low'))[pos x] = Eh G o low' (JB'.getD (pos x) 0) from Option.some.inj (by rw [← List.getElem?_eq_getElem hg]; exact hlen' _ hg)]
  exact g2
 ·have e1 : (JB.map (Eh F o low))[x] = Eh F o low (JB.getD x 0) := Option.some.inj (by rw [← List.getElem?_eq_getElem hx]; exact hlen x hx)
  have e2 : (JB.map (Eh F o low))[y] = Eh F o low (JB.getD y 0) := Option.some.inj (by rw [← List.getElem?_eq_getElem hy]; exact hlen y hy)
  rw [e1] at hcx
  rw [e2] at hcy
  exact h2 x y (by simpa using hx) (by simpa using hy) hcx hcy ee
theorem Ll {l l' : List Int} (h : l.Perm l') (t : Int) : FX l t = FX l' t := (h.filter _).length_eq
theorem MO (l : List Nat) (f : Nat → Int) (t : Int) : FX (l.map f) t = (l.filter fun i => decide (f i ≤ t)).length := by
 unfold FX
 rw [List.filter_map, List.length_map]; rfl
theorem Ld (H : PerH p F l S R V) (H' : PerH p G l S' R' V') (hd : ∀ i, i < S.length → fo G (l.map Ce.c) i ≤ fo F (l.map Ce.c) i + δ) (d t : Int) :
  FX (AW d (BZ (D5 (BE F)) S (B7 S R) S.length)) t ≤ FX (AW d (BZ (D5 (BE G)) S' (B7 S' R') S'.length)) (t + δ) := by
 obtain ⟨OB, hO, hm, e⟩ := H.opens d
 obtain ⟨OB', hO', hm', e'⟩ := H'.opens d
 have hl : S'.length = S.length := by rw [H'.lenS, H.lenS]
 have Q := H.rdc
 have Q' := H'.rdc
 have mo := H.mono
 have mo' := H'.mono
 rw [hl] at Q' hm' mo'
 unfold AW
 rw [Ll (Cs _), Ll (Cs _), e, e', MO, MO]
 refine Q.open_le Q' mo mo' hd d t _ _ (List.Pairwise.filter _ hO) (fun i hi => ?_) fun k hk ho hg => ?_
 ·obtain ⟨h1, h2⟩ := List.mem_filter.1 hi
  obtain ⟨h3, h4⟩ := (hm i).1 h1
  exact ⟨h3, h4, of_decide_eq_true h2⟩
 ·exact List.mem_filter.2 ⟨(hm' k).2 ⟨hk, ho⟩, decide_eq_true hg⟩
theorem Pj {c : Int} (hc : 0 ≤ c) {l : List (Int × Int)} (h : ∀ q ∈ l, 2 * DE (q.1 - q.2) ≤ c) : CK l ≤ c := by
 have : ∀ (l : List (Int × Int)) (m : Int), m ≤ c → (∀ q ∈ l, 2 * DE (q.1 - q.2) ≤ c) → l.foldl (fun m p => max m (2 * DE (p.1 - p.2))) m ≤ c := fun l => by
  induction l with
  | nil => intro m hm _; exact hm
  | cons a l ih => intro m hm h; exact ih _ (by show max m (2 * DE (a.1 - a.2)) ≤ c; have := h a (List.Mem.head _); omega) fun q hq => h q (List.Mem.tail _ hq)
 exact this l 0 hc h
theorem R0 (H : PerH p F l S R V) (H' : PerH p G l S' R' V') (h0 : 0 ≤ δ) (hd : ∀ i, i < S.length → fo G (l.map Ce.c) i ≤ fo F (l.map Ce.c) i + δ ∧ fo F (l.map Ce.c) i ≤ fo G (l.map Ce.c) i + δ) (d : Int) :
  (Df d (BZ (D5 (BE F)) S (B7 S R) S.length) (BZ (D5 (BE G)) S' (B7 S' R') S'.length)).2 = true ∧ (Df d (BZ (D5 (BE F)) S (B7 S R) S.length) (BZ (D5 (BE G)) S' (B7 S' R') S'.length)).1 ≤ 2 * δ := by
 have hl : S'.length = S.length := by rw [H'.lenS, H.lenS]
 have hd' : ∀ i, i < S'.length → fo F (l.map Ce.c) i ≤ fo G (l.map Ce.c) i + δ ∧ fo G (l.map Ce.c) i ≤ fo F (l.map Ce.c) i + δ := fun i hi => (hd i (by omega)).symm
 obtain ⟨h1, h2⟩ := On (X := AW d (BZ (D5 (BE F)) S (B7 S R) S.length)) (Y := AW d (BZ (D5 (BE G)) S' (B7 S' R') S'.length)) (δ := δ) (DF _) (DF _) (fun t => Ld H H' (fun i hi => (hd i hi).1) d t) (fun t => Ld H' H (fun i hi => (hd' i hi).1) d t)
 unfold Df
 rw [if_pos h1]
 refine ⟨rfl, ?_⟩
 exact XX (Pj (by omega) fun q hq => by have := h2 q hq; unfold DE; omega) (pos_inj.2 ⟨N6 H H' hd d, N6 H' H hd' d⟩)
end
end Go.Proofs.YtodheebhahdepaaGreat
namespace Go.Proofs.YtodheebhahdepaaGreat
open Go.Eng Go.RowKit Go.Lin Go.Kuhn
variable {o : List Cl}
structure Pg (o : List Cl) (F : List (Int × Int)) : Prop where
 fst : F.map Prod.fst = o.map Cl.id
 bd : ∀ q ∈ F, -2000000000 ≤ q.2 ∧ q.2 ≤ 2000000000
 at_ : ∀ i, i < o.length → fo F o i = (F.getD i (0, 0)).2
 chk : HG o F = (0, 0)
 bI : ∀ c, -2000000000 ≤ D5 (BE F) c ∧ D5 (BE F) c ≤ 2000000000
 mon : ∀ x ∈ o, ∀ s ∈ x.sd, D5 (BE F) s.1 ≤ D5 (BE F) x.id
theorem PP (G : Rgt o) (L : List Int) (c : Int) : -2000000000 ≤ MB o L c ∧ MB o L c ≤ 2000000000 := by
 unfold MB
 refine ⟨?_, ?_⟩
 ·have := ((Jm L (FW L (NP o c)) (NP o c)).1 (Int.le_refl _)).1
  omega
 ·refine Int.le_trans ((Jm L 100 (NP o c)).2 ⟨by omega, fun k hk => ?_⟩) (by omega)
  obtain ⟨y, hy, rfl⟩ := List.mem_map.1 (cloL_mem.1 hk).1
  have h1 := G.pos _ hy
  have := XT L (k := y.id) (by omega)
  omega
theorem RK (G : Rgt o) (L : List Int) {x : Cl} (hx : x ∈ o) {s : Int × Int} (hs : s ∈ x.sd) : MB o L s.1 ≤ MB o L x.id := by
 refine IC fun k hk => ?_
 rw [cloL_mem] at hk ⊢
 refine ⟨hk.1, Rch.trans (Rch.step (Rch.refl _) ?_) hk.2⟩
 unfold PR
 rw [CM G.nd hx]
 exact List.mem_map.2 ⟨s, hs, rfl⟩
theorem SD (G : Rgt o) (L : List Int) : Pg o (E1 o L o.length) := by
 obtain ⟨F, hF⟩ : ∃ F, E1 o L o.length = F := ⟨_, rfl⟩
 have e0 : F = o.map fun x => (x.id, MB o L x.id) := by rw [← hF]; unfold E1; rw [List.take_length]
 have e1 : F.map Prod.fst = o.map Cl.id := by rw [e0, List.map_map]; rfl
 have hnd : (F.map Prod.fst).Nodup := by rw [e1]; exact G.nd
 have hat : ∀ x ∈ o, D5 (BE F) x.id = MB o L x.id := fun x hx => SY hnd (by rw [e0]; exact List.mem_map.2 ⟨x, hx, rfl⟩)
 have hmon : ∀ x ∈ o, ∀ s ∈ x.sd, D5 (BE F) s.1 ≤ D5 (BE F) x.id := fun x hx s hs => by
  obtain ⟨y, hy, e, _⟩ := G.sid x hx s hs
  rw [hat x hx, ← e, hat y hy, e]
  exact RK G L hx hs
 rw [hF]
 refine ⟨e1, fun q hq => ?_, fun i hi => ?_, TY (fun j hj => ?_) (fun j hj => ?_) (fun j hj => ?_), fun c => ?_, hmon⟩
 ·rw [e0] at hq
  obtain ⟨x, hx, rfl⟩ := List.mem_map.1 hq
  exact PP G L x.id
 ·have h1 : o.getD i default = o[i] := by simp [List.getD, hi]
  unfold fo
  rw [h1, hat _ (List.getElem_mem hi), e0]
  simp [List.getD, hi]
 ·have hjo : j < o.length := by rw [e0, List.length_map] at hj; exact hj
  have h1 : (F.getD j (0, 0)).1 = o[j].id := by rw [e0]; simp [List.getD, hjo]
  unfold fA
  rw [h1, GB G.nd (List.getElem_mem hjo), if_neg (by simp), if_neg fun h => ?_]
  obtain ⟨q, hq, e⟩ := List.mem_map.1 h
  obtain ⟨i, hi, rfl⟩ := List.getElem_of_mem hq
  rw [List.length_take] at hi
  have hp := List.pairwise_iff_getElem.1 G.nd i j (by simp; omega) (by simpa using hjo) (by omega)
  rw [List.getElem_map, List.getElem_map] at hp
  refine hp ?_
  rw [List.getElem_take] at e
  rw [← e]
  simp only [e0, List.getElem_map]
 ·unfold fB
  rw [if_neg]
  intro h
  refine h ?_
  rw [e1]
  exact List.mem_map.2 ⟨_, Fl hj, rfl⟩
 ·unfold fC
  rw [if_neg]
  rintro ⟨s, hs, h⟩
  have := hmon _ (Fl hj) s hs
  unfold D5 at this
  unfold H5 at h
  omega
 ·unfold D5
  cases h : AZ (BE F) c with
  | none => simp
  | some x =>
   have hc : c ∈ (BE F).map Prod.fst := Classical.byContradiction fun hn => by rw [Ck hn] at h; cases h
   rw [Ln, e1] at hc
   obtain ⟨y, hy, rfl⟩ := List.mem_map.1 hc
   have := hat y hy
   unfold D5 at this
   rw [h] at this
   rw [this]
   exact PP G L y.id
theorem Lq {f : Int → Int} (hf : ∀ c, -2000000000 ≤ f c ∧ f c ≤ 2000000000) (S : List Ce) (L : List Int) (n : Nat) : ∀ b ∈ BZ f S L n, Hk b := fun b hb => by
 unfold BZ at hb
 obtain ⟨i, -, hb⟩ := List.mem_flatMap.1 hb
 unfold HR at hb
 split at hb
 ·rename_i j hj
  split at hb
  ·rw [List.mem_singleton.1 hb]
   have h1 := hf (S.getD i default).c.id
   have h2 := hf (S.getD j.toNat default).c.id
   exact ⟨by show _ ≤ f _; omega, by show f _ ≤ _; omega, by show _ ≤ f _; omega, by show f _ ≤ _; omega⟩
  ·cases hb
 ·split at hb
  ·rw [List.mem_singleton.1 hb]
   have h1 := hf (S.getD i default).c.id
   exact ⟨by show _ ≤ f _; omega, by show f _ ≤ _; omega, by show (_ : Int) ≤ 0; omega, by show (0 : Int) ≤ _; omega⟩
  ·cases hb
theorem R7 {F G : List (Int × Int)} (QF : Pg o F) (QG : Pg o G) {i : Nat} (hi : i < o.length) : fo G o i ≤ fo F o i + EZ F G F.length ∧ fo F o i ≤ fo G o i + EZ F G F.length := by
 have hl : F.length = o.length := by have := congrArg List.length QF.fst; simpa using this
 rw [QF.at_ i hi, QG.at_ i hi]
 have := MK F G (n := F.length) (i := i) (by omega)
 omega
theorem RJ {p : Int} {F G : List (Int × Int)} {l S S' : List Ce} {R V R' V' : Nat → List Int} (hp : IsP p) (K : Rgt (l.map Ce.c)) (QF : Pg (l.map Ce.c) F) (QG : Pg (l.map Ce.c) G) (P : PersF p F l S R V) (P' : PersF p G l S' R' V') (d : Int) :
  (Df d (BZ (D5 (BE F)) S (B7 S R) S.length) (BZ (D5 (BE G)) S' (B7 S' R') S'.length)).2 = true ∧ (Df d (BZ (D5 (BE F)) S (B7 S R) S.length) (BZ (D5 (BE G)) S' (B7 S' R') S'.length)).1 ≤ 2 * EZ F G F.length := by
 have H : PerH p F l S R V := ⟨P, hp, K, QF.mon⟩
 have H' : PerH p G l S' R' V' := ⟨P', hp, K, QG.mon⟩
 exact R0 H H' (H3 F G QF.bd QG.bd _).1 (fun i hi => R7 QF QG (by rw [← H.lenS]; exact hi)) d
end Go.Proofs.YtodheebhahdepaaGreat
namespace Go.Proofs.YtodheebhahdepaaGreat
open Go.Eng Go.RowKit
variable {t k d y s a : Int}
def Cz (k a : Int) : Int := if k = 1 then a else a * k % 211 + 1
def Ox (t x s : Int) : Int := if 1 < t ∧ x % t = 1 then -s else s
def Pr (t d y s : Int) : Int := if (1 < t ∧ 1 < d) ∧ y % t = 1 then -s else s
def HY (k t : Int) (c : Cl) : Cl := ⟨Cz k c.id, c.dim, c.sd.map fun r => (Cz k r.1, Pr t c.dim r.1 (Ox t c.id r.2))⟩
def uS (t x : Int) : Int := if 1 < t ∧ x % t = 1 then -1 else 1
theorem Xr (t x : Int) : uS t x * uS t x = 1 := by unfold uS; split <;> decide
theorem O1 (t x s : Int) : Ox t x s = uS t x * s := by unfold Ox uS; split <;> omega
theorem Uk (h : 1 < d) : Pr t d y s = uS t y * s := by
 unfold Pr uS
 by_cases h1 : 1 < t ∧ y % t = 1
 ·rw [if_pos ⟨⟨h1.1, h⟩, h1.2⟩, if_pos h1]; omega
 ·rw [if_neg (fun q => h1 ⟨q.1.1, q.2⟩), if_neg h1]; omega
theorem UA (h : ¬ 1 < d) : Pr t d y s = s := if_neg fun q => h q.1.2
theorem Wu {x : Int} (h : s = 1 ∨ s = -1) : Pr t d y (Ox t x s) = 1 ∨ Pr t d y (Ox t x s) = -1 := by
 unfold Pr Ox
 split <;> split <;> omega
theorem UH {b : Int} (hk : k = 1 ∨ k = 3 ∨ k = 5) (ha : 1 ≤ a ∧ a ≤ 210) (hb : 1 ≤ b ∧ b ≤ 210) (h : Cz k a = Cz k b) : a = b := by
 unfold Cz at h
 rcases hk with rfl | rfl | rfl
 ·simpa using h
 ·rw [if_neg (by decide), if_neg (by decide)] at h; omega
 ·rw [if_neg (by decide), if_neg (by decide)] at h; omega
theorem U4 (ha : 1 ≤ a) : 1 ≤ Cz k a := by
 unfold Cz
 split
 ·exact ha
 ·have := Int.emod_nonneg (a * k) (show (211 : Int) ≠ 0 by decide); omega
theorem Wi (ha : a ≤ 1000) : Cz k a ≤ 1000 := by
 unfold Cz
 split
 ·exact ha
 ·have := Int.emod_lt_of_pos (a * k) (show (0 : Int) < 211 by decide); omega
theorem Gd (f : Int × Int × Int → Int) (g : Int × Int × Int → Int) (κ : Int) : ∀ T : Fo, (∀ e ∈ T, f e = κ * g e) → (T.map f).sum = κ * (T.map g).sum
 | [], _ => by simp
 | e :: T, h => by
  rw [List.map_cons, List.map_cons, List.sum_cons, List.sum_cons, h e (List.Mem.head _), Gd f g κ T fun e he => h e (List.mem_cons_of_mem _ he), Int.mul_add]
theorem GoodT.ren {T : Fo} {s s' : List (Int × Int)} (G : GoodT T s) (φ κ : Int → Int) (hφ : ∀ e ∈ T, ∀ e' ∈ T, φ e.2.1 = φ e'.2.1 → e.2.1 = e'.2.1) (hs : ∀ a ∈ s', ∃ b ∈ s, a.1 = φ b.1) : GoodT (T.map fun e => (φ e.1, φ e.2.1, κ e.2.1 * e.2.2)) s' where
 sum := fun e' he' => by
  obtain ⟨e, he, rfl⟩ := List.mem_map.1 he'
  have h1 := G.sum e he
  unfold Dy at *
  rw [List.map_map, Gd _ (fun e' => if e'.2.1 = e.2.1 then e'.2.2 else 0) (κ e.2.1) T fun e' he' => ?_, h1, Int.mul_zero]
  show (if φ e'.2.1 = φ e.2.1 then κ e'.2.1 * e'.2.2 else 0) = _
  by_cases h : e'.2.1 = e.2.1
  ·rw [if_pos h, h, if_pos rfl]
  ·rw [if_neg h, if_neg fun q => h (hφ _ he' _ he q), Int.mul_zero]
 two := fun e' he' => by
  obtain ⟨e, he, rfl⟩ := List.mem_map.1 he'
  have h1 := G.two e he
  unfold EK at *
  rw [List.map_map, Gd _ (fun e' => if e'.2.1 = e.2.1 then 1 else 0) 1 T fun e' he' => ?_, h1]
  ·rfl
  show (if φ e'.2.1 = φ e.2.1 then (1 : Int) else 0) = _
  by_cases h : e'.2.1 = e.2.1
  ·rw [if_pos h, h, if_pos rfl]; rfl
  ·rw [if_neg h, if_neg fun q => h (hφ _ he' _ he q)]; rfl
 con := fun a ha b hb => by
  obtain ⟨a', ha', ea⟩ := hs a ha
  obtain ⟨b', hb', eb⟩ := hs b hb
  rw [ea, eb]
  have h := G.con a' ha' b' hb'
  generalize a'.1 = x at *
  generalize b'.1 = y at *
  clear ea eb
  induction h with
  | refl => exact .refl _
  | step _ h1 h2 ih => exact .step ih (List.mem_map.2 ⟨_, h1, rfl⟩) (List.mem_map.2 ⟨_, h2, rfl⟩)
theorem Rgt.ren {l : List Cl} (R : Rgt l) (hk : k = 1 ∨ k = 3 ∨ k = 5) (hb : ∀ x ∈ l, x.id ≤ 210) : Rgt (l.map (HY k t)) := by
 have hi : ∀ x ∈ l, ∀ y ∈ l, Cz k x.id = Cz k y.id → x.id = y.id := fun x hx y hy h => UH hk ⟨R.pos x hx, hb x hx⟩ ⟨R.pos y hy, hb y hy⟩ h
 have hsi : ∀ x ∈ l, ∀ y ∈ l, ∀ s ∈ x.sd, ∀ r ∈ y.sd, Cz k s.1 = Cz k r.1 → s.1 = r.1 := fun x hx y hy s hs r hr h => by
  obtain ⟨a, ha, e, _⟩ := R.sid x hx s hs
  obtain ⟨b, hb, e', _⟩ := R.sid y hy r hr
  rw [← e, ← e'] at h ⊢
  exact hi a ha b hb h
 have hnd : ((l.map (HY k t)).map Cl.id).Nodup := by
  rw [List.map_map]
  have := List.pairwise_map.1 R.nd
  refine List.pairwise_map.2 (this.imp_of_mem fun {a b} ha hb hne e => hne (hi a ha b hb e))
 refine ⟨by rw [List.length_map]; exact R.n, hnd, fun x' hx' => ?_, fun x' hx' => ?_, fun x' hx' => ?_, fun x' hx' => ?_, fun x' hx' s' hs' => ?_, fun x' hx' s' hs' => ?_, fun x' hx' hd => ?_, fun x' hx' hd => ?_⟩ <;> obtain ⟨x, hx, rfl⟩ := List.mem_map.1 hx'
 ·exact U4 (R.pos x hx)
 ·exact R.dim x hx
 ·have := R.num x hx
  unfold BD at *
  show ¬ ((x.dim = 0 ∧ 0 < (x.sd.map _).length) ∨ (x.dim = 1 ∧ (x.sd.map _).length ≠ 2) ∨ (1 < x.dim ∧ ((x.sd.map _).length < 2 ∨ 64 < (x.sd.map _).length)))
  rw [List.length_map]; exact this
 ·show ((x.sd.map _).map Prod.fst).Nodup
  rw [List.map_map]
  have := List.pairwise_map.1 (R.sds x hx)
  exact List.pairwise_map.2 (this.imp_of_mem fun {a b} ha hb hne e => hne (hsi x hx x hx a ha b hb e))
 ·obtain ⟨s, hs, rfl⟩ := List.mem_map.1 hs'
  obtain ⟨y, hy, e1, e2⟩ := R.sid x hx s hs
  exact ⟨_, List.mem_map.2 ⟨y, hy, rfl⟩, by show Cz k y.id = Cz k s.1; rw [e1], e2⟩
 ·obtain ⟨s, hs, rfl⟩ := List.mem_map.1 hs'
  exact Wu (R.sgn x hx s hs)
 ·have hd : x.dim = 1 := hd
  have h1 := R.one x hx hd
  show ((x.sd.map _).map Prod.snd).sum = 0
  rw [List.map_map]
  have h2 : (x.sd.map (Prod.snd ∘ fun r => (Cz k r.1, Pr t x.dim r.1 (Ox t x.id r.2)))) = x.sd.map fun r => uS t x.id * r.2 := List.map_congr_left fun r _ => by
   show Pr t x.dim r.1 (Ox t x.id r.2) = _
   rw [UA (by omega), O1]
  have h3 : ∀ L : List (Int × Int), (L.map fun r => uS t x.id * r.2).sum = uS t x.id * (L.map Prod.snd).sum := fun L => by
   induction L with
   | nil => simp
   | cons r L ih => simp only [List.map_cons, List.sum_cons, ih, Int.mul_add]
  rw [h2, h3, h1, Int.mul_zero]
 ·have hd : 2 ≤ x.dim := hd
  let κ : Int → Int := fun c => uS t x.id * if 2 < x.dim then uS t c else 1
  have hT : FV (l.map (HY k t)) (HY k t x) = (FV l x).map fun e => (Cz k e.1, Cz k e.2.1, κ e.2.1 * e.2.2) := by
   unfold FV KF
   show (x.sd.map _).flatMap _ = _
   rw [List.flatMap_map, List.map_flatMap]
   refine Et fun s hs => ?_
   obtain ⟨y, hy, e1, e2⟩ := R.sid x hx s hs
   have h1 : Gu (l.map (HY k t)) (Cz k s.1) = HY k t y := by
    rw [← e1]
    exact CM hnd (List.mem_map.2 ⟨y, hy, rfl⟩)
   have h2 : Gu l s.1 = y := by rw [← e1]; exact CM R.nd hy
   show List.map (fun r => (Cz k s.1, r.1, Pr t x.dim s.1 (Ox t x.id s.2) * r.2)) (Gu (l.map (HY k t)) (Cz k s.1)).sd = List.map _ (List.map (fun r => (s.1, r.1, s.2 * r.2)) (Gu l s.1).sd)
   rw [h1, h2, List.map_map]
   show List.map _ (y.sd.map _) = _
   rw [List.map_map]
   refine List.map_congr_left fun r hr => ?_
   show (Cz k s.1, Cz k r.1, Pr t x.dim s.1 (Ox t x.id s.2) * Pr t y.dim r.1 (Ox t y.id r.2)) = (Cz k s.1, Cz k r.1, κ r.1 * (s.2 * r.2))
   have h3 := Xr t s.1
   rw [Uk (by omega), O1, O1, e1]
   congr 2
   by_cases hd3 : 2 < x.dim
   ·rw [Uk (by omega)]
    simp only [κ]
    rw [if_pos hd3]
    generalize uS t s.1 = a at *
    generalize uS t x.id = b at *
    generalize uS t r.1 = c at *
    have q1 : a * (b * s.2) * (c * (a * r.2)) = (a * a) * (b * c * (s.2 * r.2)) := by simp only [Int.mul_assoc, Int.mul_comm, Int.mul_left_comm]
    rw [q1, h3, Int.one_mul]
   ·rw [UA (by omega)]
    simp only [κ]
    rw [if_neg hd3, Int.mul_one]
    generalize uS t s.1 = a at *
    generalize uS t x.id = b at *
    have q1 : a * (b * s.2) * (a * r.2) = (a * a) * (b * (s.2 * r.2)) := by simp only [Int.mul_assoc, Int.mul_comm, Int.mul_left_comm]
    rw [q1, h3, Int.one_mul]
  rw [hT]
  have hin : ∀ e ∈ FV l x, ∃ z ∈ l, z.id = e.2.1 := fun e he => by
   unfold FV KF at he
   obtain ⟨s, hs, h1⟩ := List.mem_flatMap.1 he
   obtain ⟨r, hr, rfl⟩ := List.mem_map.1 h1
   obtain ⟨y, hy, e1, _⟩ := R.sid x hx s hs
   have hr : r ∈ (Gu l s.1).sd := hr
   rw [← e1, CM R.nd hy] at hr
   obtain ⟨z, hz, e3, _⟩ := R.sid y hy r hr
   exact ⟨z, hz, e3⟩
  refine (R.tab x hx hd).ren (Cz k) κ (fun e he e' he' q => ?_) fun a ha => ?_
  ·obtain ⟨z, hz, e1⟩ := hin e he
   obtain ⟨z', hz', e2⟩ := hin e' he'
   rw [← e1, ← e2] at q ⊢
   exact hi z hz z' hz' q
  ·obtain ⟨s, hs, rfl⟩ := List.mem_map.1 ha
   exact ⟨s, hs, rfl⟩
end Go.Proofs.YtodheebhahdepaaGreat
namespace Go.Proofs.YtodheebhahdepaaGreat
open Go.Proofs.Tryz
open Go.Eng Go.RowKit
def OW (b : Int) : Int := 1 + 2 * (b.tdiv 7 % 3)
def Vk (b : Int) : Int := b.tdiv 5 % 4
theorem SR (b : Int) : OW b = 1 ∨ OW b = 3 ∨ OW b = 5 := by unfold OW; omega
structure Xb (c : Cl) : Prop where
 i : 0 ≤ c.id ∧ c.id ≤ 100000
 n : c.sd.length ≤ 1000
 m : ∀ r ∈ c.sd, 0 ≤ r.1 ∧ r.1 ≤ 100000
 s : ∀ r ∈ c.sd, r.2 = 1 ∨ r.2 = -1
theorem JJ {b k : Int} (hb : Bq b) (hk : 2 ≤ k) : Bq (b.tdiv k) := by
 obtain ⟨h1, h2⟩ := hb
 have h3 : (b.tdiv k).natAbs = b.natAbs / k.natAbs := Int.natAbs_tdiv b k
 have h4 : b.natAbs / k.natAbs ≤ b.natAbs / 2 := Nat.div_le_div_left (by omega) (by decide)
 exact ⟨by omega, by omega⟩
theorem Rgt.rn {l : List Cl} (R : Rgt l) (hb : ∀ x ∈ l, x.id ≤ 100000) : ∀ x ∈ l, Xb x := fun x hx => by
 have h1 := R.num x hx
 have h2 := R.dim x hx
 unfold BD at h1
 refine ⟨⟨by have := R.pos x hx; omega, hb x hx⟩, by omega, fun r hr => ?_, R.sgn x hx⟩
 obtain ⟨y, hy, e, _⟩ := R.sid x hx r hr
 have := R.pos y hy
 have := hb y hy
 omega
theorem KG (l : List Ce) (v : Value) (b : Int) (hp : Hp) (hb : Bq b) (hn : l.length ≤ 4000) (hK : ∀ a ∈ l, Xb a.c) (hR : RdC hp v l) : FnT Tryz.prog 21 #[.agg #[v], .int .i64 b] hp [] (fun r h' ms' => hp.le h' ∧ Wk h' r ms' fun o => o = ordF ((l.map Ce.c).map (HY (OW b) (Vk b)))) := by
 have o1 := hR.q.rd.one
 have hd7 := JJ hb (k := 7) (by decide)
 have hd5 := JJ hb (k := 5) (by decide)
 have h71 := hd7.1
 have hb1 := hb.1
 have hb2 := hb.2
 have h72 := hd7.2
 have h51 := hd5.1
 have h52 := hd5.2
 refine Av func21 ntmps21 rfl rfl (fun w0 hw0 => ?_)
 simp only [A5]
 refine Az ?_
 refine A8 [_] rfl rfl (by rfl) rfl rfl rfl (fun g2 => ?_)
 refine C4 [.slice none 0 0] rfl Bi rfl rfl (fun g4 => An (CZ 1 rfl fun h1 l1 hS => ?_))
 have hR := hR.up l1
 refine Az (Qm rfl (Qx (LR rfl rfl rfl (by omega) (by omega)) rfl (Qx (AG rfl call14 rfl (Eg (b.tdiv 7) 3 hd7 (by decide) h1 _)) rfl (Qx (oM rfl) rfl (Qx (oA rfl) rfl (Qm rfl (BG (Qm rfl (Qx (LR rfl rfl rfl (by omega) (by omega)) rfl (Qx (AG rfl call14 rfl (Eg (b.tdiv 5) 4 hd5 (by decide) h1 _)) rfl (Qm rfl (An ?_))))))))))))
 obtain ⟨k, hk⟩ : ∃ k, OW b = k := ⟨_, rfl⟩
 obtain ⟨t, ht⟩ : ∃ t, Vk b = t := ⟨_, rfl⟩
 have hk' : 1 + 2 * (b.tdiv 7 % 3) = k := hk
 have ht' : b.tdiv 5 % 4 = t := ht
 rw [hk, ht, hk', ht']
 have hk3 : 1 ≤ k ∧ k ≤ 5 := by have := SR b; omega
 have ht3 : 0 ≤ t ∧ t ≤ 3 := by omega
 have hA := Seg.all hS
 have c0 : ∀ ms, Cell h1 ms (⟨g2, 0, none⟩ : Addr) v := fun ms => hA 0 _ rfl ms
 refine Az (C4 [.slice none 0 0] rfl Bi rfl rfl (fun g7 => An (Bz ?_)))
 refine AV (fun sl h' ms' => ∃ (vO : Value) (mO : Hp) (O : List Ce), sl = [(4, .pointer (some ⟨g4, 0, none⟩)), (7, .pointer (some ⟨g7, 0, none⟩))] ∧ h1.le h' ∧ ms' = [mO, Bf g7 29 [vO], Bf g4 29 [.slice none 0 0]] ∧ OwnL cC 3 59 mO vO O ∧ O.map Ce.c = (l.map Ce.c).map (HY k t) ∧ ∀ a ∈ O, RdL cD 2 h' [] a.v a.c.sd) ?_ (fun s h ms hI => ?_)
 ·refine Ac (Ab (Qm rfl (An (Ah ?_))))
  refine AD (fun q sl h' ms' => ∃ (i : Nat) (vO : Value) (mO : Hp) (O : List Ce), q = l.length - i ∧ sl = [(2, .pointer (some ⟨g2, 0, none⟩)), (4, .pointer (some ⟨g4, 0, none⟩)), (5, .int .i64 k), (6, .int .i64 t), (7, .pointer (some ⟨g7, 0, none⟩)), (8, .int .i64 i)] ∧ h1.le h' ∧ ms' = [mO, Bf g7 29 [vO], Bf g4 29 [.slice none 0 0]] ∧ i ≤ l.length ∧ OwnL cC 3 59 mO vO O ∧ O.map Ce.c = ((l.take i).map Ce.c).map (HY k t) ∧ ∀ a ∈ O, RdL cD 2 h' [] a.v a.c.sd)
   (l.length - 0) _ ⟨0, _, Hp.emp, [], rfl, rfl, Hp.le_refl _, rfl, by omega, OwnL.nil BP, rfl, fun a ha => nomatch ha⟩ Qs ?_
  rintro q sl h2 ms' ⟨i, vO, mO, O, rfl, rfl, l2, rfl, hi, hO, hOc, hOs⟩
  have hR := hR.up l2
  have ovO : vO.oneCell' = true := (hO.rd (h := h2) (ms := [mO]) (List.Mem.head _)).rd.one
  have hOl : O.length = i := by have := congrArg List.length hOc; simpa [Nat.min_eq_left hi] using this
  have c0 : ∀ ms, Cell h2 ms (⟨g2, 0, none⟩ : Addr) v := fun ms => (c0 ms).le l2
  refine Ac (Az (Qm rfl (Qf BX rfl (Ql rfl underlying27 (c0 _) (Qx (AC hR.q.rd.any rfl underlying27 rfl) rfl (Qm rfl (An ?_)))))))
  refine Ax rfl (fun hlt => ?_) (fun hlt => ?_)
  ·have hil : i < l.length := by omega
   have hsx : ∀ ms, Seg h2 ms ((AI v).add (i * 3)) (cC l[i]) := fun ms => (hR.q.any (ms := ms)).seg hil
   obtain ⟨x, hx⟩ : ∃ x, l[i] = x := ⟨_, rfl⟩
   have hK := hK _ (List.getElem_mem hil)
   have hSd := hR.s _ (List.getElem_mem hil)
   have hOc' : (l.take (i + 1)).map Ce.c = (l.take i).map Ce.c ++ [x.c] := by rw [List.take_succ_eq_append_getElem hil, List.map_append, hx]; rfl
   rw [hx] at hK hSd
   have hsx : ∀ ms, Seg h2 ms ((AI v).add (i * 3)) (cC x) := fun ms => by rw [← hx]; exact hsx ms
   have oxv := hSd.rd.one
   have hi1 := hK.i
   refine Ai (Ad ?_)
   refine AV (fun sl h' ms' => ∃ (vO : Value) (mO : Hp) (O : List Ce), sl = [(2, .pointer (some ⟨g2, 0, none⟩)), (4, .pointer (some ⟨g4, 0, none⟩)), (5, .int .i64 k), (6, .int .i64 t), (7, .pointer (some ⟨g7, 0, none⟩)), (8, .int .i64 i)] ∧ h2.le h' ∧ ms' = [mO, Bf g7 29 [vO], Bf g4 29 [.slice none 0 0]] ∧ OwnL cC 3 59 mO vO O ∧ O.map Ce.c = ((l.take (i + 1)).map Ce.c).map (HY k t) ∧ ∀ a ∈ O, RdL cD 2 h' [] a.v a.c.sd) ?_ (fun s h ms hI => ?_)
   ·refine Ah (Az (Qf BX rfl (Ql rfl underlying27 (c0 _) (Qm rfl (Qx (Af (i) hR.q.rd.any rfl underlying27 AH rfl rfl (by omega) (by omega)) rfl (Qx (oG rfl underlying59 AH (hsx _)) rfl (C4 [.int .i64 0, .int .i64 0, .slice none 0 0] rfl AH rfl rfl (fun g9 => ?_))))))))
    refine Sa 0 [_, _, _] AH rfl (by simp [o1, ovO, oxv]) ?_
    refine An (AA fun h3 l3 hS9 => ?_)
    have hSd := hSd.up l3
    have e9 := Seg.all hS9
    have e90 : ∀ ms, Cell h3 ms (⟨g9, 0, none⟩ : Addr) (.int .i64 x.c.id) := fun ms => e9 0 _ rfl ms
    have e91 : ∀ ms, Cell h3 ms (⟨g9, 1, none⟩ : Addr) (.int .i64 x.c.dim) := fun ms => e9 1 _ rfl ms
    have e92 : ∀ ms, Cell h3 ms (⟨g9, 2, none⟩ : Addr) x.v := fun ms => e9 2 _ rfl ms
    have hmx : ∀ ms, FnV Tryz.prog 46 #[.int .i64 x.c.id, .int .i64 k] h3 ms (.int .i64 (Cz k x.c.id)) := fun ms => PS x.c.id k (by omega) (by omega) h3 ms
    refine AV (fun sl h' ms' => ∃ g10 : Nat, sl = [(2, .pointer (some ⟨g2, 0, none⟩)), (4, .pointer (some ⟨g4, 0, none⟩)), (5, .int .i64 k), (6, .int .i64 t), (7, .pointer (some ⟨g7, 0, none⟩)), (8, .int .i64 i), (9, .pointer (some ⟨g9, 0, none⟩)), (10, .pointer (some ⟨g10, 0, none⟩))] ∧ h3 = h' ∧ ms' = [Bf g10 59 [.int .i64 (Cz k x.c.id), .int .i64 x.c.dim, .slice none 0 0], mO, Bf g7 29 [vO], Bf g4 29 [.slice none 0 0]]) ?_ (fun s h ms hI => ?_)
    ·refine B4 (n := 9) (bs := [true, true, true, true, true, true, true, false, false]) [true, true, true, true, true, true, true] CN (by kernel_rfl) (by kernel_rfl) rfl rfl (QF Bo rfl (QL rfl underlying3 (e90 _) (Qq rfl (Qp rfl (AG rfl call46 rfl (hmx _)) (QF BC rfl (QL rfl underlying3 (e91 _) (Qp rfl (A6 KE [.int .i64 0, .int .i64 0, .slice none 0 0] [(0, _), (1, _)] [_, _, _] rfl AH rfl rfl Qt rfl) ?_)))))))
     unfold GI
     simp only [List.cons_append, List.nil_append]
     refine Qo 7 rfl (C4 [.int .i64 0, .int .i64 0, .slice none 0 0] rfl AH rfl rfl (fun g10 => Qw (Qo 8 rfl ?_)))
     refine Sa 0 [_, _, _] AH rfl (by simp [Value.oneCell']) ?_
     refine Qw (Qe ?_)
     exact Ay _ ⟨g10, rfl, rfl, rfl⟩ Qs
    ·obtain ⟨g10, rfl, rfl, rfl⟩ := hI
     let L : Nat → List (Int × Int) := fun j => (x.c.sd.take j).map fun r => (Cz k r.1, Pr t x.c.dim r.1 (Ox t x.c.id r.2))
     refine Bz ?_
     refine AV (fun sl h' ms' => ∃ (vS : Value) (mS : Hp), sl = [(2, .pointer (some ⟨g2, 0, none⟩)), (4, .pointer (some ⟨g4, 0, none⟩)), (5, .int .i64 k), (6, .int .i64 t), (7, .pointer (some ⟨g7, 0, none⟩)), (8, .int .i64 i), (10, .pointer (some ⟨g10, 0, none⟩))] ∧ h3.le h' ∧ ms' = [mS, Bf g10 59 [.int .i64 (Cz k x.c.id), .int .i64 x.c.dim, vS], mO, Bf g7 29 [vO], Bf g4 29 [.slice none 0 0]] ∧ OwnL cD 2 81 mS vS (L x.c.sd.length)) ?_ (fun s h ms hI => ?_)
     ·refine Ac (Ab (Qm rfl (An (Ah ?_))))
      refine AD (fun q sl h' ms' => ∃ (j : Nat) (vS : Value) (mS : Hp), q = x.c.sd.length - j ∧ sl = [(2, .pointer (some ⟨g2, 0, none⟩)), (4, .pointer (some ⟨g4, 0, none⟩)), (5, .int .i64 k), (6, .int .i64 t), (7, .pointer (some ⟨g7, 0, none⟩)), (8, .int .i64 i), (9, .pointer (some ⟨g9, 0, none⟩)), (10, .pointer (some ⟨g10, 0, none⟩)), (11, .int .i64 j)] ∧ h3.le h' ∧ ms' = [mS, Bf g10 59 [.int .i64 (Cz k x.c.id), .int .i64 x.c.dim, vS], mO, Bf g7 29 [vO], Bf g4 29 [.slice none 0 0]] ∧ j ≤ x.c.sd.length ∧ OwnL cD 2 81 mS vS (L j))
       (x.c.sd.length - 0) _ ⟨0, _, Hp.emp, rfl, rfl, Hp.le_refl _, rfl, by omega, OwnL.nil Cj⟩ Qs ?_
      rintro q sl h4 ms' ⟨j, vS, mS, rfl, rfl, l4, rfl, hj, hOS⟩
      have hSd := hSd.up l4
      have e90 : ∀ ms, Cell h4 ms (⟨g9, 0, none⟩ : Addr) (.int .i64 x.c.id) := fun ms => (e90 ms).le l4
      have e91 : ∀ ms, Cell h4 ms (⟨g9, 1, none⟩ : Addr) (.int .i64 x.c.dim) := fun ms => (e91 ms).le l4
      have e92 : ∀ ms, Cell h4 ms (⟨g9, 2, none⟩ : Addr) x.v := fun ms => (e92 ms).le l4
      have ovS : vS.oneCell' = true := (hOS.rd (h := h4) (ms := [mS]) (List.Mem.head _)).rd.one
      have hs1 := hK.n
      refine Ac (Az (Qm rfl (Qf Bl rfl (Ql rfl underlying57 (e92 _) (Qx (AC hSd.rd.any rfl underlying57 rfl) rfl (Qm rfl (An ?_)))))))
      refine Ax rfl (fun hjs => ?_) (fun hjs => ?_)
      ·have hjs : j < x.c.sd.length := by omega
       obtain ⟨r, hr⟩ : ∃ r, x.c.sd[j] = r := ⟨_, rfl⟩
       have hrm : r ∈ x.c.sd := by rw [← hr]; exact List.getElem_mem hjs
       have hr1 := hK.m r hrm
       have hr2 := hK.s r hrm
       have hLs : L (j + 1) = L j ++ [(Cz k r.1, Pr t x.c.dim r.1 (Ox t x.c.id r.2))] := by
        simp only [L]
        rw [List.take_succ_eq_append_getElem hjs, List.map_append, hr]; rfl
       have hLl : (L j).length = j := by simp [L]; omega
       have r0 : ∀ ms, Cell h4 ms ((AI x.v).add (j * 2)) (.int .i64 r.1) := fun ms => by rw [← hr]; exact (hSd.any (ms := ms)).cell0 hjs rfl
       have r1 : ∀ ms, Cell h4 ms (((AI x.v).add (j * 2)).add 1) (.int .i64 r.2) := fun ms => by rw [← hr]; exact (hSd.any (ms := ms)).cell hjs (f := 1) rfl
       have hmr : ∀ ms, FnV Tryz.prog 46 #[.int .i64 r.1, .int .i64 k] h4 ms (.int .i64 (Cz k r.1)) := fun ms => PS r.1 k (by omega) (by omega) h4 ms
       refine Ai (Ad ?_)
       refine AV (fun sl h' ms' => ∃ (vS : Value) (mS : Hp), sl = [(2, .pointer (some ⟨g2, 0, none⟩)), (4, .pointer (some ⟨g4, 0, none⟩)), (5, .int .i64 k), (6, .int .i64 t), (7, .pointer (some ⟨g7, 0, none⟩)), (8, .int .i64 i), (9, .pointer (some ⟨g9, 0, none⟩)), (10, .pointer (some ⟨g10, 0, none⟩)), (11, .int .i64 j)] ∧ h4 = h' ∧ ms' = [mS, Bf g10 59 [.int .i64 (Cz k x.c.id), .int .i64 x.c.dim, vS], mO, Bf g7 29 [vO], Bf g4 29 [.slice none 0 0]] ∧ OwnL cD 2 81 mS vS (L (j + 1))) ?_ (fun s h ms hI => ?_)
       ·refine Ah ?_
        refine AV (fun sl h' ms' => ∃ g12 : Nat, sl = [(2, .pointer (some ⟨g2, 0, none⟩)), (4, .pointer (some ⟨g4, 0, none⟩)), (5, .int .i64 k), (6, .int .i64 t), (7, .pointer (some ⟨g7, 0, none⟩)), (8, .int .i64 i), (9, .pointer (some ⟨g9, 0, none⟩)), (10, .pointer (some ⟨g10, 0, none⟩)), (11, .int .i64 j), (12, .pointer (some ⟨g12, 0, none⟩))] ∧ h4 = h' ∧ ms' = [Bf g12 81 [.int .i64 (Cz k r.1), .int .i64 r.2], mS, Bf g10 59 [.int .i64 (Cz k x.c.id), .int .i64 x.c.dim, vS], mO, Bf g7 29 [vO], Bf g4 29 [.slice none 0 0]]) ?_ (fun s h ms hI => ?_)
        ·refine B4 (n := 17) (bs := [true, true, true, true, true, true, true, true, true, true, true, true, true, true, true, false, false]) [true, true, true, true, true, true, true, true, true, true, true, true, true, true, true] CN (by kernel_rfl) (by kernel_rfl) rfl rfl (QF Bl rfl (QL rfl underlying57 (e92 _) (Qq rfl (Qp rfl (Af (j) hSd.rd.any rfl underlying57 AR rfl rfl (by omega) (by omega)) (QF Cc rfl (QL rfl underlying3 (r0 _) (Qq rfl (Qp rfl (AG rfl call46 rfl (hmr _)) (QF Bl rfl (QL rfl underlying57 (e92 _) (Qq rfl (Qp rfl (Af (j) hSd.rd.any rfl underlying57 AR rfl rfl (by omega) (by omega)) (QF Cv rfl (QL rfl underlying3 (r1 _) (Qp rfl (A6 Ou [.int .i64 0, .int .i64 0] [(0, _), (1, _)] [_, _] rfl AR rfl rfl Qt rfl) ?_)))))))))))))))
         unfold GI
         simp only [List.cons_append, List.nil_append]
         refine Qo 15 rfl (C4 [.int .i64 0, .int .i64 0] rfl AR rfl rfl (fun g12 => Qw (Qo 16 rfl ?_)))
         refine Sa 0 [_, _] AR rfl (by simp [Value.oneCell']) ?_
         refine Qw (Qe ?_)
         exact Ay _ ⟨g12, rfl, rfl, rfl⟩ Qs
        ·obtain ⟨g12, rfl, rfl, rfl⟩ := hI
         have ht1 : ∀ ms, 1 < t → FnV Tryz.prog 47 #[.int .i64 x.c.id, .int .i64 t] h4 ms (.bool (decide (x.c.id % t = 1))) := fun ms h => N5 x.c.id t (by omega) (by omega) h4 ms
         have ht2 : ∀ ms, 1 < t → FnV Tryz.prog 47 #[.int .i64 r.1, .int .i64 t] h4 ms (.bool (decide (r.1 % t = 1))) := fun ms h => N5 r.1 t (by omega) (by omega) h4 ms
         have hsA := hr2
         obtain ⟨A, hA⟩ : ∃ A, Ox t x.c.id r.2 = A := ⟨_, rfl⟩
         refine AV (fun sl h' ms' => sl = [(2, .pointer (some ⟨g2, 0, none⟩)), (4, .pointer (some ⟨g4, 0, none⟩)), (5, .int .i64 k), (6, .int .i64 t), (7, .pointer (some ⟨g7, 0, none⟩)), (8, .int .i64 i), (9, .pointer (some ⟨g9, 0, none⟩)), (10, .pointer (some ⟨g10, 0, none⟩)), (11, .int .i64 j), (12, .pointer (some ⟨g12, 0, none⟩))] ∧ h4 = h' ∧ ms' = [Bf g12 81 [.int .i64 (Cz k r.1), .int .i64 A], mS, Bf g10 59 [.int .i64 (Cz k x.c.id), .int .i64 x.c.dim, vS], mO, Bf g7 29 [vO], Bf g4 29 [.slice none 0 0]]) ?_ (fun s h ms hI => ?_)
         ·refine Ac (Ab (Qm rfl (Qm rfl (Qm rfl ?_))))
          refine AQ (t := 64) rfl (fun g1 => ?_) (fun g1 => ?_)
          ·refine Qg (oF Bo rfl) rfl (Qg (oL rfl underlying3 (e90 _)) rfl (Qg (Au rfl rfl) rfl (Qg (AG rfl call47 rfl (ht1 _ g1)) rfl (Qm rfl (An ?_)))))
           refine Ax rfl (fun g2 => ?_) (fun g2 => ?_)
           ·have eA : A = -r.2 := by rw [← hA]; exact if_pos ⟨g1, g2⟩
            refine Ab (Qf Cv rfl (Ql rfl underlying3 (Cell.blk 0 rfl rfl) (Qx (MA rfl rfl (by omega)) rfl (Qf Cv rfl ?_))))
            refine AK 0 _ rfl Bm rfl rfl (by rfl) rfl rfl (by (simp; done)) rfl rfl ?_
            refine Ak ?_
            exact Ay _ ⟨rfl, rfl, by rw [eA]; rfl⟩ Qs
           ·have eA : A = r.2 := by rw [← hA]; exact if_neg fun q => g2 q.2
            refine Ai ?_
            exact Ay _ ⟨rfl, rfl, by rw [eA]⟩ Qs
          ·have eA : A = r.2 := by rw [← hA]; exact if_neg fun q => g1 q.1
           refine Qk rfl (Qk rfl (Qk rfl (Qk rfl (Qm rfl (An (AO rfl (Ai ?_)))))))
           exact Ay _ ⟨rfl, rfl, by rw [eA]⟩ Qs
         ·obtain ⟨rfl, rfl, rfl⟩ := hI
          have hA1 : A = 1 ∨ A = -1 := by
           rw [← hA]; unfold Ox
           split <;> omega
          obtain ⟨B, hB⟩ : ∃ B, Pr t x.c.dim r.1 A = B := ⟨_, rfl⟩
          rw [hA, hB] at hLs
          refine AV (fun sl h' ms' => sl = [(2, .pointer (some ⟨g2, 0, none⟩)), (4, .pointer (some ⟨g4, 0, none⟩)), (5, .int .i64 k), (6, .int .i64 t), (7, .pointer (some ⟨g7, 0, none⟩)), (8, .int .i64 i), (9, .pointer (some ⟨g9, 0, none⟩)), (10, .pointer (some ⟨g10, 0, none⟩)), (11, .int .i64 j), (12, .pointer (some ⟨g12, 0, none⟩))] ∧ h4 = h' ∧ ms' = [Bf g12 81 [.int .i64 (Cz k r.1), .int .i64 B], mS, Bf g10 59 [.int .i64 (Cz k x.c.id), .int .i64 x.c.dim, vS], mO, Bf g7 29 [vO], Bf g4 29 [.slice none 0 0]]) ?_ (fun s h ms hI => ?_)
          ·refine Ac (Ab (Qm rfl (Qm rfl (Qm rfl ?_))))
           refine AQ (t := 76) rfl (fun g1 => ?_) (fun g1 => ?_)
           ·refine Qg (oF BC rfl) rfl (Qg (oL rfl underlying3 (e91 _)) rfl (Qg (BY rfl rfl rfl) rfl (Qm rfl (Qm rfl ?_))))
            refine AQ (t := 81) rfl (fun g2 => ?_) (fun g2 => ?_)
            ·refine Qg (oF Bl rfl) rfl (Qg (oL rfl underlying57 (e92 _)) rfl (Qg (Au rfl rfl) rfl (Qg (Af (j) hSd.rd.any rfl underlying57 AR rfl rfl (by omega) (by omega)) rfl (Qg (oF Cc rfl) rfl (Qg (oL rfl underlying3 (r0 _)) rfl (Qg (Au rfl rfl) rfl (Qg (AG rfl call47 rfl (ht2 _ g1)) rfl (Qm rfl (An ?_)))))))))
             refine Ax rfl (fun g3 => ?_) (fun g3 => ?_)
             ·have eB : B = -A := by rw [← hB]; exact if_pos ⟨⟨g1, g2⟩, g3⟩
              refine Ab (Qf Cv rfl (Ql rfl underlying3 (Cell.blk 0 rfl rfl) (Qx (MA rfl rfl (by omega)) rfl (Qf Cv rfl ?_))))
              refine AK 0 _ rfl Bm rfl rfl (by rfl) rfl rfl (by (simp; done)) rfl rfl ?_
              refine Ak ?_
              exact Ay _ ⟨rfl, rfl, by rw [eB]; rfl⟩ Qs
             ·have eB : B = A := by rw [← hB]; exact if_neg fun q => g3 q.2
              refine Ai ?_
              exact Ay _ ⟨rfl, rfl, by rw [eB]⟩ Qs
            ·have eB : B = A := by rw [← hB]; exact if_neg fun q => g2 q.1.2
             refine Qk rfl (Qk rfl (Qk rfl (Qk rfl (Qk rfl (Qk rfl (Qk rfl (Qk rfl (Qm rfl (An (AO rfl (Ai ?_)))))))))))
             exact Ay _ ⟨rfl, rfl, by rw [eB]⟩ Qs
           ·have eB : B = A := by rw [← hB]; exact if_neg fun q => g1 q.1.1
            refine Qk rfl (Qk rfl (Qk rfl (Qm rfl (Qm rfl (Qk rfl (Qk rfl (Qk rfl (Qk rfl (Qk rfl (Qk rfl (Qk rfl (Qk rfl (Qm rfl (An (AO rfl (Ai ?_))))))))))))))))
            exact Ay _ ⟨rfl, rfl, by rw [eB]⟩ Qs
          ·obtain ⟨rfl, rfl, rfl⟩ := hI
           refine Ab (Qf Bl rfl (Ql rfl underlying57 (Cell.blk 2 rfl rfl) (Qx (oG rfl underlying81 AR (Seg.blk 0 rfl)) rfl ?_)))
           refine Ao [_, _] rfl underlying57 AR rfl (by rfl) rfl rfl (by omega) rfl rfl rfl (fun g98 => ?_)
           refine AJ 2 hOS (RdL.one Cj (x := (Cz k r.1, B)) (List.Mem.head _) rfl) rfl underlying57 AR rfl (by omega) rfl rfl rfl Do (by (try simp only [List.length_singleton]); omega) (by (try simp only [List.length_singleton]); omega) rfl rfl rfl (fun v9 m9 hO9 => ?_)
           rw [← hLs] at hO9
           have ov9 : v9.oneCell' = true := (hO9.rd (h := h4) (ms := [m9]) (List.Mem.head _)).rd.one
           refine Qf Bl rfl ?_
           refine AK 3 _ rfl NW rfl rfl (by assumption) rfl rfl (by (simp; done)) rfl rfl ?_
           refine Ak (Aj (Bn 0 rfl (Bn 0 rfl ?_)))
           exact Ay _ ⟨v9, m9, rfl, rfl, rfl, hO9⟩ Qs
       ·obtain ⟨vS, mS, rfl, rfl, rfl, hOS⟩ := hI
        refine Ab (Qm rfl (Qx (oA rfl) rfl (Qm rfl (Ak ?_))))
        exact Am (x.c.sd.length - (j + 1)) _ (by omega) ⟨j + 1, vS, mS, rfl, rfl, l4, rfl, by omega, hOS⟩ Qs
      ·obtain rfl : j = x.c.sd.length := by omega
       refine Aw (Aa (Aa (Ag ?_)))
       exact Ay _ ⟨vS, mS, rfl, l4, rfl, hOS⟩ Qs
     ·obtain ⟨vS, mS, rfl, l4, rfl, hOS⟩ := hI
      refine Cb hOS fun h5 l5 hRS => ?_
      have ovS := hRS.rd.one
      have hOs := fun a ha => (hOs a ha).up (Hp.le_trans l3 (Hp.le_trans l4 l5))
      let ce : Ce := ⟨HY k t x.c, vS⟩
      have hce : RdL cD 2 h5 [] ce.v ce.c.sd := by
       have : ce.c.sd = L x.c.sd.length := by simp only [L]; rw [List.take_length]; rfl
       rw [this]; exact hRS
      refine Ab (Qf BX rfl (Ql rfl underlying27 (Cell.blk 2 rfl rfl) (Qx (oG rfl underlying59 AH (Seg.blk 0 rfl)) rfl ?_)))
      refine Ao [_, _, _] rfl underlying27 AH rfl (by rfl) rfl rfl (by omega) rfl rfl rfl (fun g104 => ?_)
      refine Bh 2 hO (RdL.one BP (x := ce) (List.Mem.head _) rfl) rfl underlying27 AH rfl (by omega) rfl rfl rfl (Db (l := [ce]) (h := h5) fun y hy => by rw [List.mem_singleton.1 hy]; exact hce) (by (try simp only [List.length_singleton]); omega) (by (try simp only [List.length_singleton]); omega) rfl rfl rfl (fun v9 m9 hO9 => ?_)
      have ov9 : v9.oneCell' = true := (hO9.rd (h := h5) (ms := [m9]) (List.Mem.head _)).rd.one
      refine Qf BX rfl ?_
      refine AK 3 _ rfl KL rfl rfl (by assumption) rfl rfl (by (simp; done)) rfl rfl ?_
      refine Ak (Aj (Bn 0 rfl (Bn 0 rfl ?_)))
      exact Ay _ ⟨v9, m9, O ++ [ce], rfl, Hp.le_trans l3 (Hp.le_trans l4 l5), rfl, hO9, by rw [List.map_append, hOc, hOc', List.map_append]; rfl, RdC.snoc' hOs hce⟩ Qs
   ·obtain ⟨vO, mO, O, rfl, k2, rfl, hO, hOc, hOs⟩ := hI
    refine Ab (Qm rfl (Qx (oA rfl) rfl (Qm rfl (Ak ?_))))
    exact Am (l.length - (i + 1)) _ (by omega) ⟨i + 1, vO, mO, O, rfl, rfl, Hp.le_trans l2 k2, rfl, by omega, hO, hOc, hOs⟩ Qs
  ·obtain rfl : i = l.length := by omega
   refine Aw (Aa (Aa (Ag ?_)))
   rw [List.take_length] at hOc
   exact Ay _ ⟨vO, mO, O, rfl, l2, rfl, hO, hOc, hOs⟩ Qs
 ·obtain ⟨vO, mO, O, rfl, l2, rfl, hO, hOc, hOs⟩ := hI
  refine BA fun h4 l4 k4 => (AA fun h5 l5 hS3 => ?_)
  have hR : RdC h5 vO O := ⟨hO.rdh (Hp.le_trans k4 l5), fun a ha => (hOs a ha).up (Hp.le_trans l4 l5)⟩
  have ovO := hR.q.rd.one
  have hOl : O.length ≤ 4000 := by have := congrArg List.length hOc; rw [List.length_map, List.length_map, List.length_map] at this; omega
  have hKO : CsOk O := ⟨by omega, fun a ha => by
   have : a.c ∈ (l.map Ce.c).map (HY k t) := by rw [← hOc]; exact List.mem_map.2 ⟨a, ha, rfl⟩
   obtain ⟨c, hc, e⟩ := List.mem_map.1 this
   obtain ⟨a', ha', rfl⟩ := List.mem_map.1 hc
   have h1 := (hK a' ha').n
   have h2 : a.c.sd.length = a'.c.sd.length := by rw [← e]; exact List.length_map _
   omega⟩
  refine Az (Qx (oG rfl underlying29 Bi (Seg.any hS3)) rfl (Qc call45 rfl (Ki O vO h5 hKO hR) (fun rC h10 ms10 l10 hF => ?_)))
  obtain ⟨l10', mC, C, vC, rfl, rfl, hOC, hC, hsC⟩ := hF
  have ovC : vC.oneCell' = true := (hOC.rd (h := h10) (ms := [mC]) (List.Mem.head _)).rd.one
  refine Sa 1 [_] Bi rfl (by simp [ovO, ovC]) ?_
  refine An (Aq ?_)
  exact C7 (vs := [_]) 1 rfl rfl underlying29 rfl Bi rfl rfl (⟨Hp.le_trans l1 (Hp.le_trans l2 (Hp.le_trans l4 (Hp.le_trans l5 l10))), mC, C, _, rfl, rfl, hOC, by rw [hC, hOc], hsC⟩)
end Go.Proofs.YtodheebhahdepaaGreat
namespace Go.Proofs.YtodheebhahdepaaGreat
open Go.Eng Go.RowKit
variable {n k b m j : Nat} {all : List (List Int)} {S l t s : List Int} {f : Nat → Int}
abbrev Wc (l : List Int) : Prop := l.Pairwise (· < ·)
theorem Ml {x : Int} (h : t.Sublist (l ++ [x])) : t.Sublist l ∨ ∃ t', t = t' ++ [x] ∧ t'.Sublist l := by
 obtain ⟨t1, t2, e, h1, h2⟩ := List.sublist_append_iff.1 h
 have h3 : t2 = [] ∨ t2 = [x] := by
  cases h2 with
  | cons _ h => exact .inl (List.sublist_nil.1 h)
  | cons_cons _ h => exact .inr (by rw [List.sublist_nil.1 h])
 rcases h3 with rfl | rfl
 ·left; rw [e, List.append_nil]; exact h1
 ·exact .inr ⟨t1, e, h1⟩
theorem M7 (s : List Int) (b : Nat) : ∀ n, n ≤ s.length → (DY s b n).Sublist (s.take n)
 | 0, _ => by simp [DY]
 | n + 1, h => by
  rw [GF, List.take_succ_eq_append_getElem (by omega)]
  refine (M7 s b n (by omega)).append ?_
  split
  ·simp [List.getD, show n < s.length by omega]
  ·simp
theorem Q9 {b' : Nat} (h : ∀ k, k < n → b.testBit k = b'.testBit k) : DY s b n = DY s b' n := by
 unfold DY
 congr 1
 exact List.filter_congr fun k hk => h k (List.mem_range.1 hk)
theorem J4 (s : List Int) : ∀ n, n ≤ s.length → ∀ t : List Int, t.Sublist (s.take n) → ∃ b, b < 2 ^ n ∧ t = DY s b n
 | 0, _, t, ht => ⟨0, by simp, by simpa [DY] using ht⟩
 | n + 1, h, t, ht => by
  rw [List.take_succ_eq_append_getElem (by omega)] at ht
  have h2 : 2 ^ (n + 1) = 2 ^ n + 2 ^ n := by rw [Nat.pow_succ]; omega
  rcases Ml ht with h1 | ⟨t', rfl, h1⟩
  ·obtain ⟨b, hb, e⟩ := J4 s n (by omega) t h1
   refine ⟨b, by omega, ?_⟩
   rw [GF, Nat.testBit_lt_two_pow hb, e]; simp
  ·obtain ⟨b, hb, e⟩ := J4 s n (by omega) t' h1
   refine ⟨2 ^ n + b, by omega, ?_⟩
   rw [GF, Nat.testBit_two_pow_add_eq, Nat.testBit_lt_two_pow hb, e]
   rw [Q9 (b := 2 ^ n + b) (b' := b) fun k hk => Nat.testBit_two_pow_add_gt hk b]
   simp [List.getD, show n < s.length by omega]
theorem R6 (s : List Int) (n : Nat) : DY s 0 n = [] := by simp [DY]
theorem O0 (H : SrtB all) : t ∈ Cu all s (2 ^ s.length - 1) ↔ t ∈ all ∨ (t ≠ [] ∧ t.Sublist s) ∨ (t = [] ∧ ∃ b, 1 ≤ b ∧ b ≤ 2 ^ s.length - 1 ∧ DY s b s.length = []) := by
 rw [GY H]
 constructor
 ·rintro (h | ⟨b, h1, h2, rfl⟩)
  ·exact .inl h
  ·by_cases h3 : DY s b s.length = []
   ·exact .inr (.inr ⟨h3, b, h1, h2, h3⟩)
   ·refine .inr (.inl ⟨h3, ?_⟩)
    have := M7 s b s.length (Nat.le_refl _)
    rwa [List.take_length] at this
 ·rintro (h | ⟨h1, h2⟩ | ⟨rfl, b, h1, h2, h3⟩)
  ·exact .inl h
  ·obtain ⟨b, hb, e⟩ := J4 s s.length (Nat.le_refl _) t (by rw [List.take_length]; exact h2)
   refine .inr ⟨b, ?_, by omega, e⟩
   rcases Nat.eq_zero_or_pos b with rfl | h
   ·rw [R6] at e; exact absurd e h1
   ·exact h
  ·exact .inr ⟨b, h1, h2, h3.symm⟩
theorem UX (h1 : 1 ≤ b) (h2 : b < 2 ^ s.length) : DY s b s.length ≠ [] := fun h => by
 have : b = 0 := Nat.eq_of_testBit_eq fun k => by
  rw [Nat.zero_testBit]
  by_cases hk : k < s.length
  ·cases hb : b.testBit k with
   | false => rfl
   | true =>
    have : s.getD k 0 ∈ DY s b s.length := by
     unfold DY
     exact List.mem_map.2 ⟨k, List.mem_filter.2 ⟨List.mem_range.2 hk, hb⟩, rfl⟩
    rw [h] at this; cases this
  ·exact Nat.testBit_lt_two_pow (Nat.lt_of_lt_of_le h2 (Nat.pow_le_pow_right (by decide) (by omega)))
 omega
theorem To {x : Int} (h : Wc l) (hn : ¬ KJ x l) : Wc (Jd x l) := by
 unfold KJ at hn
 unfold Jd
 have h1 : ∀ y ∈ l.takeWhile (fun y => decide (y < x)), y < x := fun y hy => by
  have := List.all_eq_true.1 (List.all_takeWhile (p := fun y : Int => decide (y < x)) (l := l)) y hy
  simpa using this
 have h2 : ∀ l : List Int, Wc l → (l.dropWhile fun y => decide (y < x)).head? ≠ some x → ∀ y ∈ l.dropWhile (fun y => decide (y < x)), x < y := fun l => by
  induction l with
  | nil => intro _ _ y hy; cases hy
  | cons a l ih =>
   intro hi hx y hy
   rw [List.dropWhile_cons] at hy hx
   split at hy
   ·rename_i g
    rw [if_pos g] at hx
    exact ih (List.pairwise_cons.1 hi).2 hx y hy
   ·rename_i g
    rw [if_neg g] at hx
    have g1 : ¬ a < x := by simpa using g
    have g2 : a ≠ x := by simpa using hx
    rcases List.mem_cons.1 hy with rfl | hy
    ·omega
    ·have := (List.pairwise_cons.1 hi).1 y hy; omega
 have h3 := h2 l h hn
 refine List.pairwise_append.2 ⟨h.sublist (List.takeWhile_sublist _), List.pairwise_cons.2 ⟨h3, h.sublist (List.dropWhile_sublist _)⟩, fun a ha b hb => ?_⟩
 have h4 := h1 a ha
 rcases List.mem_cons.1 hb with rfl | hb
 ·exact h4
 ·have := h3 b hb; omega
theorem Kj : ∀ (l acc : List Int) (s : List Int), Wc acc → Ed acc l = some s → Wc s
 | [], acc, s, h, e => by
  have : acc = s := Option.some.inj e
  rw [← this]; exact h
 | x :: l, acc, s, h, e => by
  unfold Ed at e
  split at e
  ·exact Kj l acc s h e
  ·rename_i hn
   split at e
   ·cases e
   ·refine Kj l _ s ?_ e
    exact To h hn
structure AllS (all : List (List Int)) : Prop where
 srt : SrtB all
 inc : ∀ s ∈ all, Wc s
 ne : ∀ s ∈ all, s ≠ []
 sub : ∀ s ∈ all, ∀ t : List Int, t ≠ [] → t.Sublist s → t ∈ all
theorem AllS.faces (A : AllS all) (hs : Wc s) : AllS (Cu all s (2 ^ s.length - 1)) := by
 have hm : ∀ t, t ∈ Cu all s (2 ^ s.length - 1) ↔ t ∈ all ∨ (t ≠ [] ∧ t.Sublist s) := fun t => by
  rw [O0 A.srt]
  refine ⟨fun h => ?_, fun h => ?_⟩
  ·rcases h with h | h | ⟨_, b, h1, h2, h3⟩
   ·exact .inl h
   ·exact .inr h
   ·exact absurd h3 (UX h1 (by have := Nat.two_pow_pos s.length; omega))
  ·rcases h with h | h
   ·exact .inl h
   ·exact .inr (.inl h)
 refine ⟨DO A.srt s _, fun t ht => ?_, fun t ht => ?_, fun t ht u hu hs => ?_⟩
 ·rcases (hm t).1 ht with h | h
  ·exact A.inc t h
  ·exact hs.sublist h.2
 ·rcases (hm t).1 ht with h | h
  ·exact A.ne t h
  ·exact h.1
 ·rw [hm]
  rcases (hm t).1 ht with h | h
  ·exact .inl (A.sub t h u hu hs)
  ·exact .inr ⟨hu, hs.trans h.2⟩
theorem KR : ∀ (ll : List (List Int)) (acc all : List (List Int)), AllS acc → Ct acc ll = some all → AllS all
 | [], acc, all, h, e => by
  have : acc = all := Option.some.inj e
  rw [← this]; exact h
 | l :: ll, acc, all, h, e => by
  rw [Ei] at e
  split at e
  ·cases e
  ·refine KR ll _ all ?_ e
   cases hs : Ed [] l with
   | none => exact h
   | some s => exact h.faces (Kj l [] s List.Pairwise.nil hs)
def nI (all : List (List Int)) (t : List Int) : Int := ((Cx all t).1 : Int) + 1
theorem AllS.nI_at (A : AllS all) (ht : t ∈ all) : ∃ j, ∃ hj : j < all.length, all[j] = t ∧ nI all t = (j : Int) + 1 := by
 obtain ⟨j, hj, rfl⟩ := List.getElem_of_mem ht
 exact ⟨j, hj, rfl, by unfold nI; rw [Oe A.srt hj]⟩
theorem AllS.nI_inj (A : AllS all) {u : List Int} (ht : t ∈ all) (hu : u ∈ all) (e : nI all t = nI all u) : t = u := by
 obtain ⟨j, hj, rfl, e1⟩ := A.nI_at ht
 obtain ⟨k, hk, rfl, e2⟩ := A.nI_at hu
 have : j = k := by omega
 subst this; rfl
def sk (k i : Nat) : Nat := if i < k then i else i + 1
theorem FU (k i : Nat) : (i < k ∧ sk k i = i) ∨ (k ≤ i ∧ sk k i = i + 1) := by unfold sk; split <;> omega
theorem Lo (k i : Nat) : sk k i ≠ k := by unfold sk; split <;> omega
theorem XP {i : Nat} (hi : i < n) : sk k i < n + 1 := by unfold sk; split <;> omega
theorem E5 (l : List Int) (k i : Nat) : (l.eraseIdx k)[i]? = l[sk k i]? := by
 rw [List.getElem?_eraseIdx]
 unfold sk
 split <;> rfl
def un (j k : Nat) : Nat := if k < j then k else k - 1
theorem Kd (j k : Nat) : (k < j ∧ un j k = k) ∨ (j ≤ k ∧ un j k = k - 1) := by unfold un; split <;> omega
theorem NU (h : j ≠ k) : sk j (un j k) = k := by have := Kd j k; have := FU j (un j k); omega
theorem PF (l : List Int) : (l.eraseIdx k).eraseIdx m = (l.eraseIdx (sk k m)).eraseIdx (un (sk k m) k) := by
 refine List.ext_getElem? fun i => ?_
 rw [E5, E5, E5, E5]
 congr 1
 have := FU k m
 have := FU m i
 have := FU k (sk m i)
 have := Kd (sk k m) k
 have := FU (un (sk k m) k) i
 have := FU (sk k m) (sk (un (sk k m) k) i)
 omega
theorem TT (hn : l.Nodup) (hj : j < l.length) : l[j] ∈ l.eraseIdx k ↔ j ≠ k := by
 rw [List.mem_iff_getElem?]
 constructor
 ·rintro ⟨i, h⟩ e
  rw [E5] at h
  obtain ⟨h1, h2⟩ := List.getElem?_eq_some_iff.1 h
  have := GG hn h1 hj h2
  exact Lo k i (by omega)
 ·intro h
  exact ⟨un k j, by rw [E5, NU (Ne.symm h), List.getElem?_eq_getElem hj]⟩
theorem Ji (hn : l.Nodup) (hj : j < l.length) : l[j] ∈ (l.eraseIdx k).eraseIdx m ↔ j ≠ k ∧ j ≠ sk k m := by
 rw [List.mem_iff_getElem?]
 constructor
 ·rintro ⟨i, h⟩
  rw [E5, E5] at h
  obtain ⟨h1, h2⟩ := List.getElem?_eq_some_iff.1 h
  have := GG hn h1 hj h2
  refine ⟨fun e => Lo k (sk m i) (by omega), fun e => ?_⟩
  have h3 : sk k (sk m i) = sk k m := by omega
  have h4 := Lo m i
  have := FU k m
  have := FU k (sk m i)
  omega
 ·rintro ⟨h1, h2⟩
  have h3 : m ≠ un k j := fun e => h2 (by rw [e, NU (Ne.symm h1)])
  exact ⟨un m (un k j), by rw [E5, E5, NU h3, NU (Ne.symm h1), List.getElem?_eq_getElem hj]⟩
theorem Xk (hn : l.Nodup) {a : Nat} (hl : l.length = n + 1) (hk : k < n + 1) (hm : m < n) (ha : a < n + 1) (hb : b < n) : (l.eraseIdx k).eraseIdx m = (l.eraseIdx a).eraseIdx b ↔ (k = a ∧ m = b) ∨ (k = sk a b ∧ m = un (sk a b) a) := by
 constructor
 ·intro h
  have hab := XP (k := a) hb
  have h1 : ¬ (a ≠ k ∧ a ≠ sk k m) := fun q => by
   have := (Ji hn (k := k) (m := m) (show a < l.length by omega)).2 q
   rw [h] at this
   exact ((Ji hn (show a < l.length by omega)).1 this).1 rfl
  have h2 : ¬ (sk a b ≠ k ∧ sk a b ≠ sk k m) := fun q => by
   have := (Ji hn (k := k) (m := m) (show sk a b < l.length by omega)).2 q
   rw [h] at this
   exact ((Ji hn (show sk a b < l.length by omega)).1 this).2 rfl
  have h3 := Lo a b
  have := FU k m
  have := FU a b
  have := Kd (sk a b) a
  omega
 ·rintro (⟨rfl, rfl⟩ | ⟨rfl, rfl⟩)
  ·rfl
  ·exact (PF l).symm
def rs (n : Nat) (f : Nat → Int) : Int := ((List.range n).map f).sum
theorem Mg (n : Nat) (f : Nat → Int) : rs (n + 1) f = rs n f + f n := by unfold rs; rw [List.range_succ, List.map_append, List.sum_append]; simp
theorem QK (h : ∀ i, i < n → f i = 0) : rs n f = 0 := by
 induction n with
 | zero => rfl
 | succ n ih => rw [Mg, ih fun i hi => h i (by omega), h n (by omega)]; rfl
theorem LQ (hk : k < n) (h : ∀ i, i < n → i ≠ k → f i = 0) : rs n f = f k := by
 induction n with
 | zero => omega
 | succ n ih =>
  rw [Mg]
  rcases (by omega : k = n ∨ k < n) with rfl | h1
  ·rw [QK fun i hi => h i (by omega) (by omega), Int.zero_add]
  ·rw [ih h1 fun i hi => h i (by omega), h n (by omega) (by omega), Int.add_zero]
theorem Ws {k' : Nat} (hk : k < n) (hk' : k' < n) (hne : k ≠ k') (h : ∀ i, i < n → i ≠ k → i ≠ k' → f i = 0) : rs n f = f k + f k' := by
 induction n with
 | zero => omega
 | succ n ih =>
  rw [Mg]
  rcases (by omega : k = n ∨ (k < n ∧ k' = n) ∨ (k < n ∧ k' < n)) with rfl | ⟨h1, rfl⟩ | ⟨h1, h2⟩
  ·rw [LQ (k := k') (by omega) fun i hi hn => h i (by omega) (by omega) hn, Int.add_comm]
  ·rw [LQ (k := k) h1 fun i hi hn => h i (by omega) hn (by omega)]
  ·rw [ih h1 h2 fun i hi => h i (by omega), h n (by omega) (by omega) (by omega), Int.add_zero]
theorem NF {α : Type} (f : α → List Int) : ∀ l : List α, (l.flatMap f).sum = (l.map fun a => (f a).sum).sum
 | [] => rfl
 | a :: l => by rw [List.flatMap_cons, List.sum_append, NF f l, List.map_cons, List.sum_cons]
def sg (k : Nat) : Int := 1 - 2 * ((k : Int) % 2)
theorem Pz (k : Nat) : sg (k + 1) = - sg k := by unfold sg; omega
theorem X3 (k : Nat) : sg k = 1 ∨ sg k = -1 := by unfold sg; omega
def GX (all : List (List Int)) (t : List Int) : List (Int × Int) := (List.range t.length).map fun k => (nI all (t.eraseIdx k), sg k)
def sc (all : List (List Int)) (t : List Int) : Cl := ⟨nI all t, (t.length : Int) - 1, if t.length ≤ 1 then [] else Cp (GX all t)⟩
theorem OF (A : AllS all) : (List.range all.length).map (Dh all) = all.map (sc all) := by
 refine List.ext_getElem (by simp) fun j h1 h2 => ?_
 have hj : j < all.length := by simpa using h2
 rw [List.getElem_map, List.getElem_map, List.getElem_range]
 have e : all.getD j [] = all[j] := by simp [List.getD, hj]
 unfold Dh sc
 rw [e]
 unfold nI
 rw [Oe A.srt hj]
 rfl
def Rz (all : List (List Int)) (S : List Int) (n : Nat) : Fo := (List.range (n + 1)).flatMap fun k => (List.range n).map fun m => (nI all (S.eraseIdx k), nI all ((S.eraseIdx k).eraseIdx m), sg k * sg m)
theorem Nr (all : List (List Int)) (S : List Int) (n : Nat) (g : Int × Int × Int → Int) : ((Rz all S n).map g).sum = rs (n + 1) fun k => rs n fun m => g (nI all (S.eraseIdx k), nI all ((S.eraseIdx k).eraseIdx m), sg k * sg m) := by
 unfold Rz
 rw [List.map_flatMap, NF]
 unfold rs
 simp only [List.map_map]
 rfl
theorem Uf (A : AllS all) (hS : S ∈ all) (hl : S.length = n + 1) (hn : 1 ≤ n) (hk : k < n + 1) : S.eraseIdx k ∈ all := by
 refine A.sub S hS _ (fun e => ?_) (List.eraseIdx_sublist _ _)
 have := congrArg List.length e
 rw [List.length_eraseIdx, if_pos (by omega)] at this
 simp at this; omega
theorem LX (hl : S.length = n + 1) (hk : k < n + 1) : (S.eraseIdx k).length = n := by
 rw [List.length_eraseIdx, if_pos (by omega)]; omega
theorem Nc (A : AllS all) (hS : S ∈ all) {a : Nat} (hl : S.length = n + 1) (hn : 2 ≤ n) (ha : a < n + 1) (hb : b < n) (w : Nat → Nat → Int) : (rs (n + 1) fun k => rs n fun m => if nI all ((S.eraseIdx k).eraseIdx m) = nI all ((S.eraseIdx a).eraseIdx b) then w k m else 0) = w a b + w (sk a b) (un (sk a b) a) := by
 have hnd : S.Nodup := (A.inc S hS).imp fun h e => by omega
 have hin : ∀ k m, k < n + 1 → m < n → (S.eraseIdx k).eraseIdx m ∈ all := fun k m hk hm => by
  obtain ⟨n', rfl⟩ : ∃ n', n = n' + 1 := ⟨n - 1, by omega⟩
  exact Uf A (Uf A hS hl (by omega) hk) (LX hl hk) (by omega) hm
 have hiff : ∀ k m, k < n + 1 → m < n → (nI all ((S.eraseIdx k).eraseIdx m) = nI all ((S.eraseIdx a).eraseIdx b) ↔ (k = a ∧ m = b) ∨ (k = sk a b ∧ m = un (sk a b) a)) := fun k m hk hm => by
  rw [← Xk hnd hl hk hm ha hb]
  exact ⟨fun h => A.nI_inj (hin k m hk hm) (hin a b ha hb) h, fun h => by rw [h]⟩
 have h1 := Lo a b
 have h2 := FU a b
 have h3 := Kd (sk a b) a
 rw [Ws (k := a) (k' := sk a b) ha (by omega) (Ne.symm h1) fun k hk q1 q2 => QK fun m hm => if_neg fun q => by
  rcases (hiff k m hk hm).1 q with q | q
  ·exact q1 q.1
  ·exact q2 q.1]
 rw [LQ (k := b) hb fun m hm q => if_neg fun q' => by
   rcases (hiff a m ha hm).1 q' with q' | q'
   ·exact q q'.2
   ·exact h1 q'.1.symm, if_pos rfl,
  LQ (k := un (sk a b) a) (by omega) fun m hm q => if_neg fun q' => by
   rcases (hiff (sk a b) m (by omega) hm).1 q' with q' | q'
   ·exact h1 q'.1
   ·exact q q'.2, if_pos ((hiff _ _ (by omega) (by omega)).2 (.inr ⟨rfl, rfl⟩))]
theorem Nw {e : Int × Int × Int} (h : e ∈ Rz all S n) : ∃ k m, k < n + 1 ∧ m < n ∧ e = (nI all (S.eraseIdx k), nI all ((S.eraseIdx k).eraseIdx m), sg k * sg m) := by
 obtain ⟨k, hk, h1⟩ := List.mem_flatMap.1 h
 obtain ⟨m, hm, rfl⟩ := List.mem_map.1 h1
 exact ⟨k, m, List.mem_range.1 hk, List.mem_range.1 hm, rfl⟩
theorem N9 (hk : k < n + 1) (hm : m < n) : (nI all (S.eraseIdx k), nI all ((S.eraseIdx k).eraseIdx m), sg k * sg m) ∈ Rz all S n := List.mem_flatMap.2 ⟨k, List.mem_range.2 hk, List.mem_map.2 ⟨m, List.mem_range.2 hm, rfl⟩⟩
theorem Rb (A : AllS all) (hS : S ∈ all) (hl : S.length = n + 1) (hn : 2 ≤ n) : GoodT (Rz all S n) (GX all S) where
 sum := fun e he => by
  obtain ⟨a, b, ha, hb, rfl⟩ := Nw he
  unfold Dy
  rw [Nr]
  refine (Nc A hS hl hn ha hb fun k m => sg k * sg m).trans ?_
  have h1 := Lo a b
  have h2 := FU a b
  have h3 := Kd (sk a b) a
  rcases h2 with ⟨h4, h5⟩ | ⟨h4, h5⟩
  ·rw [h5] at h3 ⊢
   obtain ⟨c, rfl⟩ : ∃ c, a = c + 1 := ⟨a - 1, by omega⟩
   rw [show un b (c + 1) = c by omega, Pz, Int.neg_mul, Int.mul_comm (sg b)]; omega
  ·rw [h5] at h3 ⊢
   rw [show un (b + 1) a = a by omega, Pz, Int.neg_mul, Int.mul_comm (sg b)]; omega
 two := fun e he => by
  obtain ⟨a, b, ha, hb, rfl⟩ := Nw he
  unfold EK
  rw [Nr]
  exact Nc A hS hl hn ha hb fun k m => 1
 con := fun a ha b hb => by
  unfold GX at ha hb
  obtain ⟨k, hk, rfl⟩ := List.mem_map.1 ha
  obtain ⟨k', hk', rfl⟩ := List.mem_map.1 hb
  have hk := List.mem_range.1 hk
  have hk' := List.mem_range.1 hk'
  show Con _ (nI all (S.eraseIdx k)) (nI all (S.eraseIdx k'))
  by_cases e : k = k'
  ·subst e; exact .refl _
  ·have h1 := Kd k k'
   have h2 := Kd k' k
   have h3 : (S.eraseIdx k).eraseIdx (un k k') = (S.eraseIdx k').eraseIdx (un k' k) := by
    rw [PF S (k := k) (m := un k k'), NU e]
   have m1 := N9 (all := all) (S := S) (n := n) (k := k) (m := un k k') (by omega) (by omega)
   have m2 := N9 (all := all) (S := S) (n := n) (k := k') (m := un k' k) (by omega) (by omega)
   rw [h3] at m1
   exact .step (.refl _) m1 m2
theorem AllS.nil : AllS [] := ⟨List.Pairwise.nil, nofun, nofun, nofun⟩
theorem T8 (ll : List (List Int)) : Rgt (Dw ll) := by
 have hbd := Ka ll
 unfold Dw at *
 cases h : Ct [] ll with
 | none => exact Rgt.nil
 | some all =>
  rw [h] at hbd
  have A := KR ll [] all AllS.nil h
  have h9 := Ef ll [] all List.Pairwise.nil (fun t ht => nomatch ht) h
  show Rgt ((List.range all.length).map (Dh all))
  have hbd1 : ((List.range all.length).map (Dh all)).length ≤ 4000 := hbd.1
  rw [OF A] at hbd1 ⊢
  have hlen : ∀ t ∈ all, 1 ≤ t.length := fun t ht => by
   have := A.ne t ht
   cases t with
   | nil => exact absurd rfl this
   | cons a t => simp
  have hnd : ((all.map (sc all)).map Cl.id).Nodup := by
   rw [List.map_map]
   refine List.pairwise_map.2 ((A.srt.imp fun {a b} h e => ?_ : all.Pairwise (· ≠ ·)).imp_of_mem fun {a b} ha hb hne e => hne (A.nI_inj ha hb e))
   rw [e, F3] at h; cases h
  have hcel : ∀ t ∈ all, Gu (all.map (sc all)) (nI all t) = sc all t := fun t ht => CM hnd (List.mem_map.2 ⟨t, ht, rfl⟩)
  have hsd : ∀ t ∈ all, 2 ≤ t.length → (sc all t).sd = Cp (GX all t) := fun t _ h => if_neg (by omega)
  have hraw : ∀ t : List Int, (GX all t).length = t.length := fun t => by simp [GX]
  have hside : ∀ t ∈ all, ∀ s ∈ (sc all t).sd, ∃ k, k < t.length ∧ 2 ≤ t.length ∧ s = (nI all (t.eraseIdx k), sg k) := fun t ht s hs => by
   by_cases h2 : 2 ≤ t.length
   ·rw [hsd t ht h2] at hs
    have hs := (CB _).mem_iff.1 hs
    unfold GX at hs
    obtain ⟨k, hk, rfl⟩ := List.mem_map.1 hs
    exact ⟨k, List.mem_range.1 hk, h2, rfl⟩
   ·have : (sc all t).sd = [] := if_pos (by omega)
    rw [this] at hs; cases hs
  have hin : ∀ t ∈ all, 2 ≤ t.length → ∀ k, k < t.length → t.eraseIdx k ∈ all := fun t ht h2 k hk => Uf A ht (n := t.length - 1) (by omega) (by omega) (by omega)
  refine ⟨hbd1, hnd, fun x hx => ?_, fun x hx => ?_, fun x hx => ?_, fun x hx => ?_, fun x hx s hs => ?_, fun x hx s hs => ?_, fun x hx hd => ?_, fun x hx hd => ?_⟩ <;> obtain ⟨t, ht, rfl⟩ := List.mem_map.1 hx <;> have hl1 := hlen t ht <;> have hl9 := h9 t ht
  ·show 1 ≤ nI all t
   unfold nI; omega
  ·show 0 ≤ (t.length : Int) - 1 ∧ (t.length : Int) - 1 ≤ 8
   omega
  ·unfold BD
   show ¬ (((t.length : Int) - 1 = 0 ∧ 0 < (sc all t).sd.length) ∨ ((t.length : Int) - 1 = 1 ∧ (sc all t).sd.length ≠ 2) ∨ (1 < (t.length : Int) - 1 ∧ ((sc all t).sd.length < 2 ∨ 64 < (sc all t).sd.length)))
   by_cases h2 : 2 ≤ t.length
   ·rw [hsd t ht h2, FE, hraw]; omega
   ·have : (sc all t).sd = [] := if_pos (by omega)
    rw [this]; simp; omega
  ·by_cases h2 : 2 ≤ t.length
   ·rw [hsd t ht h2, ((CB (GX all t)).map Prod.fst).nodup_iff]
    unfold GX
    rw [List.map_map]
    refine List.pairwise_map.2 ((List.nodup_range (n := t.length)).imp_of_mem fun {a b} ha hb hne e => hne ?_)
    have ha := List.mem_range.1 ha
    have hb := List.mem_range.1 hb
    have e := A.nI_inj (hin t ht h2 a ha) (hin t ht h2 b hb) e
    have hnd : t.Nodup := (A.inc t ht).imp fun h e => by omega
    have h3 : t[a] ∉ t.eraseIdx a := fun q => (TT hnd ha).1 q rfl
    rw [e, TT hnd ha] at h3
    exact Classical.not_not.1 h3
   ·have : (sc all t).sd = [] := if_pos (by omega)
    rw [this]; simp
  ·obtain ⟨k, hk, h2, rfl⟩ := hside t ht s hs
   refine ⟨_, List.mem_map.2 ⟨_, hin t ht h2 k hk, rfl⟩, rfl, ?_⟩
   show ((t.eraseIdx k).length : Int) - 1 = (t.length : Int) - 1 - 1
   rw [LX (n := t.length - 1) (by omega) (by omega)]; omega
  ·obtain ⟨k, hk, h2, rfl⟩ := hside t ht s hs
   exact X3 k
  ·have hd : (t.length : Int) - 1 = 1 := hd
   have h2 : t.length = 2 := by omega
   rw [hsd t ht (by omega), H7 ((CB (GX all t)).map Prod.snd)]
   unfold GX
   rw [h2]; rfl
  ·have hd : 2 ≤ (t.length : Int) - 1 := hd
   obtain ⟨n, hl⟩ : ∃ n, t.length = n + 1 := ⟨t.length - 1, by omega⟩
   have h2 : 2 ≤ t.length := by omega
   refine (Rb A ht hl (by omega)).perm ?_ (by rw [hsd t ht h2]; exact (CB _).symm)
   unfold FV
   rw [hsd t ht h2]
   have e : Rz all t n = KF (fun c => if c = 0 then [] else GX all (all.getD (c - 1).toNat [])) (GX all t) := by
    unfold KF GX
    rw [List.flatMap_map, hl]
    refine Et fun k hk => ?_
    have hk := List.mem_range.1 hk
    obtain ⟨j, hj, e1, e2⟩ := A.nI_at (hin t ht h2 k (by omega))
    show _ = List.map _ (if nI all (t.eraseIdx k) = 0 then [] else _)
    rw [if_neg (by omega)]
    have e3 : all.getD (nI all (t.eraseIdx k) - 1).toNat [] = t.eraseIdx k := by
     rw [e2, show (((j : Int) + 1) - 1).toNat = j by omega]
     simp [List.getD, hj, e1]
    rw [e3, List.map_map, LX hl (by omega)]
    rfl
   rw [e]
   refine HU (CB _).symm fun s hs => List.Perm.map _ ?_
   unfold GX at hs
   obtain ⟨k, hk, rfl⟩ := List.mem_map.1 hs
   have hk := List.mem_range.1 hk
   obtain ⟨j, hj, e1, e2⟩ := A.nI_at (hin t ht h2 k hk)
   show List.Perm (if nI all (t.eraseIdx k) = 0 then [] else _) (Gu (all.map (sc all)) (nI all (t.eraseIdx k))).sd
   rw [if_neg (by omega), hcel _ (hin t ht h2 k hk)]
   have e3 : all.getD (nI all (t.eraseIdx k) - 1).toNat [] = t.eraseIdx k := by
    rw [e2, show (((j : Int) + 1) - 1).toNat = j by omega]
    simp [List.getD, hj, e1]
   rw [e3, hsd _ (hin t ht h2 k hk) (by rw [LX hl (by omega)]; omega)]
   exact (CB _).symm
theorem UK (ll : List (List Int)) : ∀ x ∈ Dw ll, x.id ≤ (Dw ll).length := by
 unfold Dw
 cases h : Ct [] ll with
 | none => nofun
 | some all =>
  intro x hx
  obtain ⟨i, hi, rfl⟩ := List.mem_map.1 hx
  have hi := List.mem_range.1 hi
  show (i : Int) + 1 ≤ (((List.range all.length).map (Dh all)).length : Nat)
  rw [List.length_map, List.length_range]; omega
end Go.Proofs.YtodheebhahdepaaGreat

namespace Go.Proofs.YtodheebhahdepaaGreat
open Go.Eng Go.RowKit
def SA (l : List Cl) : List Cl := l.map Cl.can
structure XE (o : List Cl) : Prop where
 n : o.length ≤ 4000
 inc : o.Pairwise fun a b => a.id < b.id
 pos : ∀ x ∈ o, 1 ≤ x.id
 fst : ∀ x ∈ o, BR o x = 0
 snd : ∀ x ∈ o, 2 ≤ x.dim → Dk o x = 0
theorem Oy {l : List Cl} (B : XE (SA l)) : Rgt l := by
 have R : RgtF (SA l) := ⟨B.n, B.inc, B.pos, fun x hx => by obtain ⟨y, _, rfl⟩ := List.mem_map.1 hx; exact ⟨y, rfl⟩, B.fst, B.snd⟩
 refine R.rgt.sim ⟨by unfold SA; rw [List.length_map], by unfold SA; rw [List.map_map]; exact List.Perm.refl _, fun x hx => ⟨x.can, List.mem_map.2 ⟨x, hx, rfl⟩, rfl, rfl, (CB _).symm⟩⟩
instance (x : Cl) : DecidablePred (B6 [] x) := fun i => inferInstance
theorem Yi (n : Nat) (h : n = 2 ∨ n = 3 ∨ n = 4 ∨ n = 5 ∨ n = 6) : XE (SA (Ep n)) := by
 rcases h with rfl | rfl | rfl | rfl | rfl <;> exact ⟨by decide, by decide, by decide, by decide, by decide⟩
theorem TR (n : Nat) (h : n = 2 ∨ n = 3 ∨ n = 4 ∨ n = 5 ∨ n = 6) : Rgt (Ep n) := Oy (Yi n h)
theorem VK (n : Nat) (h : n = 2 ∨ n = 3 ∨ n = 4 ∨ n = 5 ∨ n = 6) : ∀ x ∈ Ep n, x.id ≤ 210 := by
 rcases h with rfl | rfl | rfl | rfl | rfl <;> decide
open Go.Proofs.Tryz
variable {n : Nat} {l : List Cl}
def N2 (l : List Cl) : Prop := Rgt l ∧ (l.length ≤ 45 → ∀ x ∈ l, x.id ≤ 210)
def Te (o : List Cl) : Prop := RgtF o ∧ o.length ≤ 45 ∧ ∀ x ∈ o, x.id ≤ 1000
theorem J5 (ll : List (List Int)) : N2 (Dw ll) := ⟨T8 ll, fun h x hx => by have := UK ll x hx; omega⟩
theorem Gg (hn : n ≤ 210) (h : PT n l) : N2 l := by
 rcases h with rfl | ⟨out, rfl, h1, h2, h3⟩
 ·exact ⟨Rgt.nil, fun _ => nofun⟩
 ·refine ⟨(Iw h1).1.rgt, fun _ x hx => ?_⟩
  obtain ⟨a, ha, rfl⟩ := EN hx
  have : a.can.id = a.id := rfl
  have := h3 a ha
  omega
theorem Ub (h : n = 2 ∨ n = 3 ∨ n = 4 ∨ n = 5 ∨ n = 6) : N2 (ordF (Ep n)) := by
 refine ⟨(TR n h).sim (Lk _), fun _ x hx => ?_⟩
 obtain ⟨a, ha, rfl⟩ := EN hx
 exact VK n h a ha
theorem Us (h : N2 l) (hl : l.length ≤ 45) (b : Int) : Te (ordF (l.map (HY (OW b) (Vk b)))) := by
 have R := h.1.ren (SR b) (t := Vk b) (h.2 hl)
 refine ⟨R.ordF, by rw [Fe, List.length_map]; exact hl, fun x hx => ?_⟩
 obtain ⟨a, ha, rfl⟩ := EN hx
 obtain ⟨c, hc, rfl⟩ := List.mem_map.1 ha
 exact Wi (by have := h.2 hl c hc; omega)
theorem MZ (h : PT n l) : l.length ≤ n := by
 rcases h with rfl | ⟨out, rfl, _, h, _⟩
 ·exact Nat.zero_le _
 ·rw [Fe]; omega
def F6 (n : Nat) : List (List Int) := if n = 0 then [[0, 1]] else if n = 1 then [[0, 1], [1, 2]] else [[0, 1], [1, 2], [0, 2]]
theorem EY (n : Nat) : (F6 n).length ≤ 100000 ∧ ∀ l ∈ F6 n, l.length ≤ 100000 := by
 unfold F6
 split
 ·decide
 ·split <;> decide
theorem M5 (h : n < 3) : (Dw (F6 n)).length ≤ 6 := by
 rcases (by omega : n = 0 ∨ n = 1 ∨ n = 2) with rfl | rfl | rfl <;> decide
theorem M6 {m : Nat} {A B : List Ce} (hn : n < 3) (hm : m < 3) (hA : A.map Ce.c = Dw (F6 n)) (hB : B.map Ce.c = Dw (F6 m)) : A.length * B.length ≤ 210 := by
 have h1 := M5 hn
 have h2 := M5 hm
 rw [← hA, List.length_map] at h1
 rw [← hB, List.length_map] at h2
 have := So h1 h2
 omega
theorem RH (n : Int) : 4 ≤ (EB n).length := by
 unfold EB
 split
 ·decide
 ·split <;> decide
theorem RdEs.app {h : Hp} {es es' : List Value} {ll ll' : List (List Int)} (H : RdEs h es ll) (H' : RdEs h es' ll') : RdEs h (es ++ es') (ll ++ ll') := by
 refine ⟨by rw [List.length_append, List.length_append, H.1, H'.1], fun i h1 h2 => ?_⟩
 rw [List.length_append] at h1 h2
 have e1 := H.1
 by_cases h3 : i < es.length
 ·rw [List.getElem_append_left h3, List.getElem_append_left (by omega)]
  exact H.2 i h3 (by omega)
 ·rw [List.getElem_append_right (by omega), List.getElem_append_right (by omega)]
  have e2 : i - ll.length = i - es.length := by omega
  simp only [e2]
  exact H'.2 (i - es.length) (by omega) (by omega)
theorem RdEs.tak {h : Hp} {es : List Value} {ll : List (List Int)} (H : RdEs h es ll) (j : Nat) : RdEs h (es.take j) (ll.take j) := by
 refine ⟨by rw [List.length_take, List.length_take, H.1], fun i h1 h2 => ?_⟩
 rw [List.length_take] at h1 h2
 rw [List.getElem_take, List.getElem_take]
 exact H.2 i (by omega) (by omega)
theorem LL (ll : List (List Int)) : (DH ll).length ≤ 100000 ∧ ∀ l ∈ DH ll, l.length ≤ 100000 := by
 unfold DH
 refine ⟨by rw [List.length_map, List.length_take]; omega, fun l hl => ?_⟩
 obtain ⟨s, _, rfl⟩ := List.mem_map.1 hl
 rw [List.length_map, List.length_take]; omega
theorem Mv (n : Int) : (EB n).length ≤ 100000 ∧ ∀ l ∈ EB n, l.length ≤ 100000 := by
 unfold EB
 split
 ·decide
 ·split <;> decide
theorem Nl (ll : List (List Int)) : (DH ll).length ≤ 5 := by unfold DH; rw [List.length_map, List.length_take]; omega
theorem TU (ll : List (List Int)) (b : Int) (j : Nat) : (DH ll ++ (EB b).take j).length ≤ 100000 ∧ ∀ l ∈ DH ll ++ (EB b).take j, l.length ≤ 100000 := by
 have h1 := Nl ll
 have h2 : (EB b).length ≤ 14 := by
  unfold EB
  split
  ·decide
  ·split <;> decide
 refine ⟨by rw [List.length_append, List.length_take]; omega, fun l hl => ?_⟩
 rcases List.mem_append.1 hl with h | h
 ·exact (LL ll).2 l h
 ·exact (Mv b).2 l (List.mem_of_mem_take h)
theorem WV {A : List Ce} (h : N2 (A.map Ce.c)) : MP A := VW rfl (by have := h.1.n; omega) fun c hc => by
 have h1 := h.1.dim c hc
 have h2 := h.1.num c hc
 unfold BD at h2
 omega
theorem Vd (kind b : Int) (ll : List (List Int)) (es0 : List Value) (vS : Value) (hp : Hp) (hk : Bq kind) (hb : Bq b) (hi : ∀ l ∈ ll, ∀ x ∈ l, Bq x) (hV : RdL cW 1 hp [] vS es0) (hE : RdEs hp es0 ll) : FnT Tryz.prog 5 #[.agg #[.int .i64 kind, vS, .int .i64 b]] hp [] (fun r h' ms' => hp.le h' ∧ Wk h' r ms' Te) := by
 have o1 := hV.rd.one
 have hk1 := hk.1
 have hk2 := hk.2
 have hb1 := hb.1
 have hb2 := hb.2
 refine Av func5 ntmps5 rfl rfl (fun w0 hw0 => ?_)
 simp only [A5]
 refine Az ?_
 refine A8 [_, _, _] rfl rfl (by rfl) rfl rfl rfl (fun g1 => ?_)
 refine C4 [.slice none 0 0] rfl Bi rfl rfl (fun g2 => An (CZ 1 rfl fun h1 l1 hS => ?_))
 have hV := hV.up l1
 have hE := hE.up l1
 have hA := Seg.all hS
 have c0 : ∀ ms, Cell h1 ms (⟨g1, 0, none⟩ : Addr) (.int .i64 kind) := fun ms => hA 0 _ rfl ms
 have c1 : ∀ ms, Cell h1 ms (⟨g1, 1, none⟩ : Addr) vS := fun ms => hA 1 _ rfl ms
 have c2 : ∀ ms, Cell h1 ms (⟨g1, 2, none⟩ : Addr) (.int .i64 b) := fun ms => hA 2 _ rfl ms
 refine Az (C4 [.slice none 0 0] rfl Bi rfl rfl (fun g3 => An ?_))
 refine AV (fun sl h' ms' => ∃ (vC : Value) (mC : Hp) (C : List Ce), sl = [(1, .pointer (some ⟨g1, 0, none⟩)), (2, .pointer (some ⟨g2, 0, none⟩)), (3, .pointer (some ⟨g3, 0, none⟩))] ∧ h1.le h' ∧ ms' = [mC, Bf g3 29 [vC], Bf g2 29 [.slice none 0 0]] ∧ OwnL cC 3 59 mC vC C ∧ N2 (C.map Ce.c) ∧ ∀ a ∈ C, RdL cD 2 h' [] a.v a.c.sd) ?_ (fun s h ms hI => ?_)
 ·obtain ⟨K, hK⟩ : ∃ K, kind % 8 = K := ⟨_, rfl⟩
  have hK8 : 0 ≤ K ∧ K ≤ 7 := by omega
  refine Az (Qf W2 rfl (Ql rfl underlying3 (c0 _) (Qx (AG rfl call14 rfl (Eg kind 8 hk (by decide) h1 _)) rfl (An (Ah ?_)))))
  rw [hK]
  refine AV (fun sl h' ms' => ∃ bb : Bool, sl = [(1, .pointer (some ⟨g1, 0, none⟩)), (2, .pointer (some ⟨g2, 0, none⟩)), (3, .pointer (some ⟨g3, 0, none⟩)), (9, .int .i64 K), (10, .bool bb)] ∧ h1 = h' ∧ ms' = [Bf g3 29 [.slice none 0 0], Bf g2 29 [.slice none 0 0]] ∧ (bb = true ↔ K ≤ 2)) ?_ (fun s h ms hI => ?_)
  ·refine Ac (Ab (Qm rfl (Qm rfl (An ?_))))
   refine Ax rfl (fun k0 => ?_) (fun k0 => ?_)
   ·refine Ai ?_
    exact Ay _ ⟨decide (K = 0), rfl, rfl, rfl, by rw [decide_eq_true_iff]; omega⟩ Qs
   ·refine Ac (Ab (Qm rfl (Qm rfl (An ?_))))
    refine Ax rfl (fun k1 => ?_) (fun k1 => ?_)
    ·refine Ai ?_
     exact Ay _ ⟨decide (K = 1), rfl, rfl, rfl, by rw [decide_eq_true_iff]; omega⟩ Qs
    ·refine Ab (Qm rfl (Qm rfl (Ak ?_)))
     exact Ay _ ⟨decide (K = 2), rfl, rfl, rfl, by rw [decide_eq_true_iff]; omega⟩ Qs
  ·obtain ⟨bb, rfl, rfl, rfl, hbb⟩ := hI
   refine Bu rfl (fun k2 => ?_) (fun k2 => ?_)
   ·refine Ab (Qf TI rfl (Ql rfl underlying22 (c1 _) (Qc call16 rfl (QR ll es0 vS h1 hi hV hE) (fun rs h2 ms2 l2 hF => ?_))))
    obtain ⟨l2', m2, es, rfl, hO2, hE2⟩ := hF
    refine A7 hO2 fun h3 l3 hV2 => ?_
    have hE2 := hE2.up l3
    have ov2 := hV2.rd.one
    refine Qc call15 rfl (BU (DH ll) es rs h3 (LL ll).1 (LL ll).2 hV2 hE2) (fun rC h4 ms4 l4 hF => ?_)
    obtain ⟨l4', mC, C, vC, rfl, rfl, hOC, hC, hs⟩ := hF
    have ovC : vC.oneCell' = true := (hOC.rd (h := h4) (ms := [mC]) (List.Mem.head _)).rd.one
    refine Sa 1 [_] Bi rfl (by simp [o1, ov2, ovC]) ?_
    refine Ak (Aj ?_)
    exact Ay _ ⟨vC, mC, C, rfl, Hp.le_trans l2 (Hp.le_trans l3 l4), rfl, hOC, by rw [hC]; exact J5 _, hs⟩ Qs
   ·have k2 : ¬ K ≤ 2 := fun q => by rw [hbb.2 q] at k2; cases k2
    refine Az (Qm rfl (Qm rfl (An ?_)))
    refine Ax rfl (fun k3 => ?_) (fun k3 => ?_)
    ·refine Ab (Qf Hh rfl (Ql rfl underlying3 (c2 _) (Qc call17 rfl (Kp b h1 hb) (fun rs h2 ms2 l2 hF => ?_))))
     obtain ⟨l2', m2, es, rfl, hO2, hE2⟩ := hF
     refine A7 hO2 fun h3 l3 hV2 => ?_
     have hE2 := hE2.up l3
     have ov2 := hV2.rd.one
     refine Qc call15 rfl (BU (EB b) es rs h3 (Mv b).1 (Mv b).2 hV2 hE2) (fun rC h4 ms4 l4 hF => ?_)
     obtain ⟨l4', mC, C, vC, rfl, rfl, hOC, hC, hs⟩ := hF
     have ovC : vC.oneCell' = true := (hOC.rd (h := h4) (ms := [mC]) (List.Mem.head _)).rd.one
     refine Sa 1 [_] Bi rfl (by simp [o1, ov2, ovC]) ?_
     refine Ak (Aj ?_)
     exact Ay _ ⟨vC, mC, C, rfl, Hp.le_trans l2 (Hp.le_trans l3 l4), rfl, hOC, by rw [hC]; exact J5 _, hs⟩ Qs
    ·refine Ac (Ab (Qm rfl (Qm rfl (An ?_))))
     refine Ax rfl (fun k4 => ?_) (fun k4 => ?_)
     ·have hd3 := JJ hb (k := 3) (by decide)
      have h31 := hd3.1
      have h32 := hd3.2
      obtain ⟨n1, hn1⟩ : ∃ n : Nat, b % 3 = (n : Int) := ⟨(b % 3).toNat, by omega⟩
      obtain ⟨n2, hn2⟩ : ∃ n : Nat, b.tdiv 3 % 3 = (n : Int) := ⟨(b.tdiv 3 % 3).toNat, by omega⟩
      have hm1 : ∀ h ms, FnV Tryz.prog 14 #[.int .i64 b, .int .i64 3] h ms (.int .i64 n1) := fun h ms => by rw [← hn1]; exact Eg b 3 hb (by decide) h ms
      have hm2 : ∀ h ms, FnV Tryz.prog 14 #[.int .i64 (b.tdiv 3), .int .i64 3] h ms (.int .i64 n2) := fun h ms => by rw [← hn2]; exact Eg (b.tdiv 3) 3 hd3 (by decide) h ms
      have hn13 : n1 < 3 := by omega
      have hn23 : n2 < 3 := by omega
      have hE0 := RdEs.nil h1
      refine Az (Qf Hh rfl (Ql rfl underlying3 (c2 _) (Qx (AG rfl call14 rfl (hm1 _ _)) rfl (Qm rfl (BG (AE [(0, _), (1, _)] [.int .i64 0, .int .i64 0] [_, _] rfl underlying25 Bm rfl (by omega) (by kernel_rfl) Qt rfl rfl rfl rfl (fun g29 => AN fun h2 l2 m2 => ?_)))))))
      have hE1 := (hE0.up l2).snoc (RdEs.one2 m2)
      refine Ao [_] rfl underlying22 Cn rfl (by rfl) rfl rfl (by omega) rfl rfl rfl (fun g30 => ?_)
      refine AN fun h3 l3 m3 => ?_
      have hE1 := hE1.up l3
      have hV1 := (OwnL.blk (g := g30) (el := 25) (F := cW) (l := [_]) 1 Dn rfl (by decide)).rdh (ms := []) m3
      have hE0 := RdEs.nil h3
      refine AE [(0, _), (1, _)] [.int .i64 0, .int .i64 0] [_, _] rfl underlying25 Bm rfl (by omega) (by kernel_rfl) Qt rfl rfl rfl rfl (fun g31 => AN fun h4 l4 m4 => ?_)
      have hE2 := (hE0.up l4).snoc (RdEs.one2 m4)
      refine AE [(0, _), (1, _)] [.int .i64 0, .int .i64 0] [_, _] rfl underlying25 Bm rfl (by omega) (by kernel_rfl) Qt rfl rfl rfl rfl (fun g32 => AN fun h5 l5 m5 => ?_)
      have hE2 := (hE2.up l5).snoc (RdEs.one2 m5)
      refine AE [(0, _), (1, _)] [.slice none 0 0, .slice none 0 0] [_, _] rfl underlying22 Cn rfl (by omega) (by kernel_rfl) Qt rfl rfl rfl rfl (fun g33 => AN fun h6 l6 m6 => ?_)
      have hE2 := hE2.up l6
      have hV2 := (OwnL.blk (g := g33) (el := 25) (F := cW) (l := [_, _]) 2 Dn rfl (by decide)).rdh (ms := []) m6
      have hE0 := RdEs.nil h6
      refine AE [(0, _), (1, _)] [.int .i64 0, .int .i64 0] [_, _] rfl underlying25 Bm rfl (by omega) (by kernel_rfl) Qt rfl rfl rfl rfl (fun g34 => AN fun h7 l7 m7 => ?_)
      have hE3 := (hE0.up l7).snoc (RdEs.one2 m7)
      refine AE [(0, _), (1, _)] [.int .i64 0, .int .i64 0] [_, _] rfl underlying25 Bm rfl (by omega) (by kernel_rfl) Qt rfl rfl rfl rfl (fun g35 => AN fun h8 l8 m8 => ?_)
      have hE3 := (hE3.up l8).snoc (RdEs.one2 m8)
      refine AE [(0, _), (1, _)] [.int .i64 0, .int .i64 0] [_, _] rfl underlying25 Bm rfl (by omega) (by kernel_rfl) Qt rfl rfl rfl rfl (fun g36 => AN fun h9 l9 m9 => ?_)
      have hE3 := (hE3.up l9).snoc (RdEs.one2 m9)
      refine AE [(0, _), (1, _), (2, _)] [.slice none 0 0, .slice none 0 0, .slice none 0 0] [_, _, _] rfl underlying22 Cn rfl (by omega) (by kernel_rfl) Qt rfl rfl rfl rfl (fun g37 => AN fun ha la ma => ?_)
      have hE3 := hE3.up la
      have hV3 := (OwnL.blk (g := g37) (el := 25) (F := cW) (l := [_, _, _]) 3 Dn rfl (by decide)).rdh (ms := []) ma
      refine Qx (QW [.slice none 0 0, .slice none 0 0, .slice none 0 0] [(0, [_]), (1, [_]), (2, [_])] [_, _, _] rfl underlying51 Wx rfl Um rfl Qt rfl) rfl (C4 [.slice none 0 0, .slice none 0 0, .slice none 0 0] rfl Wx rfl rfl (fun g5 => ?_))
      refine Sa 0 [_, _, _] Wx rfl (by simp [Value.oneCell']) ?_
      refine An (AA fun hb' lb hS5 => ?_)
      have l9b := Hp.le_trans l9 (Hp.le_trans la lb)
      have l6b := Hp.le_trans l7 (Hp.le_trans l8 l9b)
      have l3b := Hp.le_trans l4 (Hp.le_trans l5 (Hp.le_trans l6 l6b))
      have l1b := Hp.le_trans l2 (Hp.le_trans l3 l3b)
      have c2 : ∀ ms, Cell hb' ms (⟨g1, 2, none⟩ : Addr) (.int .i64 b) := fun ms => (c2 ms).le l1b
      have hA5 := Seg.all hS5
      have hArr : ∀ n : Nat, n < 3 → ∃ v es, (∀ ms, Cell hb' ms ((⟨g5, 0, none⟩ : Addr).add (n * 1)) v) ∧ RdL cW 1 hb' [] v es ∧ RdEs hb' es (F6 n) := fun n hn => by
       rcases (by omega : n = 0 ∨ n = 1 ∨ n = 2) with rfl | rfl | rfl
       ·exact ⟨_, _, fun ms => hA5 0 _ rfl ms, hV1.up l3b, hE1.up l3b⟩
       ·exact ⟨_, _, fun ms => hA5 1 _ rfl ms, hV2.up l6b, hE2.up l6b⟩
       ·exact ⟨_, _, fun ms => hA5 2 _ rfl ms, hV3.up lb, hE3.up lb⟩
      obtain ⟨v1, es1, q1, hV1, hE1⟩ := hArr n1 hn13
      obtain ⟨v2, es2, q2, hV2, hE2⟩ := hArr n2 hn23
      have ov1 := hV1.rd.one
      have ov2 := hV2.rd.one
      refine B4 (n := 13) (bs := [true, true, true, false, true, true, true, true, true, true, false, false, false]) [true, true, true, false, true, true, true, true, true, true] CN (by kernel_rfl) (by kernel_rfl) rfl rfl (Qq rfl (Qp rfl (Gy (n1) rfl underlying51 Um rfl rfl (by omega) (by omega)) (QL rfl underlying22 (q1 _) (QF Hh rfl (QL rfl underlying3 (c2 _) (Qp rfl (LR rfl rfl rfl (by omega) (by omega)) (Qp rfl (AG rfl call14 rfl (hm2 _ _)) (Qp rfl (Gy (n2) rfl underlying51 Um rfl rfl (by omega) (by omega)) (QL rfl underlying22 (q2 _) ?_)))))))))
      unfold GI
      simp only [List.cons_append, List.nil_append]
      refine A0 [3, 10] (by kernel_rfl) rfl ?_
      refine AB rfl ?_ ?_
      ·refine Qc call15 rfl (BU (F6 n1) es1 v1 _ (EY n1).1 (EY n1).2 (hV1.up (Hp.le_refl _)) (hE1.up (Hp.le_refl _))) (fun rA hA msA lA hF => ?_)
       obtain ⟨lA', mA, A, vA, rfl, rfl, hOA, hAc, hsA⟩ := hF
       refine A7 hOA fun hA2 lA2 hRA => ?_
       have lcA := Hp.le_trans lA lA2
       have lbA : hb'.le hA2 := Hp.le_trans (Hp.le_refl _) lcA
       have hRA : RdC hA2 vA A := ⟨hRA, fun a ha => (hsA a ha).up lA2⟩
       have ovA := hRA.q.rd.one
       refine Qa (Qo 10 rfl (Qc call15 rfl (BU (F6 n2) es2 v2 _ (EY n2).1 (EY n2).2 (hV2.up (by assumption)) (hE2.up (by assumption))) (fun rB hB msB lB hF => ?_)))
       obtain ⟨lB', mB, B, vB, rfl, rfl, hOB, hBc, hsB⟩ := hF
       refine A7 hOB fun hB2 lB2 hRB => ?_
       have lcB := Hp.le_trans lB lB2
       have lbB : hb'.le hB2 := Hp.le_trans (by assumption) lcB
       have hRB : RdC hB2 vB B := ⟨hRB, fun a ha => (hsB a ha).up lB2⟩
       have ovB := hRB.q.rd.one
       refine Qa (Qo 11 rfl (Qc call18 rfl (EL A B vA vB _ (Ee hAc) (Ee hBc) (hRA.up (by assumption)) (hRB.up (Hp.le_refl _))) (fun rR hR msR lR hF => ?_)))
       obtain ⟨lR', mC, C, vC, rfl, rfl, hOC, hsC, hC⟩ := hF
       have lbR : hb'.le hR := Hp.le_trans (by assumption) lR
       have hn36 : A.length * B.length ≤ 210 := M6 hn13 hn23 hAc hBc
       have ovC : vC.oneCell' = true := (hOC.rd (h := hR) (ms := [mC]) (List.Mem.head _)).rd.one
       refine Qa (Qo 12 rfl ?_)
       refine Sa 1 [_] Bi rfl (by simp [o1, ov1, ov2, ovA, ovB, ovC]) ?_
       refine Qa (Qe (Aj ?_))
       exact Ay _ ⟨vC, mC, C, rfl, Hp.le_trans l1b lbR, rfl, hOC, Gg hn36 (IA hC rfl), hsC⟩ Qs
      refine AB rfl ?_ ?_
      ·refine Qc call15 rfl (BU (F6 n2) es2 v2 _ (EY n2).1 (EY n2).2 (hV2.up (Hp.le_refl _)) (hE2.up (Hp.le_refl _))) (fun rB hB msB lB hF => ?_)
       obtain ⟨lB', mB, B, vB, rfl, rfl, hOB, hBc, hsB⟩ := hF
       refine A7 hOB fun hB2 lB2 hRB => ?_
       have lcB := Hp.le_trans lB lB2
       have lbB : hb'.le hB2 := Hp.le_trans (Hp.le_refl _) lcB
       have hRB : RdC hB2 vB B := ⟨hRB, fun a ha => (hsB a ha).up lB2⟩
       have ovB := hRB.q.rd.one
       refine Qa (Qo 3 rfl (Qc call15 rfl (BU (F6 n1) es1 v1 _ (EY n1).1 (EY n1).2 (hV1.up (by assumption)) (hE1.up (by assumption))) (fun rA hA msA lA hF => ?_)))
       obtain ⟨lA', mA, A, vA, rfl, rfl, hOA, hAc, hsA⟩ := hF
       refine A7 hOA fun hA2 lA2 hRA => ?_
       have lcA := Hp.le_trans lA lA2
       have lbA : hb'.le hA2 := Hp.le_trans (by assumption) lcA
       have hRA : RdC hA2 vA A := ⟨hRA, fun a ha => (hsA a ha).up lA2⟩
       have ovA := hRA.q.rd.one
       refine Qa (Qo 11 rfl (Qc call18 rfl (EL A B vA vB _ (Ee hAc) (Ee hBc) (hRA.up (Hp.le_refl _)) (hRB.up (by assumption))) (fun rR hR msR lR hF => ?_)))
       obtain ⟨lR', mC, C, vC, rfl, rfl, hOC, hsC, hC⟩ := hF
       have lbR : hb'.le hR := Hp.le_trans (by assumption) lR
       have hn36 : A.length * B.length ≤ 210 := M6 hn13 hn23 hAc hBc
       have ovC : vC.oneCell' = true := (hOC.rd (h := hR) (ms := [mC]) (List.Mem.head _)).rd.one
       refine Qa (Qo 12 rfl ?_)
       refine Sa 1 [_] Bi rfl (by simp [o1, ov1, ov2, ovA, ovB, ovC]) ?_
       refine Qa (Qe (Aj ?_))
       exact Ay _ ⟨vC, mC, C, rfl, Hp.le_trans l1b lbR, rfl, hOC, Gg hn36 (IA hC rfl), hsC⟩ Qs
      exact A3
     ·refine Ac (Ab (Qm rfl (Qm rfl (An ?_))))
      refine Ax rfl (fun k5 => ?_) (fun k5 => ?_)
      ·obtain ⟨n, hn⟩ : ∃ n : Nat, 2 + b % 5 = (n : Int) := ⟨(2 + b % 5).toNat, by omega⟩
       have hn5 : n = 2 ∨ n = 3 ∨ n = 4 ∨ n = 5 ∨ n = 6 := by omega
       have hpo := OU n h1 (by omega)
       rw [← hn] at hpo
       refine Ab (Qf Hh rfl (Ql rfl underlying3 (c2 _) (Qx (AG rfl call14 rfl (Eg b 5 hb (by decide) h1 _)) rfl (Qx (oA rfl) rfl (Qc call19 rfl (hpo) (fun rC h4 ms4 l4 hF => ?_))))))
       obtain ⟨l4', mC, C, vC, rfl, rfl, hOC, hC, hs⟩ := hF
       have ovC : vC.oneCell' = true := (hOC.rd (h := h4) (ms := [mC]) (List.Mem.head _)).rd.one
       refine Sa 1 [_] Bi rfl (by simp [o1, ovC]) ?_
       refine Ak (Aj ?_)
       exact Ay _ ⟨vC, mC, C, rfl, l4, rfl, hOC, by rw [hC]; exact Ub hn5, hs⟩ Qs
      ·refine Ac (Ab (Qm rfl (Qm rfl (An ?_))))
       refine Ax rfl (fun k6 => ?_) (fun k6 => ?_)
       ·have hE0 := RdEs.nil h1
        refine Az (AE [(0, _), (1, _)] [.int .i64 0, .int .i64 0] [_, _] rfl underlying25 Bm rfl (by omega) (by kernel_rfl) Qt rfl rfl rfl rfl (fun g60 => AN fun h2 l2 m2 => ?_))
        have hE0 := (hE0.up l2).snoc (RdEs.one2 m2)
        refine Ao [_] rfl underlying22 Cn rfl (by rfl) rfl rfl (by omega) rfl rfl rfl (fun g61 => ?_)
        refine AN fun h3 l3 m3 => ?_
        have hE0 := hE0.up l3
        have hV0 := (OwnL.blk (g := g61) (el := 25) (F := cW) (l := [_]) 1 Dn rfl (by decide)).rdh (ms := []) m3
        refine Qc call15 rfl (BU [[0, 1]] _ _ h3 (by decide) (by decide) hV0 hE0) (fun rC h4 ms4 l4 hF => ?_)
        obtain ⟨l4', mE, E, vE, rfl, rfl, hOE, hEc, hsE⟩ := hF
        refine A7 hOE fun h5 l5 hRE => ?_
        have hRE : RdC h5 vE E := ⟨hRE, fun a ha => (hsE a ha).up l5⟩
        have ovE := hRE.q.rd.one
        refine C4 [.slice none 0 0] rfl Bi rfl rfl (fun g6 => ?_)
        refine Sa 0 [_] Bi rfl (by simp [o1, ovE]) ?_
        refine An (AA fun h6 l6 hS6 => ?_)
        have hRE := hRE.up l6
        have hE3 : E.length = 3 := by have := congrArg List.length hEc; rw [List.length_map] at this; rw [this]; rfl
        refine B4 (n := 6) (bs := [true, true, false, true, false, false]) [true, true, false, true] CN (by kernel_rfl) (by kernel_rfl) rfl rfl (Qp rfl (oG rfl underlying29 Bi (Seg.any hS6)) (Qp rfl (oG rfl underlying29 Bi (Seg.any hS6)) (Qp rfl (oG rfl underlying29 Bi (Seg.any hS6)) ?_)))
        unfold GI
        simp only [List.cons_append, List.nil_append]
        refine Qo 2 rfl (Qc call18 rfl (EL E E vE vE h6 (Ee hEc) (Ee hEc) hRE hRE) (fun rP h7 ms7 l7 hF => ?_))
        obtain ⟨l7', mP, P, vP, rfl, rfl, hOP, hsP, hP⟩ := hF
        have hPQ : N2 (P.map Ce.c) := Gg (n := 9) (by decide) (IA hP (by rw [hE3]))
        refine A7 hOP fun h8 l8 hRP => ?_
        have hRP : RdC h8 vP P := ⟨hRP, fun a ha => (hsP a ha).up l8⟩
        have ovP := hRP.q.rd.one
        have l68 : h6.le h8 := Hp.le_trans l7 l8
        have hPl : P.length * 3 ≤ 210 := by have := MZ (IA hP (show _ = 9 by rw [hE3])); rw [List.length_map] at this; omega
        refine Qa (Qo 4 rfl ?_)
        have hRE := hRE.up (Hp.le_trans l7 l8)
        refine Qc call18 rfl (EL P E vP vE h8 (WV hPQ) (Ee hEc) hRP hRE) (fun rR h9 ms9 l9 hF => ?_)
        obtain ⟨l9', mC, C, vC, rfl, rfl, hOC, hsC, hC⟩ := hF
        have l69 : h6.le h9 := Hp.le_trans l68 l9
        have ovC : vC.oneCell' = true := (hOC.rd (h := h9) (ms := [mC]) (List.Mem.head _)).rd.one
        refine Qa (Qo 5 rfl ?_)
        refine Sa 1 [_] Bi rfl (by simp [o1, ovE, ovP, ovC]) ?_
        refine Qa (Qe (Aj ?_))
        exact Ay _ ⟨vC, mC, C, rfl, Hp.le_trans l2 (Hp.le_trans l3 (Hp.le_trans l4 (Hp.le_trans l5 (Hp.le_trans l6 (Hp.le_trans l7 (Hp.le_trans l8 l9)))))), rfl, hOC, Gg (n := P.length * 3) hPl (IA hC (by rw [hE3])), hsC⟩ Qs
       ·refine Ac (Ab (Qm rfl (Qm rfl (An ?_))))
        refine Ax rfl (fun hc => ?_) (fun hc => absurd (by omega) hc)
        obtain ⟨m3, hm3⟩ : ∃ n : Nat, b % 2 = (n : Int) := ⟨(b % 2).toNat, by omega⟩
        have hmd : ∀ h ms, FnV Tryz.prog 14 #[.int .i64 b, .int .i64 2] h ms (.int .i64 m3) := fun h ms => by rw [← hm3]; exact Eg b 2 hb (by decide) h ms
        have hm32 : m3 < 2 := by omega
        have hs4 := RH b
        refine B4 (n := 14) (bs := [true, true, false, true, true, false, true, true, true, true, false, false, false, false]) [true, true, false, true, true, false, true, true, true, true] CN (by kernel_rfl) (by kernel_rfl) rfl rfl (QF TI rfl (QL rfl underlying22 (c1 _) (QF Hh rfl (QL rfl underlying3 (c2 _) (QF Hh rfl (QL rfl underlying3 (c2 _) (Qp rfl (AG rfl call14 rfl (hmd _ _)) (Qp rfl (oA rfl) ?_))))))))
        unfold GI
        simp only [List.cons_append, List.nil_append]
        refine Qo 2 rfl (Qc call16 rfl (QR ll es0 vS _ hi (hV.up (Hp.le_refl _)) (hE.up (Hp.le_refl _))) (fun r2 h2 ms2 l2 hF => ?_))
        obtain ⟨l2', m2, es2, rfl, hO2, hE2⟩ := hF
        have he2 : es2.length ≤ 5 := by rw [hE2.1]; exact Nl ll
        have ov2 : r2.oneCell' = true := (hO2.rd (h := h2) (ms := [m2]) (List.Mem.head _)).rd.one
        refine Qa (Qo 5 rfl (Qc call17 rfl (Kp b _ hb) (fun r5 h5 ms5 l5 hF => ?_)))
        obtain ⟨l5', m5, es5, rfl, hO5, hE5⟩ := hF
        refine A7 hO5 fun h6 l6 hV5 => ?_
        have hE5 := hE5.up l6
        have l26 := Hp.le_trans l5 l6
        have l16 : h1.le h6 := Hp.le_trans (by assumption) l26
        have hE2 := hE2.up l26
        have ov5 := hV5.rd.one
        have he5 : 4 ≤ es5.length := by rw [hE5.1]; exact hs4
        refine Qa (F7 10 80 (by kernel_rfl) rfl (by assumption) rfl (E2 (2 + m3) hV5.rd rfl underlying22 Cn rfl rfl (by omega) (by omega)) (Qo 11 rfl ?_))
        have hV6 : RdL cW 1 h6 [] (GJ 1 r5 0 (2 + m3)) (es5.take (2 + m3)) := by have := hV5.sub_ (i := 0) (j := 2 + m3) (by omega) (by omega); rwa [List.drop_zero, Nat.sub_zero] at this
        have hV6l : (es5.take (2 + m3)).length ≤ 5 := by rw [List.length_take]; omega
        refine Bh 0 hO2 hV6.any rfl underlying22 Cn rfl (by omega) rfl rfl rfl (fun u hu => IJ hE5.ones u (List.mem_of_mem_take hu)) (by omega) (by omega) rfl rfl rfl (fun v9 m9 hO9 => ?_)
        have hE9 := hE2.app (hE5.tak (2 + m3))
        have hO9 : OwnL cW 1 25 m9 v9 (es2 ++ es5.take (2 + m3)) := hO9
        refine A7 hO9 fun h9 l9 hV9 => ?_
        have hE9 := hE9.up l9
        have l19 : h1.le h9 := Hp.le_trans l16 l9
        have ov9 := hV9.rd.one
        refine Qa (Qo 12 rfl (Qc call15 rfl (BU (DH ll ++ (EB b).take (2 + m3)) _ v9 h9 (TU ll b _).1 (TU ll b _).2 hV9 hE9) (fun rC hC msC lC hF => ?_)))
        obtain ⟨lC', mC, C, vC, rfl, rfl, hOC, hCc, hsC⟩ := hF
        have l1C : h1.le hC := Hp.le_trans l19 lC
        have ovC : vC.oneCell' = true := (hOC.rd (h := hC) (ms := [mC]) (List.Mem.head _)).rd.one
        refine Qa (Qo 13 rfl ?_)
        refine Sa 1 [_] Bi rfl (by simp [o1, ov2, ov5, ov9, ovC]) ?_
        refine Qa (Qe (Aj ?_))
        exact Ay _ ⟨vC, mC, C, rfl, l1C, rfl, hOC, by rw [hCc]; exact J5 _, hsC⟩ Qs
 ·obtain ⟨vC, mC, C, rfl, l2, rfl, hC, hQ, hs⟩ := hI
  have ovC : vC.oneCell' = true := (hC.rd (h := h) (ms := [mC]) (List.Mem.head _)).rd.one
  refine AV (fun sl h' ms' => ∃ (vC : Value) (mC : Hp) (C : List Ce), sl = [(1, .pointer (some ⟨g1, 0, none⟩)), (2, .pointer (some ⟨g2, 0, none⟩)), (3, .pointer (some ⟨g3, 0, none⟩))] ∧ h.le h' ∧ ms' = [mC, Bf g3 29 [vC], Bf g2 29 [.slice none 0 0]] ∧ OwnL cC 3 59 mC vC C ∧ N2 (C.map Ce.c) ∧ C.length ≤ 45 ∧ ∀ a ∈ C, RdL cD 2 h' [] a.v a.c.sd) ?_ (fun s h ms hI => ?_)
  ·refine Ac (Ab (Qf BX rfl (Ql rfl underlying27 (Cell.blk 1 rfl rfl) (Qx (AC (hC.rd (List.Mem.head _)).rd rfl underlying27 rfl) rfl (Qm rfl (An ?_))))))
   refine Ax rfl (fun h45 => ?_) (fun h45 => ?_)
   ·refine Ab (Qc call20 rfl (S5 _) (fun rT hT msT lT hF => ?_))
    obtain ⟨lT', mT, T, vT, rfl, rfl, hOT, hTQ, hsT⟩ := hF
    have ovT : vT.oneCell' = true := (hOT.rd (h := hT) (ms := [mT]) (List.Mem.head _)).rd.one
    have hT36 : T.length ≤ 45 := by
     have := MZ hTQ
     rw [List.length_map] at this
     exact Nat.le_trans this (by decide)
    refine Sa 2 [_] Bi rfl (by simp [o1, ovC, ovT]) ?_
    refine Ak (Bn 1 rfl ?_)
    exact Ay _ ⟨vT, mT, T, rfl, lT, rfl, hOT, Gg (by decide) hTQ, hT36, hsT⟩ Qs
   ·refine Ai ?_
    exact Ay _ ⟨vC, mC, C, rfl, Hp.le_refl _, rfl, hC, hQ, by omega, hs⟩ Qs
  ·obtain ⟨vC, mC, C, rfl, l3, rfl, hC, hQ, h45, hs⟩ := hI
   refine Cb hC fun h5 l5 hRC => (AA fun h6 l6 hS3 => ?_)
   have hRC : RdC h6 vC C := ⟨hRC.up l6, fun a ha => (hs a ha).up (Hp.le_trans l5 l6)⟩
   have ovC := hRC.q.rd.one
   have l2z : h1.le h6 := Hp.le_trans l2 (Hp.le_trans l3 (Hp.le_trans l5 l6))
   have c2 : ∀ ms, Cell h6 ms (⟨g1, 2, none⟩ : Addr) (.int .i64 b) := fun ms => (c2 ms).le l2z
   have hrn : ∀ a ∈ C, Xb a.c := fun a ha => hQ.1.rn (fun x hx => by have := hQ.2 (by rw [List.length_map]; exact h45) x hx; omega) a.c (List.mem_map.2 ⟨a, ha, rfl⟩)
   refine Az (Qx (oG rfl underlying29 Bi (Seg.any hS3)) rfl (Qf Hh rfl (Ql rfl underlying3 (c2 _) (Qc call21 rfl (KG C vC b h6 hb (by omega) hrn hRC) (fun rR hR msR lR hF => ?_)))))
   obtain ⟨lR', mR, R, vR, rfl, rfl, hOR, hRe, hsR⟩ := hF
   have ovR : vR.oneCell' = true := (hOR.rd (h := hR) (ms := [mR]) (List.Mem.head _)).rd.one
   have hMQ : Te (R.map Ce.c) := by rw [hRe]; exact Us hQ (by rw [List.length_map]; exact h45) b
   refine Sa 1 [_] Bi rfl (by simp [o1, ovC, ovR]) ?_
   refine An (Aq ?_)
   exact C7 (vs := [_]) 1 rfl rfl underlying29 rfl Bi rfl rfl (⟨Hp.le_trans l1 (Hp.le_trans l2z lR), mR, R, _, rfl, rfl, hOR, hMQ, hsR⟩)
end Go.Proofs.YtodheebhahdepaaGreat
namespace Go.Proofs.YtodheebhahdepaaGreat
open Go.Proofs.Tryz
open Go.Eng Go.RowKit Go.Lin Go.Sort Go.Srt
theorem IQ {e : Entry} {Q : Exit → Act → World → Prop} {ops : Array Oper} {r : List Oper} {s : Ar} {h : Hp} {ms : List Hp} (k : WL e ops Q r s h ms) : ∀ pre : List Hp, WL e ops Q r s h (pre ++ ms)
 | [] => k
 | m :: pre => Lm 0 rfl (IQ k pre)
theorem Pq (kind b : Int) (ll : List (List Int)) (es0 : List Value) (vS vl vm : Value) (L M : List Int) (hp : Hp) (hk : Bq kind) (hb : Bq b) (hi : ∀ l ∈ ll, ∀ x ∈ l, Bq x) (hV : RdL cW 1 hp [] vS es0) (hE : RdEs hp es0 ll) (hL : RdL cI 1 hp [] vl L) (hM : RdL cI 1 hp [] vm M) : FnT Tryz.prog 3 #[.agg #[.int .i64 kind, vS, .int .i64 b], vl, vm] hp [] (fun r _ _ => r = .bool true) := by
 have o1 := hV.rd.one
 have o2 := hL.rd.one
 have o3 := hM.rd.one
 refine Av func3 ntmps3 rfl rfl (fun w0 hw0 => ?_)
 simp only [A5]
 refine Az ?_
 refine A8 [_, _, _] rfl rfl (by rfl) rfl rfl rfl (fun g3 => ?_)
 refine Qm rfl (An (AA fun h1 l1 hS => ?_))
 have hV := hV.up l1
 have hE := hE.up l1
 have hL := hL.up l1
 have hM := hM.up l1
 refine Az (Qx (AG rfl call4 rfl (RD _ _)) rfl (Qm rfl (BG (Qx (oG rfl underlying24 Yg (Seg.any hS)) rfl (Qc call5 rfl (Vd kind b ll es0 vS h1 hk hb hi hV hE) (fun rc h2 ms2 l2 hQ => ?_))))))
 obtain ⟨l2', mC, A, vC, rfl, rfl, hOC, hMQ, hsd⟩ := hQ
 have oC : vC.oneCell' = true := (hOC.rd (h := h2) (ms := [mC]) (List.Mem.head _)).rd.one
 refine C4 [.slice none 0 0] rfl Bi rfl rfl (fun g8 => ?_)
 refine Sa 0 [_] Bi rfl (by simp [o1, o2, o3, oC]) ?_
 refine An (AA fun h3 l3 hS8 => (Cb hOC fun h4 l4 hC => ?_))
 have hR : RdC h4 vC A := ⟨hC, fun a ha => (hsd a ha).up (Hp.le_trans l3 l4)⟩
 have hK : RgC A := ⟨hMQ.1, fun a ha => by have := hMQ.2.2 a.c (List.mem_map.2 ⟨a, ha, rfl⟩); omega⟩
 have hG := hK.r.rgt
 have hA45 : A.length ≤ 45 := by have := hMQ.2.1; rwa [List.length_map] at this
 have l24 := Hp.le_trans l2 (Hp.le_trans l3 l4)
 have hL := hL.up l24
 have hM := hM.up l24
 have hS8 := hS8.le l4
 refine Az (Qx (oG rfl underlying29 Bi (Seg.any hS8)) rfl (Qm rfl (Qc call6 rfl (Lv A vC vl L h4 hK hR hL hL.len_le) (fun rF h5 ms5 l5 hQ => ?_))))
 obtain ⟨l5', mF, rfl, hOF⟩ := hQ
 have oF_ : rF.oneCell' = true := (hOF.rd (h := h5) (ms := [mF]) (List.Mem.head _)).rd.one
 refine Qm rfl (An (Cb hOF fun h6 l6 hF => ?_))
 have l46 := Hp.le_trans l5 l6
 have hR := hR.up l46
 have hM := hM.up l46
 have hL := hL.up l46
 have hS8 := hS8.le l46
 refine Az (Qx (oG rfl underlying29 Bi (Seg.any hS8)) rfl (Qm rfl (Qc call6 rfl (Lv A vC vm M h6 hK hR hM hM.len_le) (fun rG h7 ms7 l7 hQ => ?_))))
 obtain ⟨l7', mG, rfl, hOG⟩ := hQ
 have oG_ : rG.oneCell' = true := (hOG.rd (h := h7) (ms := [mG]) (List.Mem.head _)).rd.one
 refine Qm rfl (An (Cb hOG fun h8 l8 hGv => ?_))
 have l78 := Hp.le_trans l7 l8
 have hR := hR.up l78
 have hF := hF.up l78
 have hS8 := hS8.le l78
 have hL := hL.up l78
 obtain ⟨z, hz⟩ : ∃ z : Nat, (L.length : Int) % 3 = z := ⟨L.length % 3, by omega⟩
 have hz3 : z < 3 := by omega
 obtain ⟨p, hcell, hP⟩ : ∃ p, ([.int .i64 2, .int .i64 3, .int .i64 5] : List Value)[z]? = some (.int .i64 p) ∧ IsP p := by
  rcases (by omega : z = 0 ∨ z = 1 ∨ z = 2) with rfl | rfl | rfl
  ·exact ⟨2, rfl, by decide⟩
  ·exact ⟨3, rfl, by decide⟩
  ·exact ⟨5, rfl, by decide⟩
 refine Az (AE [(0, _), (1, _), (2, _)] [.int .i64 0, .int .i64 0, .int .i64 0] [_, _, _] rfl underlying25 Bm rfl (by omega) (by kernel_rfl) Qt rfl rfl rfl rfl (fun g30 => Qm rfl (Qx (AC hL.rd.any rfl underlying25 rfl) rfl (Qx (B5 rfl rfl rfl (by omega) (by omega)) rfl (Qx (F1 (z) rfl underlying25 Bm rfl rfl (by omega) (by omega)) rfl ?_)))))
 refine Ql rfl underlying3 (by exact Cell.blk 0 rfl (by rw [Nat.mul_one]; exact hcell)) ?_
 refine Qm rfl (An (AA fun h9 l9 _ => ?_))
 have hR := hR.up l9
 have hF := hF.up l9
 have hGv := hGv.up l9
 have hS8 := hS8.le l9
 have QF : Pg (A.map Ce.c) (E1 (A.map Ce.c) L A.length) := by have := SD hG L; rwa [List.length_map] at this
 have QG : Pg (A.map Ce.c) (E1 (A.map Ce.c) M A.length) := by have := SD hG M; rwa [List.length_map] at this
 generalize E1 (A.map Ce.c) L A.length = F at hF QF
 generalize E1 (A.map Ce.c) M A.length = G at hGv QG
 have hlF : F.length = A.length := by have := congrArg List.length QF.fst; simpa using this
 have hlG : G.length = A.length := by have := congrArg List.length QG.fst; simpa using this
 have hids : ∀ c ∈ (A.map Ce.c).map Cl.id, Bq c := fun c hc => by
  obtain ⟨x, hx, rfl⟩ := List.mem_map.1 hc
  have h1 := hG.pos x hx
  have h2 := hMQ.2.2 x hx
  unfold Bq; omega
 have kF : ∀ q ∈ F, Bq q.1 := fun q hq => hids _ (by rw [← QF.fst]; exact List.mem_map.2 ⟨q, hq, rfl⟩)
 have kG : ∀ q ∈ G, Bq q.1 := fun q hq => hids _ (by rw [← QG.fst]; exact List.mem_map.2 ⟨q, hq, rfl⟩)
 have VF : QY F := ⟨by omega, kF⟩
 have VG : QY G := ⟨by omega, kG⟩
 have iF : ∀ c, Bq (D5 (BE F) c) := fun c => by have := QF.bI c; unfold Bq; omega
 have iG : ∀ c, Bq (D5 (BE G) c) := fun c => by have := QG.bI c; unfold Bq; omega
 refine Az (Qx (oG rfl underlying29 Bi (Seg.any hS8)) rfl (Qm rfl (Qm rfl (Qc call7 rfl (JR A F vC rF p h9 hK hR hF VF iF QF.chk hP (by omega)) (fun ra h10 ms10 l10 hQ => ?_)))))
 obtain ⟨l10', S, Rf, Vf, va, ma, rfl, rfl, hOa, Pa⟩ := hQ
 have oa : va.oneCell' = true := (hOa.rd (h := h10) (ms := [ma]) (List.Mem.head _)).rd.one
 refine Qm rfl (Qm rfl (Qm rfl (Qm rfl (Qm rfl (An (Cb hOa fun h11 l11 hBa => ?_))))))
 have l11' := Hp.le_trans l10 l11
 have hR := hR.up l11'
 have hF := hF.up l11'
 have hGv := hGv.up l11'
 have hS8 := hS8.le l11'
 refine Az (Qx (oG rfl underlying29 Bi (Seg.any hS8)) rfl (Qm rfl (Qm rfl (Qc call7 rfl (JR A G vC rG p h11 hK hR hGv VG iG QG.chk hP (by omega)) (fun rb h12 ms12 l12 hQ => ?_)))))
 obtain ⟨l12', S', Rg, Vg, vb, mb, rfl, rfl, hOb, Pb⟩ := hQ
 have ob : vb.oneCell' = true := (hOb.rd (h := h12) (ms := [mb]) (List.Mem.head _)).rd.one
 refine Qm rfl (Qm rfl (Qm rfl (Qm rfl (Qm rfl (An (Cb hOb fun h13 l13 hBb => ?_))))))
 have l13' := Hp.le_trans l12 l13
 have hF := hF.up l13'
 have hGv := hGv.up l13'
 have hBa := hBa.up l13'
 have hnd : (F.map Prod.fst).Nodup := by rw [QF.fst]; exact hG.nd
 have key := fun d => RJ hP hG QF QG Pa Pb d
 have hlS : S.length ≤ 45 := by have := Pa.perm.length_eq; rw [List.length_map, List.length_map] at this; omega
 have hlS' : S'.length ≤ 45 := by have := Pb.perm.length_eq; rw [List.length_map, List.length_map] at this; omega
 have nA : (BZ (D5 (BE F)) S (B7 S Rf) S.length).length ≤ 10000 := by have := HM (D5 (BE F)) S (B7 S Rf) S.length; omega
 have nB : (BZ (D5 (BE G)) S' (B7 S' Rg) S'.length).length ≤ 10000 := by have := HM (D5 (BE G)) S' (B7 S' Rg) S'.length; omega
 have bA := Lq QF.bI S (B7 S Rf) S.length
 have bB := Lq QG.bI S' (B7 S' Rg) S'.length
 have hmb := H3 F G QF.bd QG.bd F.length
 generalize BZ (D5 (BE F)) S (B7 S Rf) S.length = la at *
 generalize BZ (D5 (BE G)) S' (B7 S' Rg) S'.length = lb at *
 refine Az (Qm rfl (Qm rfl ?_))
 refine Qc call8 rfl (RU F G rF rG h13 hF hGv (by rw [QF.fst, QG.fst]) hnd (by omega) kF QF.bd QG.bd) (fun rs h14 ms14 l14 hQ => ?_)
 obtain rfl := hQ
 refine IQ ?_ ms14
 generalize EZ F G F.length = most at *
 have hBa := hBa.up l14
 have hBb := hBb.up l14
 refine Qm rfl (Qm rfl (Qm rfl (Qm rfl (Qm rfl (An (Ac (Az (Qm rfl (Qm rfl (Qm rfl (Qg (Au rfl rfl) rfl (Qg (DP rfl rfl rfl) rfl (Qm rfl (Qm rfl (Qg (Au rfl rfl) rfl (Qg (DP rfl rfl rfl) rfl (Qm rfl (An (Ax rfl (fun hc => absurd hc (fun h => h rfl)) (fun hc => Ai (Ad (Ac (Az (Qm rfl (An (Ah ?_))))))))))))))))))))))))))
 refine AD (fun q sl h' ms' => ∃ (i : Nat), q = 4 - i ∧ sl = [(7, .bool true), (12, va), (14, vb), (16, .int .i64 most), (18, .int .i64 i)] ∧ h14 = h' ∧ ms' = [] ∧ i ≤ 4)
  (4 - 0) _ ⟨0, rfl, rfl, rfl, rfl, by omega⟩ Qs ?_
 rintro q sl h' ms' ⟨i, rfl, rfl, rfl, rfl, hi'⟩
 refine Ac (Az (Qm rfl (Qm rfl (An ?_))))
 refine Ax rfl (fun hlt => ?_) (fun hlt => ?_)
 ·obtain ⟨k1, k2⟩ := key i
  have kb := (NI (i : Int) bA bB).1
  obtain ⟨x, hx⟩ : ∃ x, Df (i : Int) la lb = (x, true) := ⟨(Df (i : Int) la lb).1, Prod.ext rfl k1⟩
  have kb2 := (NI (i : Int) bA bB).2
  rw [hx] at k2 kb kb2
  have k2 : x ≤ 2 * most := k2
  have kb : 0 ≤ x := kb
  have kb2 : x ≤ 8000000000000 := kb2
  have hD : ∀ ms, FnV Tryz.prog 9 #[va, vb, .int .i64 i] h14 ms (.tuple #[.int .i64 x, .bool true]) := fun ms => by have := G0 la lb va vb i h14 hBa hBb nA nB bA bB ms; rwa [hx] at this
  refine Ai (Ad (Ac (Ah (Az (Qm rfl (Qm rfl (Qm rfl (Qx (AG rfl call9 rfl (hD _)) rfl (Qm rfl (Qm rfl (Qm rfl (Qm rfl (Qm rfl (BG (Qm rfl (Qm rfl (Qm rfl (Qg (Au rfl rfl) rfl (Qg (Au rfl rfl) rfl (Qg (oM rfl) rfl (Qg (BY rfl rfl rfl) rfl (Qm rfl (An ?_)))))))))))))))))))))))
  refine Ax rfl (fun hc => absurd hc (fun h => by omega)) (fun hc => ?_)
  refine Ai (Aj (Ad (Ab (Qm rfl (Qx (oA rfl) rfl (Qm rfl (Ak ?_)))))))
  exact Am (4 - (i + 1)) _ (by omega) ⟨i + 1, rfl, rfl, rfl, rfl, by omega⟩ Qs
 ·refine Aw (Aa (Aa (Ag (Ad (Az (Qm rfl (Qm rfl (An (Aq ?_)))))))))
  exact As rfl rfl (rfl)
end Go.Proofs.YtodheebhahdepaaGreat
namespace Go.Proofs.YtodheebhahdepaaGreat
open Go.Eng Go.ChangeShapes Go.WideShapes Go.ChangeAt Go.RowKit Go.Deep
theorem own : ownKnob Tryz.prog.godebug = none := by kernel_rfl
theorem WO {w w' : World} (E : Ext w w') : Below w.heap.size w w' := ⟨E.os, E.tape.tape, E.output, E.size, E.block⟩
theorem MD : laidOutB Tryz.prog = true := by kernel_rfl
section
variable {H : Type} {enc : TypeId × Value → H} {w : World} {base : Nat} {spare : Nat → Bool} {held : Bool}
theorem LC {P : Program} {t : TypeId} {f0 f1 f2 : Field} {fuel : Nat} {cs : List Value} {x : DataW H × List MemPlace} (ht : P.underlying t = some (.struct #[f0, f1, f2])) (h : DataW.trod enc P w base spare held fuel t cs = some x) :
  ∃ y0 y1 y2 n, cs.length = P.cellsOf t ∧ DataW.trod enc P w base spare held n f0.type ((cs.drop f0.offset).take (P.cellsOf f0.type)) = some y0 ∧
   DataW.trod enc P w base spare held n f1.type ((cs.drop f1.offset).take (P.cellsOf f1.type)) = some y1 ∧ DataW.trod enc P w base spare held n f2.type ((cs.drop f2.offset).take (P.cellsOf f2.type)) = some y2 := by
 obtain ⟨xs, n, _, rfl, hl, hlen, hf⟩ := DataW.trod_struct ht h
 match xs, hlen with
 | [y0, y1, y2], _ => exact ⟨y0, y1, y2, n, hl, by simpa using hf 0 f0 rfl, by simpa using hf 1 f1 rfl, by simpa using hf 2 f2 rfl⟩
theorem IP (n : Nat) (cs : List Value) (y : DataW H × List MemPlace) (h : DataW.trod enc Tryz.prog w base spare held n 3 cs = some y) : ∃ a, cs = cI a ∧ Bq a := by
 obtain ⟨b, h1, _, h2⟩ := DataW.trod_int Tryz.underlying3 h
 exact ⟨b, h1, bounds_i64 h2⟩
theorem Ju {v : Value} {fuel : Nat} {x : DataW H × List MemPlace} (h : DataW.trod enc Tryz.prog w base spare held fuel 25 [v] = some x) : ∃ l, RdL cI 1 (whole w) [] v l ∧ ∀ a ∈ l, Bq a :=
 M8 Tryz.underlying25 (by kernel_rfl) AT (by decide) IP h
theorem Tm (n : Nat) (cs : List Value) (y : DataW H × List MemPlace) (h : DataW.trod enc Tryz.prog w base spare held n 25 cs = some y) : ∃ v, cs = cW v ∧ ∃ l, RdL cI 1 (whole w) [] v l ∧ ∀ a ∈ l, Bq a := by
 rcases open_slice Tryz.underlying25 h with ⟨h0, _⟩ | ⟨a, len, cap, m, n, D, Pl, hcs, _⟩
 ·subst h0; exact ⟨_, rfl, Ju h⟩
 ·subst hcs; exact ⟨_, rfl, Ju h⟩
theorem Ur {v : Value} {fuel : Nat} {x : DataW H × List MemPlace} (h : DataW.trod enc Tryz.prog w base spare held fuel 22 [v] = some x) : ∃ es ll, RdL cW 1 (whole w) [] v es ∧ RdEs (whole w) es ll ∧ ∀ l ∈ ll, ∀ a ∈ l, Bq a := by
 obtain ⟨es, hR, hE⟩ := M8 Tryz.underlying22 (by kernel_rfl) Dn (by decide) Tm h
 have hex : ∀ a, ∃ l : List Int, a ∈ es → RdL cI 1 (whole w) [] a l ∧ ∀ x ∈ l, Bq x := fun a => by
  by_cases ha : a ∈ es
  ·obtain ⟨l, hl⟩ := hE a ha
   exact ⟨l, fun _ => hl⟩
  ·exact ⟨[], fun h => absurd h ha⟩
 obtain ⟨f, hf⟩ := Classical.axiomOfChoice hex
 refine ⟨es, es.map f, hR, ⟨by simp, fun i h1 h2 => ?_⟩, fun l hl => ?_⟩
 ·rw [List.getElem_map]; exact (hf _ (List.getElem_mem h1)).1
 ·obtain ⟨a, ha, rfl⟩ := List.mem_map.1 hl
  exact (hf a ha).2
theorem OG {v : Value} {r : Reach} {b0 : Nat} {d : DataW H} {ps : List MemPlace} (hval : Value.okWide Tryz.prog w r b0 24 v) (h : DataW.Trod enc Tryz.prog w base spare held 24 v d ps) : ∃ (kind b : Int) (vS : Value) (es : List Value) (ll : List (List Int)), v = .agg #[.int .i64 kind, vS, .int .i64 b] ∧ Bq kind ∧ Bq b ∧ (∀ l ∈ ll, ∀ x ∈ l, Bq x) ∧ RdL cW 1 (whole w) [] vS es ∧ RdEs (whole w) es ll := by
 obtain ⟨cs, rfl, hc⟩ := okWide_struct Tryz.underlying24 hval
 obtain ⟨fuel, hf⟩ := h
 obtain ⟨y0, y1, y2, n, h0, h1, h2, h3⟩ := LC Tryz.underlying24 hf
 have hc3 : cs.size = 3 := hc.trans (by kernel_rfl)
 obtain ⟨l⟩ := cs
 match l, hc3 with
 | [c0, c1, c2], _ =>
  have h1 : DataW.trod enc Tryz.prog w base spare held n 3 [c0] = some y0 := h1
  have h2 : DataW.trod enc Tryz.prog w base spare held n 22 [c1] = some y1 := h2
  have h3 : DataW.trod enc Tryz.prog w base spare held n 3 [c2] = some y2 := h3
  obtain ⟨k, e0, w0⟩ := IP n _ _ h1
  obtain ⟨es, ll, hR, hE, hI⟩ := Ur h2
  obtain ⟨b, e2, w2⟩ := IP n _ _ h3
  simp only [cI, List.cons.injEq, and_true] at e0 e2
  subst e0 e2
  exact ⟨k, b, c1, es, ll, rfl, w0, w2, hI, hR, hE⟩
end
end Go.Proofs.YtodheebhahdepaaGreat
