/- Parts of the proof: Xc Xd Xe Xf Xw Xr Xq Xs ZSh Xg Xh Xi Xt Xu Xx Xy Vz. -/
import Derived.Test.YtdnelknieikbaaaGreatTI
import Derived.DeepKeys4
import Derived.Ground.SlsfProg
import Derived.Shelf.SlSortCmp.WholeK
import Derived.Shelf.SlSortCmp.NoneTotal
import Derived.Test.YtdnelknieikbaaaGreatProg
import Derived.Laws.StructEq
import Derived.ChangeKeysEq
import Derived.Test.YtdnelknieikbaaaGreatRows
import Derived.Test.YtdnelknieikbaaaGreatChecked
import Derived.WalkKit
import Derived.ProofKit
import Derived.ChangeOld
set_option linter.unusedSimpArgs false
set_option linter.unusedVariables false
set_option maxRecDepth 100000
set_option maxHeartbeats 4000000
namespace Go.Proofs.YtdnelknieikbaaaGreat
open Go.Proofs.Tryz
open Go.Eng Go.RowKit Go.Lin Go.Sort Go.Srt
def cP (a : Int × Int) : List Value := [.int .i64 a.1, .int .i64 a.2]
theorem EG : ∀ a, (cP a).length = 2 := fun _ => rfl
theorem Ss (a : Int × Int) : ∀ c ∈ cP a, c.oneCell' = true := fun c hc => by
 simp only [cP, List.mem_cons, List.not_mem_nil, or_false] at hc
 rcases hc with rfl | rfl <;> rfl
def kP (a : Int × Int) : Value := .agg #[.int .i64 a.1, .int .i64 a.2]
structure Mj (a : Int × Int) : Prop where
 k1 : Dh a.1
 k2 : Dh a.2
theorem RB : laidOutB Tryz.prog = true := by kernel_rfl
theorem Ee : LS Tryz.prog 53 kP Mj where
 law := Maps.Keyed.of_law (deep_law_laid RB (m := 9) (by decide) (of_decide_eq_true (by kernel_rfl)) (by kernel_rfl) (by rw [underlying53]))
 inj := fun a b h => by
  unfold kP at h
  simp at h
  exact Prod.ext h.1 h.2
 key := fun b h => by
  have w1 : (Lit.int .i64 b.1).wf = true := WalkArith.wf_i64 h.k1
  have w2 : (Lit.int .i64 b.2).wf = true := WalkArith.wf_i64 h.k2
  have hkt : Tryz.prog.keyType 53 = true := by kernel_rfl
  have hc53 : Tryz.prog.cellsOf 53 = 2 := by kernel_rfl
  have hfm : (kP b).formed Tryz.prog 53 = true := by
   unfold Value.formed kP
   simp only [underlying53]
   simp [hc53]
  have hc3 : Tryz.prog.cellsOf 3 = 1 := by kernel_rfl
  obtain ⟨n, hn⟩ : ∃ n, Tryz.prog.types.size = n + 1 := ⟨Tryz.prog.types.size - 1, by have : 0 < Tryz.prog.types.size := of_decide_eq_true (by kernel_rfl); omega⟩
  have hkl : ∃ ls, Tryz.prog.keyLits (Tryz.prog.types.size + 1) 53 (kP b).cells.toList = some ls := by
   rw [hn]
   refine ⟨[.int .i64 b.1, .int .i64 b.2], ?_⟩
   simp [Program.keyLits, underlying53, underlying3, kP, Value.cells, hc53, hc3, w1, w2, List.range, List.range.loop]
  obtain ⟨ls, hls⟩ := hkl
  unfold keyOf
  simp only [underlying53, hkt, hfm, Bool.and_self, if_true, hls, Option.map_some]
  exact ⟨_, rfl⟩
theorem Hr (w : World) : (zeroValue 3).run Tryz.prog w = .ok (kI 0) w := by rfl
def R4 (l : List StE) (k : Nat) : List Value := [.agg (cS (l.getD k default)).toArray]
theorem MY (g n : Nat) (v : Value) (l : List StE) (h : Hp) (hG : Seg h [] ⟨g, 0, none⟩ [v]) (hR : RdL cS 3 h [] v l) (hn : l.length = n) (hn2 : n ≤ 1000000) : Wh Tryz.prog 74 [.pointer (some ⟨g, 0, none⟩)] h n (R4 l) := by
 intro lp X h1 ms hl hY h0
 show FnT _ _ #[.func (.yield lp) #[] #[], .pointer (some ⟨g, 0, none⟩)] _ _ _
 have hG := hG.le hl
 have hR := hR.up hl
 have hRn : ∀ h', h1.le h' → Rd h' [] v 3 n (l.flatMap cS) := fun h' l => by
  have := (hR.up l).rd
  rwa [hn] at this
 refine Av func74 ntmps74 rfl rfl (fun w0 hw0 => ?_)
 simp only [A4]
 refine Ac (B8 (Ct (oL rfl underlying60 ((hG.at0 rfl).any)) rfl rfl rfl (Ct (AJ (hRn _ (Hp.le_refl _)).any rfl underlying60 rfl) rfl rfl rfl (Ct (As rfl rfl) rfl rfl rfl (DD (Ab (Ag ?_)))))))
 refine AD (fun q s hh ms' => ∃ (k : Nat), q = n - k ∧ s = [(0, .func (.yield lp) #[] #[]), (5, v), (6, .int .i64 n), (7, .int .i64 k)] ∧ h1.le hh ∧ k ≤ n ∧ X k hh ms')
  (n - 0) _ ⟨0, rfl, rfl, Hp.le_refl _, by omega, h0⟩ Qs ?_
 rintro q s hh ms' ⟨k, rfl, rfl, lh, hk, hX⟩
 refine Ac (B8 (Ct (Dy rfl rfl rfl) rfl rfl rfl (DD (Ab (Ac ?_)))))
 refine AF rfl (fun hlt => ?_) (fun hlt => ?_)
 ·have hkn : k < n := by omega
  have hi : k < l.length := by omega
  obtain ⟨x, hx⟩ : ∃ x, x = l.getD k default := ⟨_, rfl⟩
  have hone := x.one
  have he : R4 l k = [.agg (cS x).toArray] := by unfold R4; rw [hx]
  have hYk := hY k hh ms' hkn lh hX
  rw [he] at hYk
  have hseg : ∀ ms, Seg hh ms ((Bl v).add (k * 3)) (cS x) := fun ms => by
   rw [hx]
   have h1 := ((hR.up lh).any (ms := ms)).seg hi
   have e : l.getD k default = l[k] := by simp [List.getD, hi]
   rwa [e]
  refine Ai (Ab (Ac (Ag (Ax (Qx (Ah (k) (hRn _ lh).any rfl underlying60 BP rfl rfl (by omega) (by omega)) rfl (Qx (oG rfl underlying64 BP (hseg _)) rfl (BZ [.int .i64 0, .int .i64 0, .slice none 0 0] rfl BP rfl rfl (fun g4 => ?_))))))))
  refine Sa 0 [_, _, _] BP rfl (by simp [hone]) ?_
  refine Aq (Ac (B8 (Ct (As rfl rfl) rfl rfl rfl (Ct (oG rfl underlying64 BP (Seg.blk 0 rfl)) rfl rfl rfl (Ns (IF rfl rfl rfl (hYk) rfl rfl rfl (fun r h2 ms2 l2 hr => ?_)))))))
  obtain ⟨rfl, hX2⟩ := hr
  refine Ct (CP rfl rfl) rfl rfl rfl (DD (Ab (Bb rfl (Ai (Aj (Ab (B8 (Ct (oA rfl) rfl rfl rfl (Ct (As rfl rfl) rfl rfl rfl (DD ?_))))))))))
  exact Al (n - (k + 1)) _ (by omega) ⟨k + 1, rfl, rfl, Hp.le_trans lh l2, by omega, hX2⟩ Qs
 ·obtain rfl : k = n := by omega
  refine Aw (Aa (Aa (Af ?_)))
  exact B6 rfl (hX)
theorem K1 (v : Value) (n : Nat) (cs : List Value) (h : Hp) (hR : Rd h [] v 3 n cs) : FnT Tryz.prog 40 #[v] h [] (fun r h' ms' => h = h' ∧ ∃ g, r = .func (.func 74) #[] #[.pointer (some ⟨g, 0, none⟩)] ∧ ms' = [AX g 60 [v]]) := by
 refine Av func40 ntmps40 rfl rfl (fun w0 hw0 => ?_)
 simp only [A4]
 refine Ax (AS [_] rfl rfl (Rd.cells ‹_›) rfl rfl rfl (fun g1 => Qm rfl (B3 (Qx (CE rfl rfl rfl) rfl (Qm rfl (Aq (Ao ?_)))))))
 exact Am rfl rfl (⟨rfl, _, rfl, rfl⟩)
end Go.Proofs.YtdnelknieikbaaaGreat
namespace Go.Proofs.YtdnelknieikbaaaGreat
open Go.Proofs.Tryz
open Go.Eng Go.RowKit Go.Lin Go.Sort Go.Srt
structure TC (T : List ((Int × Int) × Int)) (ks : List (Int × Int)) : Prop where
 cnt : ∀ a, (Dg T a).getD 0 = (ks.count a : Nat)
 has : ∀ a x, Dg T a = some x → a ∈ ks
theorem TC.step {T : List ((Int × Int) × Int)} {ks : List (Int × Int)} (h : TC T ks) (b : Int × Int) (x : Int) (hx : (Dg T b).getD 0 = x) : TC (Dt (Dt T b x) b (x + 1)) (ks ++ [b]) := by
 have key : ∀ a, Dg (Dt (Dt T b x) b (x + 1)) a = if a = b then some (x + 1) else Dg T a := fun a => by
  rw [F3, F3]
  by_cases e : a = b <;> simp [e]
 refine ⟨fun a => ?_, fun a y hy => ?_⟩
 ·rw [key, List.count_append]
  by_cases e : a = b
  ·subst e
   rw [if_pos rfl]
   have := h.cnt a
   rw [hx] at this
   simp [this]
  ·rw [if_neg e, h.cnt a]
   have : [b].count a = 0 := List.count_eq_zero.2 (by simpa using e)
   rw [this]; rfl
 ·rw [key] at hy
  by_cases e : a = b
  ·exact List.mem_append_right _ (by simp [e])
  ·rw [if_neg e] at hy
   exact List.mem_append_left _ (h.has a y hy)
theorem L9 (T : List ((Int × Int) × Int)) (b : Int × Int) (x : Int) : (Dg (Dt T b x) b).getD 0 = x := by rw [F3]; simp
theorem Gp {P : Program} {o : Oper} {s : Ay} {h : Hp} {ms : List Hp} {K : Int × Int → Value} {kt et t : TypeId} {g : Nat} {m : Hp} {T : List ((Int × Int) × Int)} {bs : List Nat} {Ok : Int × Int → Prop} {x y : Operand} {z : Int} (a : Int × Int) (v : Int) (hv : (Dg T a).getD z = v) (L : LS P kt K Ok) (O : DI K kI g Ok m T bs) (hm : m ∈ ms) (ho : o.op = .lookup t x y false) (ht : P.underlying t = some (.map kt et)) (hz : ∀ w, (zeroValue et).run P w = .ok (kI z) w) (hx : ev s x = some (.map (some g))) (hy : ev s y = some (K a)) (ha : Ok a) :
  OX P o s h ms (kI v) := by rw [← hv]; exact Jr a L O hm ho ht hz hx hy ha
theorem JG (g n : Nat) (v : Value) (l : List StE) (h : Hp) (hG : Seg h [] ⟨g, 0, none⟩ [v]) (hR : RdL cS 3 h [] v l) (hn : l.length = n) (hn2 : n ≤ 1000000) (hk : ∀ s ∈ l, Mj s.key) :
  FnT Tryz.prog 39 #[.func (.func 74) #[] #[.pointer (some ⟨g, 0, none⟩)]] h [] (fun r h' ms' => h.le h' ∧ ∃ gT m T bs, r = .map (some gT) ∧ ms' = [m] ∧ DI kP kI gT Mj m T bs ∧ TC T (l.map StE.key)) := by
 refine Gd func39 ntmps39 rfl rfl (fun w0 hw0 => ?_)
 simp only [A4]
 refine Ax (Qm rfl (B3 (Gl (K := kP) (V := kI) (Ok := Mj) rfl rfl rfl rfl (fun gT mT0 OT0 => BZ [.map none] rfl VG rfl rfl (fun g3 => ?_)))))
 refine AK 0 0 rfl VG rfl rfl (by rfl) rfl rfl (by decide) rfl rfl ?_
 refine Aq (AL fun h1 l1 hG3 => ?_)
 have hI := MY g n v l h1 (hG.le l1) (hR.up l1) hn hn2
 refine Ac (Ax (Qm rfl (Aq (Ag ?_))))
 refine Fk (fun k hh ms => ∃ m T bs, ms = [m] ∧ DI kP kI gT Mj m T bs ∧ TC T ((l.take k).map StE.key)) (fun k s1 hh ms => ∃ g4 m T bs, s1 = [(3, .pointer (some ⟨g3, 0, none⟩)), (4, .pointer (some ⟨g4, 0, none⟩))] ∧ ms = [AX g4 64 (cS (l.getD k default)), m] ∧ DI kP kI gT Mj m T bs ∧ TC T ((l.take k).map StE.key)) rfl call74 hI (fun k => rfl) rfl ?_ ?_ ?_ ?_
 ·exact ⟨mT0, [], [], rfl, OT0, ⟨fun a => rfl, fun a x h => by cases h⟩⟩
 ·rintro w1 k hh ms1 hkn lh ⟨m, T, bs, rfl, O, C⟩
  obtain ⟨x, hx⟩ : ∃ x, x = l.getD k default := ⟨_, rfl⟩
  have he : R4 l k = [.agg (cS x).toArray] := by unfold R4; rw [hx]
  rw [he, ← hx]
  have hone := x.one
  refine BV (by kernel_rfl) (BZ [.int .i64 0, .int .i64 0, .slice none 0 0] rfl BP rfl rfl (fun g4 => ?_))
  refine Sa 0 [_, _, _] BP rfl (by simp [hone]) ?_
  refine Ak ?_
  exact AA _ ⟨g4, m, T, bs, rfl, rfl, O, C⟩ Qs
 ·rintro w1 k s1 hh ms1 hkn lh ⟨g4, m, T, bs, rfl, rfl, O, C⟩
  have hkl : k < l.length := by omega
  obtain ⟨x, hx⟩ : ∃ x, x = l.getD k default := ⟨_, rfl⟩
  have hxl : x = l[k] := by rw [hx]; simp [List.getD, hkl]
  rw [← hx]
  have hpk := hk x (by rw [hxl]; exact List.getElem_mem hkl)
  have hcnt : ((l.take k).map StE.key).count x.key ≤ 1000000 := Nat.le_trans List.count_le_length (by simp; omega)
  obtain ⟨v0, hv0⟩ : ∃ v0, (Dg T x.key).getD 0 = v0 := ⟨_, rfl⟩
  have hb0 : 0 ≤ v0 ∧ v0 ≤ 1000000 := by
   have h1 := C.cnt x.key
   rw [hv0] at h1
   omega
  have hst := C.step x.key v0 hv0
  have hst' : TC (Dt (Dt T x.key v0) x.key (v0 + 1)) ((l.take (k + 1)).map StE.key) := by
   rw [List.take_succ_eq_append_getElem hkl, List.map_append, ← hxl]
   exact hst
  have hv1 := L9 T x.key v0
  refine J5 fun h2 l2 lg4 _ _ => ?_
  have hG4 := Seg.ofLe lg4
  have hA4 := Seg.all hG4
  have hG3 := hG3.le (Hp.le_trans lh l2)
  refine EV (KD (n := 11) (bs := [true, true, true, true, true, true, false, false, false, false, false]) [true, true, true, true, true, true] Cd (by kernel_rfl) (by kernel_rfl) rfl rfl (by kernel_rfl) (QL rfl underlying51 ((hG3.at0 rfl).any) (QF E0 rfl (QL rfl underlying3 (hA4 0 _ rfl _) (QF Fd rfl (QL rfl underlying3 (hA4 1 _ rfl _) ?_))))))
  refine Qp rfl (EO [.int .i64 0, .int .i64 0] [(0, [_]), (1, [_])] [_, _] rfl underlying53 Fx rfl A8 rfl (by repeat (first | exact trivial | refine ⟨⟨by rfl, rfl, rfl⟩, ?_⟩)) rfl) ?_
  unfold CD
  simp only [List.cons_append, List.nil_append]
  refine A2 [6, 8] (by kernel_rfl) rfl ?_
  refine Az rfl ?_ ?_
  ·refine Qx (Gp (z := 0) x.key v0 hv0 Ee O (by simp) rfl underlying51 Hr rfl rfl hpk) rfl ?_
   refine Qw (An 7 15 (by kernel_rfl) rfl (Hp.le_refl _) rfl (oA rfl) (Qo 8 rfl (H2 (V := kI) (z := (0 : Int)) 0 x.key Ee O rfl rfl underlying51 Hr rfl rfl hpk rfl rfl rfl (fun m2 bs2 j2 b2 O2 hj2 hb2 => Qw ?_))))
   rw [hv0] at O2 hj2
   refine An 9 17 (by kernel_rfl) rfl (Hp.le_refl _) rfl (AC rfl rfl rfl) (Qo 10 rfl (Gi 0 (v0 + 1) O2 hj2 hb2 rfl rfl rfl rfl rfl rfl rfl (fun m3 O3 => Qw (Qe ?_))))
   exact Aj (AA [] ⟨m3, _, bs2, rfl, O3, hst'⟩ trivial)
  refine Az rfl ?_ ?_
  ·refine H2 (V := kI) (z := (0 : Int)) 0 x.key Ee O rfl rfl underlying51 Hr rfl rfl hpk rfl rfl rfl (fun m2 bs2 j2 b2 O2 hj2 hb2 => Qw ?_)
   rw [hv0] at O2 hj2
   refine An 9 17 (by kernel_rfl) rfl (Hp.le_refl _) rfl (AC rfl rfl rfl) (Qo 6 rfl ?_)
   refine Qx (Gp (z := 0) x.key v0 hv1 Ee O2 (by simp) rfl underlying51 Hr rfl rfl hpk) rfl ?_
   refine Qw (An 7 15 (by kernel_rfl) rfl (Hp.le_refl _) rfl (oA rfl) (Qo 10 rfl (Gi 0 (v0 + 1) O2 hj2 hb2 rfl rfl rfl rfl rfl rfl rfl (fun m3 O3 => Qw (Qe ?_)))))
   exact Aj (AA [] ⟨m3, _, bs2, rfl, O3, hst'⟩ trivial)
  exact A3
 ·intro D hh ms1 lh ⟨m, T, bs, e, O, C⟩
  subst e
  rw [← hn, List.take_length] at C
  have hG3 := hG3.le lh
  refine Aj (Ab (Ax (Ql rfl underlying51 ((hG3.at0 rfl).any) (Qm rfl (Aq (Ao (In 1 (.inr rfl) rfl ?_)))))))
  exact Am rfl rfl (⟨Hp.le_trans l1 lh, gT, m, T, bs, rfl, rfl, O, C⟩)
end Go.Proofs.YtdnelknieikbaaaGreat
namespace Go.Proofs.YtdnelknieikbaaaGreat
open Go.Proofs.Tryz
open Go.Eng Go.RowKit Go.Lin Go.Sort Go.Srt
def VV (T : List ((Int × Int) × Int)) (vis : List Nat) (vs : List Value) (vis' : List Nat) : Prop := ∃ (j : Nat) (hj : j < T.length), j ∉ vis ∧ vs = [kP T[j].1] ∧ vis' = vis ++ [j]
theorem RF (g1 gT : Nat) (m : Hp) (T : List ((Int × Int) × Int)) (bs : List Nat) (h : Hp) (hG : Seg h [] ⟨g1, 0, none⟩ [.map (some gT)]) (O : DI kP kI gT Mj m T bs) (hm : m.le h) :
  VY Tryz.prog 77 [.pointer (some ⟨g1, 0, none⟩)] h (VV T) [] (fun vis => vis.Perm (List.range T.length)) := by
 intro lp X h1 ms hl hY h0
 show FnT _ _ #[.func (.yield lp) #[] #[], .pointer (some ⟨g1, 0, none⟩)] _ _ _
 have hG := hG.le hl
 have hm := Hp.le_trans hm hl
 refine Av func77 ntmps77 rfl rfl (fun w0 hw0 => ?_)
 simp only [A4]
 refine Ax (Ql rfl underlying51 ((hG.at0 rfl).any) (Pu O hm rfl underlying51 rfl rfl rfl rfl (fun gi mi I0 => Aq (Ag ?_))))
 refine AD (fun q s hh ms' => ∃ (vis : List Nat) (mi : Hp) (ms0 : List Hp), q = T.length - vis.length ∧ s = [(0, .func (.yield lp) #[] #[]), (5, .pointer (some ⟨gi, 0, none⟩))] ∧ h1.le hh ∧ ms' = mi :: ms0 ∧ IW gi gT m mi bs vis ∧ X vis hh ms0)
  (T.length - 0) _ ⟨[], mi, ms, rfl, rfl, Hp.le_refl _, rfl, I0, h0⟩ Qs ?_
 rintro q s hh ms' ⟨vis, mi, ms0, rfl, rfl, lh, rfl, I, hX⟩
 have hm := Hp.le_trans hm lh
 refine Ax ?_
 refine RG 0 O I hm rfl rfl rfl rfl rfl rfl (fun hall => ?_) (fun j hj mi' hjv I' => ?_)
 ·refine Qm rfl (Aq (Ac (Bb rfl (Aw (Aa (Aa (Af (A5 ?_))))))))
  exact B6 rfl (⟨vis, (List.perm_ext_iff_of_nodup I.nodup List.nodup_range).2 fun j => ⟨fun hj => List.mem_range.2 (by have := I.lt j hj; rw [O.len] at this; exact this), fun hj => hall j (List.mem_range.1 hj)⟩, hX⟩)
 ·refine Qm rfl (Aq (Ac ?_))
  have hlen : (vis ++ [j]).length ≤ T.length := by
   have := I'.nodup.length_le_of_subset (l₂ := List.range T.length) fun x hx => List.mem_range.2 (by have := I'.lt x hx; rw [O.len] at this; exact this)
   simpa using this
  rw [List.length_append, List.length_singleton] at hlen
  refine AU rfl (Ai (Ab (Ag (Ax (Qx (OZ O I' hm (List.Mem.head _) hj rfl rfl) rfl (Qm rfl (BZ [.int .i64 0, .int .i64 0] rfl Fx rfl rfl (fun g3 => ?_))))))))
  refine Sa 0 [_, _] Fx rfl (by simp [Value.oneCell']) ?_
  refine Aq (Ac (B8 (Ct (As rfl rfl) rfl rfl rfl (Ct (oG rfl underlying53 Fx (Seg.blk 0 rfl)) rfl rfl rfl (Ns (Ph (pre := ms0) (fr := [mi']) (List.perm_append_comm (l₁ := [mi'])) rfl rfl rfl (hY vis [kP T[j].1] (vis ++ [j]) hh ms0 ⟨j, hj, hjv, rfl, rfl⟩ lh hX) rfl rfl rfl (fun r h2 ms2 l2 hr => ?_)))))))
  obtain ⟨rfl, hX2⟩ := hr
  refine Ct (CP rfl rfl) rfl rfl rfl (DD (Ab (Bb rfl (Ai (Aj (CF (List.perm_append_comm (l₂ := [mi'])) ?_))))))
  exact Al (T.length - (vis ++ [j]).length) _ (by rw [List.length_append, List.length_singleton]; omega) ⟨vis ++ [j], mi', ms2, rfl, rfl, Hp.le_trans lh l2, rfl, I', hX2⟩ Qs
theorem Vp (v : Option Nat) (h : Hp) : FnT Tryz.prog 42 #[.map v] h [] (fun r h' ms' => h = h' ∧ ∃ g, r = .func (.func 77) #[] #[.pointer (some ⟨g, 0, none⟩)] ∧ ms' = [AX g 51 [.map v]]) := by
 refine Av func42 ntmps42 rfl rfl (fun w0 hw0 => ?_)
 simp only [A4]
 refine Ax ?_
 refine AS [_] rfl rfl (by rfl) rfl rfl rfl (fun g1 => ?_)
 refine Qm rfl (B3 (Qx (CE rfl rfl rfl) rfl (Qm rfl (Aq (Ao ?_)))))
 exact Am rfl rfl (⟨rfl, _, rfl, rfl⟩)
end Go.Proofs.YtdnelknieikbaaaGreat
namespace Go.Proofs.YtdnelknieikbaaaGreat
open Go.Proofs.Tryz
open Go.Eng Go.RowKit Go.Lin Go.Sort Go.Srt
def Fu (T : List ((Int × Int) × Int)) (j : Nat) : Int × Int := (T.getD j ((0, 0), 0)).1
theorem LR {T : List ((Int × Int) × Int)} {j : Nat} (hj : j < T.length) : T[j].1 = Fu T j := by simp [Fu, List.getD, hj]
theorem OE (T : List ((Int × Int) × Int)) : (List.range T.length).map (Fu T) = T.map Prod.fst := by
 refine List.ext_getElem (by simp) fun i h1 h2 => ?_
 have hi : i < T.length := by simpa using h2
 simp [← LR hi]
theorem Kl (g1 gT : Nat) (m : Hp) (T : List ((Int × Int) × Int)) (bs : List Nat) (h : Hp) (hG : Seg h [] ⟨g1, 0, none⟩ [.map (some gT)]) (O : DI kP kI gT Mj m T bs) (hm : m.le h) (hT : T.length ≤ 1000000) :
  FnT Tryz.prog 102 #[.slice none 0 0, .func (.func 77) #[] #[.pointer (some ⟨g1, 0, none⟩)]] h [] (fun r h' ms' => h.le h' ∧ ∃ (vis : List Nat) (mo : Hp), ms' = [mo] ∧ vis.Perm (List.range T.length) ∧ OwnL cP 2 53 mo r (vis.map (Fu T))) := by
 have hI := RF g1 gT m T bs h hG O hm
 refine Gd func102 ntmps102 rfl rfl (fun w0 hw0 => ?_)
 simp only [A4]
 refine Ax ?_
 refine AS [_] rfl rfl (by rfl) rfl rfl rfl (fun g2 => ?_)
 refine Qm rfl (Aq (Ac (Ax (Qm rfl (Aq (Ag (BX (Di ?_))))))))
 refine Jc (R := VV T) (fun (vis : List Nat) hh ms => vis.Nodup ∧ (∀ x ∈ vis, x < T.length) ∧ ∃ v mo, ms = [AX g2 81 [v], mo] ∧ OwnL cP 2 53 mo v (vis.map (Fu T))) (fun (vis : List Nat) vs vis' s1 hh ms => vis.Nodup ∧ (∀ x ∈ vis, x < T.length) ∧ ∃ g5 v mo j, j < T.length ∧ j ∉ vis ∧ vis' = vis ++ [j] ∧ s1 = [(2, .pointer (some ⟨g2, 0, none⟩)), (5, .pointer (some ⟨g5, 0, none⟩))] ∧ ms = [AX g5 53 (cP (Fu T j)), AX g2 81 [v], mo] ∧ OwnL cP 2 53 mo v (vis.map (Fu T))) rfl call77 hI ?_ rfl ?_ ?_ ?_ ?_
 ·rintro k vs k' ⟨j, hj, _, rfl, _⟩; rfl
 ·exact ⟨List.Pairwise.nil, by simp, _, _, rfl, OwnL.nil EG⟩
 ·rintro w1 vis vs vis' hh ms1 ⟨j, hj, hjv, rfl, rfl⟩ lh ⟨hn, hlt, v, mo, rfl, hO⟩
  rw [LR hj]
  refine BV (by kernel_rfl) (BZ [.int .i64 0, .int .i64 0] rfl Fx rfl rfl (fun g5 => ?_))
  refine Sa 0 [_, _] Fx rfl (by simp [Value.oneCell']) ?_
  refine Ak ?_
  exact AA _ ⟨hn, hlt, g5, v, mo, j, hj, hjv, rfl, rfl, rfl, hO⟩ Qs
 ·rintro w1 vis vs vis' s1 hh ms1 hR lh ⟨hn, hlt, g5, v, mo, j, hj, hjv, rfl, rfl, rfl, hO⟩
  have hn' : (vis ++ [j]).Nodup := List.nodup_append.2 ⟨hn, by simp, fun a ha b hb e => by simp at hb; subst hb; subst e; exact hjv ha⟩
  have hlt' : ∀ x ∈ vis ++ [j], x < T.length := fun x hx => by
   rcases List.mem_append.1 hx with h1 | h1
   ·exact hlt x h1
   ·simp at h1; omega
  have hlen : (vis.map (Fu T)).length ≤ 1000000 := by
   have := hn.length_le_of_subset (l₂ := List.range T.length) fun x hx => List.mem_range.2 (hlt x hx)
   simp at this ⊢; omega
  have ov : v.oneCell' = true := (hO.rd (h := h) (ms := [mo]) (List.Mem.head _)).rd.one
  refine EV (BV (by kernel_rfl) (Ql rfl underlying81 (Cell.blk0 1 rfl rfl) (Qx (oG rfl underlying53 Fx (Seg.blk 0 rfl)) rfl ?_)))
  refine AB [_, _] rfl underlying81 Fx rfl (by rfl) rfl rfl (by omega) rfl rfl rfl (fun g10 => ?_)
  refine Bm 3 hO (RdL.one EG (x := Fu T j) (List.Mem.head _) rfl) rfl underlying81 Fx rfl (by omega) rfl rfl rfl Ss (by simp only [List.length_singleton]; omega) (by simp only [List.length_singleton]; omega) rfl rfl rfl (fun v2 mo2 hO2 => ?_)
  have ov2 : v2.oneCell' = true := (hO2.rd (h := h) (ms := [mo2]) (List.Mem.head _)).rd.one
  refine AK 2 0 rfl Ww rfl rfl (by assumption) rfl rfl (by (simp; done)) rfl rfl ?_
  refine Ak (Aj (A5 (A5 ?_)))
  refine AA [] ⟨hn', hlt', v2, mo2, rfl, ?_⟩ trivial
  rw [List.map_append]
  exact hO2
 ·intro D vis hh ms1 hfin lh ⟨hn, hlt, v, mo, e, hO⟩
  subst e
  have ov : v.oneCell' = true := (hO.rd (h := h) (ms := [mo]) (List.Mem.head _)).rd.one
  refine Aj (Ab (Ax (Ql rfl underlying81 (Cell.blk0 0 rfl rfl) (Qm rfl (Aq (Ao (A5 (In 1 (.inr rfl) rfl ?_))))))))
  exact Am rfl rfl (⟨lh, vis, mo, rfl, hfin, hO⟩)
theorem MC (g1 gT : Nat) (m : Hp) (T : List ((Int × Int) × Int)) (bs : List Nat) (h : Hp) (hG : Seg h [] ⟨g1, 0, none⟩ [.map (some gT)]) (O : DI kP kI gT Mj m T bs) (hm : m.le h) (hT : T.length ≤ 1000000) :
  FnT Tryz.prog 75 #[.func (.func 77) #[] #[.pointer (some ⟨g1, 0, none⟩)]] h [] (fun r h' ms' => h.le h' ∧ ∃ (vis : List Nat) (mo : Hp), ms' = [mo] ∧ vis.Perm (List.range T.length) ∧ OwnL cP 2 53 mo r (vis.map (Fu T))) := by
 refine Av func75 ntmps75 rfl rfl (fun w0 hw0 => ?_)
 simp only [A4]
 refine Ax (Qm rfl (B3 (Qm rfl (Qc call102 rfl (Kl g1 gT m T bs h hG O hm hT) (fun x h2 ms2 l2 hF => ?_)))))
 obtain ⟨l2', vis, mo, rfl, hp, hO⟩ := hF
 have ov : x.oneCell' = true := (hO.rd (h := h) (ms := [mo]) (List.Mem.head _)).rd.one
 refine Qm rfl (Aq (Ao ?_))
 exact Am rfl rfl (⟨l2, vis, mo, rfl, hp, hO⟩)
end Go.Proofs.YtdnelknieikbaaaGreat
namespace Go.Proofs.YtdnelknieikbaaaGreat
open Go.Eng Go.RowKit Go.Lin Go.Sort Go.Srt
structure Iv where
 fr : Int
 to : Int
 n : Int
deriving DecidableEq
def GO (x : Iv) : List Value := [.int .i64 x.fr, .int .i64 x.to, .int .i64 x.n]
theorem FS : ∀ x, (GO x).length = 3 := fun _ => rfl
theorem Kk (x : Iv) : ∀ c ∈ GO x, c.oneCell' = true := fun c hc => by
 simp only [GO, List.mem_cons, List.not_mem_nil, or_false] at hc
 rcases hc with rfl | rfl | rfl <;> rfl
def DE (c : Int × Int → Nat) (bl : List Iv) : Prop := ∃ ks : List (Int × Int), bl = ks.map (fun a => ⟨a.1, a.2, (c a : Nat)⟩) ∧ ks.Pairwise (fun a b => D3 a b < 0) ∧ ∀ a, a ∈ ks ↔ 0 < c a
theorem HN : ∀ (l l' : List (Int × Int)), l.Pairwise (fun a b => D3 a b < 0) → l'.Pairwise (fun a b => D3 a b < 0) → (∀ a, a ∈ l ↔ a ∈ l') → l = l'
 | [], [], _, _, _ => rfl
 | [], b :: l', _, _, h => absurd ((h b).2 (by simp)) (by simp)
 | a :: l, [], _, _, h => absurd ((h a).1 (by simp)) (by simp)
 | a :: l, b :: l', h1, h2, h => by
  have p1 := List.pairwise_cons.1 h1
  have p2 := List.pairwise_cons.1 h2
  have hab : a = b := by
   rcases List.mem_cons.1 ((h a).1 (by simp)) with e | e
   ·exact e
   ·rcases List.mem_cons.1 ((h b).2 (by simp)) with e' | e'
    ·exact e'.symm
    ·have q1 := p2.1 a e
     have q2 := p1.1 b e'
     rw [Cm] at q1 q2
     omega
  subst hab
  rw [HN l l' p1.2 p2.2 fun x => by
   have hx := h x
   have n1 : a ∉ l := fun hm => by have := p1.1 a hm; rw [Cm] at this; omega
   have n2 : a ∉ l' := fun hm => by have := p2.1 a hm; rw [Cm] at this; omega
   constructor
   ·intro hm
    rcases List.mem_cons.1 (hx.1 (List.mem_cons_of_mem _ hm)) with e | e
    ·subst e; exact absurd hm n1
    ·exact e
   ·intro hm
    rcases List.mem_cons.1 (hx.2 (List.mem_cons_of_mem _ hm)) with e | e
    ·subst e; exact absurd hm n2
    ·exact e]
theorem Jn {c c' : Int × Int → Nat} {l l' : List Iv} (h : DE c l) (h' : DE c' l') (e : ∀ a, c a = c' a) : l = l' := by
 obtain ⟨ks, rfl, h1, h2⟩ := h
 obtain ⟨ks', rfl, h1', h2'⟩ := h'
 obtain rfl := HN ks ks' h1 h1' fun a => by rw [h2, h2', e]
 exact List.map_congr_left fun a _ => by rw [e]
def Si (Z : Zz) (l : List StE) : Prop := (¬ Z.Rt → l = []) ∧ (Z.Rt → ∃ (N : Nat) (S : Nat → SM) (e : Nat → StE) (L : List Nat), l = L.map e ∧ L.Perm (List.range N) ∧ Valid Z.zg (Dr N S) ∧ ∀ k, k < N → (e k).fr = (S k).fr ∧ (e k).to = (S k).to)
theorem U3 {Z : Zz} {N : Nat} {S : Nat → SM} {e : Nat → StE} {L : List Nat} (hV : Valid Z.zg (Dr N S)) (hRt : Z.Rt) (hp : L.Perm (List.range N)) (he : ∀ k, k < N → (e k).fr = (S k).fr ∧ (e k).to = (S k).to) : ∀ s ∈ L.map e, Mj s.key := fun s hs => by
 obtain ⟨k, hk, rfl⟩ := List.mem_map.1 hs
 have hkN := List.mem_range.1 (hp.mem_iff.1 hk)
 obtain ⟨h1, h2⟩ := he k hkN
 have h3 := hV.ends k hkN
 have h4 : (S k).fr ≤ (S k).to := h3.1
 have h5 : (S k).to < Z.dims.length := h3.2
 have h6 := hRt.2.1
 constructor
 ·show Dh (e k).fr
  rw [h1]; unfold Dh; omega
 ·show Dh (e k).to
  rw [h2]; unfold Dh; omega
theorem UC {T : List ((Int × Int) × Int)} {ks : List (Int × Int)} (C : TC T ks) (hn : (T.map Prod.fst).Nodup) : (∀ a, a ∈ T.map Prod.fst ↔ 0 < ks.count a) ∧ T.length ≤ ks.length := by
 have h1 : ∀ a, a ∈ T.map Prod.fst ↔ a ∈ ks := fun a => by
  constructor
  ·intro h
   obtain ⟨p, hp, rfl⟩ := List.mem_map.1 h
   obtain ⟨j, hj⟩ := List.getElem?_of_mem hp
   exact C.has p.1 p.2 (G7 hn (j := j) hj)
  ·intro h
   refine Classical.byContradiction fun hno => ?_
   have h2 := C.cnt a
   rw [Ec hno] at h2
   have := List.count_pos_iff.2 h
   simp at h2
   omega
 refine ⟨fun a => by rw [h1, List.count_pos_iff], ?_⟩
 have := hn.length_le_of_subset fun a ha => (h1 a).1 ha
 simpa using this
end Go.Proofs.YtdnelknieikbaaaGreat
namespace Go.Proofs.YtdnelknieikbaaaGreat
open Go.Eng Go.RowKit Go.Lin Go.Sort Go.Srt
variable {h : Hp} {Z : Zz} {bl : List Iv}
def RdE (h : Hp) (d : Nat → Nat) (e : StE) (s : SM) (es : List Value) : Prop := e.fr = s.fr ∧ e.to = s.to ∧ s.fr ≤ s.to ∧ RdL cV 1 h [] e.v es ∧ es.length = s.to + 1 - s.fr ∧ ∀ k (hk : k < es.length), RdL cI 1 h [] es[k] (vec (d (s.fr + k)) (s.v (s.fr + k)))
theorem StV.rde {d : Nat → Nat} {e : StE} {s : SM} {m : Hp} (S : StV d s.g e s.fr s.to s.v m) (hl : m.le h) : ∃ es, RdE h d e s es := by
 obtain ⟨e1, e2, es, ma, mb, h0, rfl, h1, h2, h3, h4, h5⟩ := S
 have l1 : ma.le h := Hp.le_trans (Hp.le_trans Hp.le_joinl (Hp.le_joinr h1)) hl
 have l2 : mb.le h := Hp.le_trans (Hp.le_trans (Hp.le_joinr h2) (Hp.le_joinr h1)) hl
 exact ⟨es, e1, e2, h0, h3.rdh l1, h4, h5.rd l2 rfl⟩
def Gs (d : Nat → Nat) (e : StE) (s : SM) (es : List Value) : SV := ⟨e, es, (List.range (s.to + 1 - s.fr)).map fun k => vec (d (s.fr + k)) (s.v (s.fr + k))⟩
theorem JS (d : Nat → Nat) (e : StE) (s : SM) (es : List Value) {k : Nat} (hk : k < s.to + 1 - s.fr) : (Gs d e s es).vs.getD k [] = vec (d (s.fr + k)) (s.v (s.fr + k)) := by
 simp [Gs, List.getD, hk]
theorem Hb (d : Nat → Nat) (e : StE) (s : SM) (es : List Value) : (Gs d e s es).vs.length = s.to + 1 - s.fr := by simp [Gs]
theorem RdE.rdw {d : Nat → Nat} {e : StE} {s : SM} {es : List Value} (R : RdE h d e s es) : RdW h (Gs d e s es) := by
 obtain ⟨e1, e2, h0, h1, h2, h3⟩ := R
 refine ⟨by rw [Hb]; exact h2, h1, fun j hj => ?_⟩
 rw [Hb] at hj
 have hj' : j < es.length := by omega
 rw [JS d e s es hj]
 show RdL cI 1 h [] (es.getD j undef) _
 rw [Ev hj']
 exact h3 j hj'
theorem strands_sv (hRt : Z.Rt) {N : Nat} {S : Nat → SM} {e : Nat → StE} {L : List Nat} {m mB : Hp} {r : Value} (hO : OwnL cS 3 64 m r (L.map e)) (hm : m.le h) (B : Bag N (fun l x => StV Z.zg.d (S l).g (e l) (S l).fr (S l).to (S l).v x) mB) (hmB : mB.le h) (hp : L.Perm (List.range N)) (V : Valid Z.zg (Dr N S)) (hb : ∀ l, l < N → (S l).Bd Z.p Z.zg.d) :
  ∃ l : List SV, l.map SV.e = L.map e ∧ RdSs h r l ∧ Vo Z l := by
 have hex : ∀ k, ∃ es, k < N → RdE h Z.zg.d (e k) (S k) es := fun k => by
  by_cases hk : k < N
  ·obtain ⟨x, hx, hS⟩ := B.all k hk
   obtain ⟨es, he⟩ := hS.rde (Hp.le_trans hx hmB)
   exact ⟨es, fun _ => he⟩
  ·exact ⟨[], fun h => absurd h hk⟩
 obtain ⟨es, hes⟩ := Classical.axiomOfChoice hex
 have hLN : ∀ k ∈ L, k < N := fun k hk => List.mem_range.1 (hp.mem_iff.1 hk)
 have hat : ∀ t, t < L.length → L.getD t 0 < N := fun t ht => hLN _ (by simp [List.getD, ht])
 have hget : ∀ t, t < L.length → (L.map fun k => Gs Z.zg.d (e k) (S k) (es k)).getD t default = Gs Z.zg.d (e (L.getD t 0)) (S (L.getD t 0)) (es (L.getD t 0)) := fun t ht => by
  have e1 : L.getD t 0 = L[t] := by simp [List.getD, ht]
  rw [Et (by rw [List.length_map]; exact ht), List.getElem_map, e1]
 refine ⟨L.map fun k => Gs Z.zg.d (e k) (S k) (es k), by rw [List.map_map]; rfl, ⟨?_, fun s hs => ?_⟩, hRt, fun s hs => ?_, ?_⟩
 ·have h1 := (hO.rdh (ms := []) hm).rd
  refine ⟨?_, Ts⟩
  rw [List.length_map] at h1 ⊢
  rw [List.flatMap_map] at h1 ⊢
  exact h1
 ·obtain ⟨k, hk, rfl⟩ := List.mem_map.1 hs
  exact (hes k (hLN k hk)).rdw
 ·obtain ⟨k, hk, rfl⟩ := List.mem_map.1 hs
  have hkN := hLN k hk
  obtain ⟨e1, e2, h0, h1, h2, h3⟩ := hes k hkN
  have h4 := V.ends k hkN
  have h5 : (S k).to < Z.dims.length := h4.2
  refine ⟨?_, ?_, ?_, ?_, fun j hj => ?_⟩
  ·show 0 ≤ (e k).fr; omega
  ·show (e k).fr ≤ (e k).to; omega
  ·show (e k).to < _; omega
  ·rw [Hb]; show _ = (e k).to - (e k).fr + 1; omega
  ·rw [Hb] at hj
   rw [JS _ _ _ _ hj, AQ]
   have e3 : (Gs Z.zg.d (e k) (S k) (es k)).e.fr.toNat = (S k).fr := by show (e k).fr.toNat = _; omega
   rw [e3]
   refine ⟨Z.zg_d hRt _, fun x hx => ?_⟩
   obtain ⟨i, hi, rfl⟩ := mem_vec.1 hx
   exact hb k hkN _ (by omega) (by omega) i hi
 ·refine Mp V hp (by show (L.map _).length = _; rw [List.length_map]) (fun t ht => ?_) fun t ht k ho i hi => ?_
  ·obtain ⟨e1, e2, _⟩ := hes _ (hat t ht)
   show ((L.map fun k => Gs Z.zg.d (e k) (S k) (es k)).getD t default).e.fr.toNat = (S (L.getD t 0)).fr ∧ ((L.map fun k => Gs Z.zg.d (e k) (S k) (es k)).getD t default).e.to.toNat = (S (L.getD t 0)).to
   rw [hget t ht]
   show (e (L.getD t 0)).fr.toNat = _ ∧ (e (L.getD t 0)).to.toNat = _
   omega
  ·obtain ⟨e1, e2, h0, _⟩ := hes _ (hat t ht)
   have ho := Dc.on_iff.1 ho
   have ho : ((L.map fun k => Gs Z.zg.d (e k) (S k) (es k)).getD t default).e.fr.toNat ≤ k ∧ k ≤ ((L.map fun k => Gs Z.zg.d (e k) (S k) (es k)).getD t default).e.to.toNat := ho
   show (((L.map fun k => Gs Z.zg.d (e k) (S k) (es k)).getD t default).at_ k).getD i 0 = _
   rw [hget t ht] at ho ⊢
   have ho : (e (L.getD t 0)).fr.toNat ≤ k ∧ k ≤ (e (L.getD t 0)).to.toNat := ho
   unfold SV.at_
   have e3 : (Gs Z.zg.d (e (L.getD t 0)) (S (L.getD t 0)) (es (L.getD t 0))).e.fr.toNat = (S (L.getD t 0)).fr := by show (e (L.getD t 0)).fr.toNat = _; omega
   rw [e3, JS _ _ _ _ (by omega), show (S (L.getD t 0)).fr + (k - (S (L.getD t 0)).fr) = k by omega, Gw (by rw [AQ]; exact hi), EE hi]
   rfl
def EI (Z : Zz) (bl : List Iv) : Prop := (¬ Z.Rt → bl = []) ∧ (Z.Rt → ∃ D, Valid Z.zg D ∧ DE D.ct bl)
theorem OR (h : DE (fun a => (([] : List StE).map StE.key).count a) bl) : bl = [] := by
 obtain ⟨ks, rfl, _, h2⟩ := h
 cases ks with
 | nil => rfl
 | cons a ks => exact absurd ((h2 a).1 (by simp)) (by simp)
theorem GH {l : List StE} (hS : Si Z l) (hB : DE (fun a => (l.map StE.key).count a) bl) : EI Z bl := by
 refine ⟨fun h => ?_, fun h => ?_⟩
 ·rw [hS.1 h] at hB; exact OR hB
 ·obtain ⟨N, S, e, L, rfl, hp, V, he⟩ := hS.2 h
  refine ⟨_, V, ?_⟩
  have e1 : (fun a => ((L.map e).map StE.key).count a) = (Dr N S).ct := funext fun a => by
   rw [List.map_map]
   exact Ma (D := Dr N S) hp (fun k hk => by
    obtain ⟨h1, h2⟩ := he k hk
    show ((e k).fr, (e k).to) = _
    rw [h1, h2]; rfl) a
  rw [← e1]; exact hB
theorem JU (hRt : Z.Rt) {D : Dc} (V : Valid Z.zg D) {bl' : List Iv} (h : EI Z bl) (h' : DE D.ct bl') : bl = bl' := by
 obtain ⟨D0, V0, h0⟩ := h.2 hRt
 exact Jn h0 h' fun a => Jt hRt.2.2.2.1.fld V0 V a
end Go.Proofs.YtdnelknieikbaaaGreat
namespace Go.Proofs.YtdnelknieikbaaaGreat
open Go.Proofs.Tryz
open Go.Eng Go.RowKit Go.Lin Go.Sort Go.Srt
def Ar.core (a : Ar) : Bool × FM := (a.b, a.M)
def MI (n : Int) : Bool × FM := (decide (n < 0), ⟨5, 1, 1, [max n (-n) % 9]⟩)
theorem Kc {x : Ar} (h : x.v.oneCell' = true) : ∀ a ∈ [x], ∀ c ∈ cA a, c.oneCell' = true := fun a ha c hc => by
 rw [List.mem_singleton.1 ha] at hc
 simp only [cA, List.mem_cons, List.not_mem_nil, or_false] at hc
 rcases hc with rfl | rfl | rfl | rfl | rfl
 ·rfl
 ·rfl
 ·rfl
 ·rfl
 ·exact h
theorem GD (l : List Int) (vl : Value) (h : Hp) (hL : RdL cI 1 h [] vl l) (hl : l.length ≤ 100) (hb : ∀ x ∈ l, -9 ≤ x ∧ x ≤ 9) : FnT Tryz.prog 37 #[vl] h [] (fun r h' ms' => h.le h' ∧ ms' = [] ∧ ∃ (Z : Zz) (vd va : Value), r = .agg #[.int .i64 Z.p, vd, va] ∧ RdZ h' vd va Z ∧ Z.p = 5 ∧ Z.dims = List.replicate (l.length + 1) 1 ∧ Z.ars.map Ar.core = l.map MI) := by
 refine Av func37 ntmps37 rfl rfl (fun w0 hw0 => ?_)
 simp only [A4]
 refine Ax (BZ [.int .i64 0, .slice none 0 0, .slice none 0 0] rfl Bz rfl rfl (fun g2 => B3 ?_))
 refine AB [_] rfl underlying24 A8 rfl (by rfl) rfl rfl (by omega) rfl rfl rfl (fun g7 => ?_)
 refine Qx (AT Sr [.int .i64 0, .slice none 0 0, .slice none 0 0] [(0, _), (1, _)] [_, _, _] rfl Bz rfl rfl (by repeat (first | exact trivial | refine ⟨⟨rfl, rfl, rfl⟩, ?_⟩)) rfl) rfl ?_
 refine BZ [.int .i64 0, .slice none 0 0, .slice none 0 0] rfl Bz rfl rfl (fun g3 => ?_)
 refine Sa 0 [_, _, _] Bz rfl (by simp [Value.oneCell']) ?_
 refine Aq (Ac (Ax (Qm rfl (Qx (AJ hL.rd.any rfl underlying24 rfl) rfl (Qm rfl (Aq (Ag (BX ?_))))))))
 refine AD (fun q sl hh ms' => ∃ (i : Nat) (vd va : Value) (ma md : Hp) (A : List Ar), q = l.length - i ∧ sl = [(2, .pointer (some ⟨g2, 0, none⟩)), (3, .pointer (some ⟨g3, 0, none⟩)), (9, vl), (10, .int .i64 l.length), (11, .int .i64 i)] ∧ h.le hh ∧ ms' = [ma, AX g3 30 [.int .i64 5, vd, va], md, AX g2 30 [.int .i64 0, .slice none 0 0, .slice none 0 0]] ∧ i ≤ l.length ∧ OwnL cA 5 45 ma va A ∧ OwnL cI 1 3 md vd (List.replicate (i + 1) 1) ∧ A.map Ar.core = (l.take i).map MI ∧ ∀ a ∈ A, RdL cI 1 hh [] a.v a.M.e)
  (l.length - 0) _ ⟨0, _, _, _, _, [], rfl, rfl, Hp.le_refl _, rfl, by omega, OwnL.nil Fm, OwnL.rep (g := g7) (el := 3) 1 1 (by omega), by simp, by simp⟩ Qs ?_
 rintro q sl hh ms' ⟨i, vd, va, ma, md, A, rfl, rfl, lh, rfl, hi, hOa, hOd, hA, hE⟩
 have hL := hL.up lh
 have hAl : A.length = i := by have := congrArg List.length hA; simp at this; omega
 refine Ax (Qm rfl (Aq (Ac ?_)))
 refine AF rfl (fun hlt => ?_) (fun hlt => ?_)
 ·have hil : i < l.length := Bx hlt
  have hbi := hb _ (List.getElem_mem hil)
  refine Ai (Ab (Ac (Ag (Ax (Qx (Ah (i) hL.rd.any rfl underlying24 A8 rfl rfl (by omega) (by omega)) rfl (Ql rfl underlying3 (hL.any.cell0 hil rfl) (Qm rfl (B3 (Qm rfl (Qm rfl ?_))))))))))
  refine Qx (AT Pa [.bool false, .int .i64 0, .int .i64 0, .int .i64 0, .slice none 0 0] [(0, _)] [_, _, _, _, _] rfl Cr rfl rfl (by repeat (first | exact trivial | refine ⟨⟨rfl, rfl, rfl⟩, ?_⟩)) rfl) rfl ?_
  refine BZ [.bool false, .int .i64 0, .int .i64 0, .int .i64 0, .slice none 0 0] rfl Cr rfl rfl (fun g6 => ?_)
  refine Sa 0 [_, _, _, _, _] Cr rfl (by simp [Value.oneCell']) ?_
  refine B3 (Qm rfl (Qm rfl (Qx (Vd rfl rfl (by omega)) rfl (Qx (JV rfl rfl rfl) rfl (Qx (B0 rfl rfl rfl (by omega) (by omega)) rfl ?_)))))
  refine AB [_] rfl underlying24 A8 rfl (by rfl) rfl rfl (by omega) rfl rfl rfl (fun g23 => ?_)
  refine Qx (AT Gh [.int .i64 0, .int .i64 0, .int .i64 0, .slice none 0 0] [(0, _), (1, _), (2, _), (3, _)] [_, _, _, _] rfl AI rfl rfl (by repeat (first | exact trivial | refine ⟨⟨rfl, rfl, rfl⟩, ?_⟩)) rfl) rfl ?_
  refine Qf Ca rfl ?_
  refine L7 1 1 [.int .i64 5, .int .i64 1, .int .i64 1, .slice (some ⟨g23, 0, none⟩) 1 1] rfl AI rfl rfl rfl rfl (by simp [Value.oneCell']) rfl (by simp) rfl rfl ?_
  refine Aq (Bg (OwnL.blk (g := g23) (el := 3) (l := [max l[i] (-l[i]) % 9]) 1 Br rfl (by omega)) fun h3 l3 hRe => ?_)
  have o1 : vd.oneCell' = true := (hOd.rd (h := h) (ms := [md]) (List.Mem.head _)).rd.one
  refine Ax (Qf Bn rfl (Ql rfl underlying24 (Cell.blk 2 rfl rfl) ?_))
  refine AB [_] rfl underlying24 A8 rfl (by rfl) rfl rfl (by omega) rfl rfl rfl (fun g28 => ?_)
  refine Bm 4 hOd (RdL.one Br (x := 1) (List.Mem.head _) rfl) rfl underlying24 A8 rfl (by omega) rfl rfl rfl Cv (by simp only [List.length_singleton, List.length_replicate]; omega) (by simp only [List.length_singleton, List.length_replicate]; omega) rfl rfl rfl (fun vd2 md2 hOd2 => ?_)
  have o1 : vd2.oneCell' = true := (hOd2.rd (h := h) (ms := [md2]) (List.Mem.head _)).rd.one
  have hXE : RdL cI 1 h3 [] (Ar.mk (decide (l[i] < 0)) ⟨5, 1, 1, [max l[i] (-l[i]) % 9]⟩ (.slice (some ⟨g23, 0, none⟩) 1 1)).v (Ar.mk (decide (l[i] < 0)) ⟨5, 1, 1, [max l[i] (-l[i]) % 9]⟩ (.slice (some ⟨g23, 0, none⟩) 1 1)).M.e := hRe
  have o2 : va.oneCell' = true := (hOa.rd (h := h) (ms := [ma]) (List.Mem.head _)).rd.one
  refine Qf Bn rfl ?_
  refine AK 3 _ rfl BN rfl rfl (by assumption) rfl rfl (by (simp; done)) rfl rfl ?_
  refine IA (Qf BQ rfl (Ql rfl underlying28 (Cell.blk 3 rfl rfl) (Qx (oG rfl underlying45 Cr (Seg.blk 1 rfl)) rfl ?_)))
  refine AB [_, _, _, _, _] rfl underlying28 Cr rfl (by rfl) rfl rfl (by omega) rfl rfl rfl (fun g34 => ?_)
  refine Ba 3 hOa (RdL.one Fm (x := ⟨decide (l[i] < 0), ⟨5, 1, 1, [max l[i] (-l[i]) % 9]⟩, .slice (some ⟨g23, 0, none⟩) 1 1⟩) (List.Mem.head _) rfl) rfl underlying28 Cr rfl (by omega) rfl rfl rfl (Kc rfl) (by simp only [List.length_singleton, List.length_replicate]; omega) (by simp only [List.length_singleton, List.length_replicate]; omega) rfl rfl rfl (fun va2 ma2 hOa2 => ?_)
  have o2 : va2.oneCell' = true := (hOa2.rd (h := h) (ms := [ma2]) (List.Mem.head _)).rd.one
  refine Qf BQ rfl ?_
  refine AK 4 _ rfl Tm rfl rfl (by assumption) rfl rfl (by (simp; done)) rfl rfl ?_
  refine Ak (Aj (Ab (Ad (Qx (oA rfl) rfl (Qm rfl (Ak (A5 (A5 (A5 ?_)))))))))
  refine Al (l.length - (i + 1)) _ (by omega) ⟨i + 1, vd2, va2, ma2, md2, _, rfl, rfl, Hp.le_trans lh l3, rfl, by omega, hOa2, by rw [List.replicate_succ']; exact hOd2, ?_, fun a ha => ?_⟩ Qs
  ·rw [List.map_append, hA, List.take_succ_eq_append_getElem hil, List.map_append]; rfl
  ·rcases List.mem_append.1 ha with ha | ha
   ·exact (hE a ha).up l3
   ·rw [List.mem_singleton.1 ha]; exact hXE
 ·obtain rfl : i = l.length := by omega
  have o1 : vd.oneCell' = true := (hOd.rd (h := h) (ms := [md]) (List.Mem.head _)).rd.one
  have o2 : va.oneCell' = true := (hOa.rd (h := h) (ms := [ma]) (List.Mem.head _)).rd.one
  refine Bg hOa fun h3 l3 hRa => (Cu 1 rfl (Bg hOd fun h4 l4 hRd => (Aw (Aa (Aa (Af (Ab (Ax (Qx (oG rfl underlying30 Bz (Seg.blk 0 rfl)) rfl ?_)))))))))
  refine Sa 1 [_, _, _] Bz rfl (by simp [o1, o2]) ?_
  refine Aq (Ao (AP 0 rfl ?_))
  exact Cl (vs := [_, _, _]) 0 rfl rfl underlying30 rfl Bz rfl rfl (⟨Hp.le_trans lh (Hp.le_trans l3 l4), rfl, ⟨5, List.replicate (l.length + 1) 1, A⟩, vd, va, rfl, ⟨hRd, hRa.up l4, fun a ha => (hE a ha).up (Hp.le_trans l3 l4)⟩, rfl, rfl, by rw [hA, List.take_length]⟩)
def QQ (n : Int) : List (Bool × FM) := [(false, ⟨5, 2, 1, [1, 1]⟩), (true, ⟨5, 2, 1, [max n 1, n]⟩)]
theorem NV (n : Int) (h : Hp) (hn : 0 ≤ n ∧ n ≤ 9) : FnT Tryz.prog 38 #[.int .i64 n] h [] (fun r h' ms' => h.le h' ∧ ms' = [] ∧ ∃ (Z : Zz) (vd va : Value), r = .agg #[.int .i64 Z.p, vd, va] ∧ RdZ h' vd va Z ∧ Z.p = 5 ∧ Z.dims = [1, 2, 1] ∧ Z.ars.map Ar.core = QQ n) := by
 refine Av func38 ntmps38 rfl rfl (fun w0 hw0 => ?_)
 simp only [A4]
 refine Ax (BZ [.int .i64 0, .slice none 0 0, .slice none 0 0] rfl Bz rfl rfl (fun g2 => B3 ?_))
 refine AZ [(0, _), (1, _), (2, _)] [.int .i64 0, .int .i64 0, .int .i64 0] [_, _, _] rfl underlying24 A8 rfl (by omega) (by kernel_rfl) (by repeat (first | exact trivial | refine ⟨⟨by rfl, rfl, rfl⟩, ?_⟩)) rfl rfl rfl rfl (fun g3 => ?_)
 refine AZ [(0, _), (1, _)] [.int .i64 0, .int .i64 0] [_, _] rfl underlying24 A8 rfl (by omega) (by kernel_rfl) (by repeat (first | exact trivial | refine ⟨⟨by rfl, rfl, rfl⟩, ?_⟩)) rfl rfl rfl rfl (fun g4 => ?_)
 refine Qx (AT Gh [.int .i64 0, .int .i64 0, .int .i64 0, .slice none 0 0] [(0, _), (1, _), (2, _), (3, _)] [_, _, _, _] rfl AI rfl rfl (by repeat (first | exact trivial | refine ⟨⟨rfl, rfl, rfl⟩, ?_⟩)) rfl) rfl ?_
 refine Qx (AT Pa [.bool false, .int .i64 0, .int .i64 0, .int .i64 0, .slice none 0 0] [(1, _)] [_, _, _, _, _] rfl Cr rfl rfl (by repeat (first | exact trivial | refine ⟨⟨rfl, rfl, rfl⟩, ?_⟩)) rfl) rfl ?_
 refine Qm rfl (Qx (JV rfl rfl rfl) rfl (Qm rfl ?_))
 refine AZ [(0, _), (1, _)] [.int .i64 0, .int .i64 0] [_, _] rfl underlying24 A8 rfl (by omega) (by kernel_rfl) (by repeat (first | exact trivial | refine ⟨⟨by rfl, rfl, rfl⟩, ?_⟩)) rfl rfl rfl rfl (fun g10 => ?_)
 refine Qx (AT Gh [.int .i64 0, .int .i64 0, .int .i64 0, .slice none 0 0] [(0, _), (1, _), (2, _), (3, _)] [_, _, _, _] rfl AI rfl rfl (by repeat (first | exact trivial | refine ⟨⟨rfl, rfl, rfl⟩, ?_⟩)) rfl) rfl ?_
 refine Qx (AT Pa [.bool false, .int .i64 0, .int .i64 0, .int .i64 0, .slice none 0 0] [(0, _), (1, _)] [_, _, _, _, _] rfl Cr rfl rfl (by repeat (first | exact trivial | refine ⟨⟨rfl, rfl, rfl⟩, ?_⟩)) rfl) rfl ?_
 refine AZ [(0, _), (5, _)] [.bool false, .int .i64 0, .int .i64 0, .int .i64 0, .slice none 0 0, .bool false, .int .i64 0, .int .i64 0, .int .i64 0, .slice none 0 0] [_, _, _, _, _, _, _, _, _, _] rfl underlying28 Cr rfl (by omega) (by kernel_rfl) (by repeat (first | exact trivial | refine ⟨⟨by rfl, rfl, rfl⟩, ?_⟩)) rfl rfl rfl rfl (fun g13 => ?_)
 refine Qx (AT Sr [.int .i64 0, .slice none 0 0, .slice none 0 0] [(0, _), (1, _), (2, _)] [_, _, _] rfl Bz rfl rfl (by repeat (first | exact trivial | refine ⟨⟨rfl, rfl, rfl⟩, ?_⟩)) rfl) rfl ?_
 refine AH (OwnL.blk (g := g13) (el := 45) (F := cA) (l := [⟨false, ⟨5, 2, 1, [1, 1]⟩, .slice (some ⟨g4, 0, none⟩) 2 2⟩, ⟨true, ⟨5, 2, 1, [max n 1, n]⟩, .slice (some ⟨g10, 0, none⟩) 2 2⟩]) 2 Fm rfl (by omega)) fun h1 l1 hRa => (AH (OwnL.blk (g := g10) (el := 3) (F := cI) (l := [max n 1, n]) 2 Br rfl (by omega)) fun h2 l2 hR2 => (AH (OwnL.blk (g := g4) (el := 3) (F := cI) (l := [1, 1]) 2 Br rfl (by omega)) fun h3 l3 hR1 => (AH (OwnL.blk (g := g3) (el := 3) (F := cI) (l := [1, 2, 1]) 3 Br rfl (by omega)) fun h4 l4 hRd => ?_)))
 have hE : ∀ a ∈ [(⟨false, ⟨5, 2, 1, [1, 1]⟩, .slice (some ⟨g4, 0, none⟩) 2 2⟩ : Ar), ⟨true, ⟨5, 2, 1, [max n 1, n]⟩, .slice (some ⟨g10, 0, none⟩) 2 2⟩], RdL cI 1 h4 [] a.v a.M.e := fun a ha => by
  simp only [List.mem_cons, List.not_mem_nil, or_false] at ha
  rcases ha with rfl | rfl
  ·exact hR1.up l4
  ·exact hR2.up (Hp.le_trans l3 l4)
 refine Sa 0 [_, _, _] Bz rfl (by simp [Value.oneCell']) ?_
 refine Aq (Ao ?_)
 exact Cl (vs := [_, _, _]) 0 rfl rfl underlying30 rfl Bz rfl rfl (⟨Hp.le_trans l1 (Hp.le_trans l2 (Hp.le_trans l3 l4)), rfl, ⟨5, [1, 2, 1], [⟨false, ⟨5, 2, 1, [1, 1]⟩, .slice (some ⟨g4, 0, none⟩) 2 2⟩, ⟨true, ⟨5, 2, 1, [max n 1, n]⟩, .slice (some ⟨g10, 0, none⟩) 2 2⟩]⟩, _, _, rfl, ⟨hRd, hRa.up (Hp.le_trans l2 (Hp.le_trans l3 l4)), hE⟩, rfl, rfl, rfl⟩)
end Go.Proofs.YtdnelknieikbaaaGreat
namespace Go.Proofs.YtdnelknieikbaaaGreat
open Go.Eng Go.RowKit Go.Lin Go.Sort Go.Srt
variable {Z : Zz} {c : List (Bool × FM)}
def Lu (p : Int) (dims : List Int) (c : List (Bool × FM)) : Zz := ⟨p, dims, c.map fun x => ⟨x.1, x.2, .slice none 0 0⟩⟩
theorem S5 (h : Z.ars.map Ar.core = c) : Z.zg = (Lu Z.p Z.dims c).zg := by
 subst h
 have e : ∀ k, ((Z.ars.map Ar.core).map fun x : Bool × FM => (⟨x.1, x.2, .slice none 0 0⟩ : Ar))[k]? = (Z.ars[k]?).map fun a : Ar => (⟨a.b, a.M, .slice none 0 0⟩ : Ar) := fun k => by rw [List.map_map, List.getElem?_map]; rfl
 unfold Zz.zg Lu
 simp only [e]
 congr 1
 ·funext k; cases Z.ars[k]? <;> rfl
 ·funext k; cases Z.ars[k]? <;> rfl
theorem N9 (h : Z.ars.map Ar.core = c) : Z.Rt ↔ (Lu Z.p Z.dims c).Rt := by
 subst h
 unfold Zz.Rt Lu
 simp only [List.length_map]
 refine and_congr_right fun _ => and_congr_right fun _ => and_congr_right fun _ => and_congr_right fun _ => and_congr_right fun _ => (forall_congr' fun k => forall_congr' fun hk => ?_)
 simp only [List.getElem_map]
 exact Iff.rfl
theorem Zz.Rt.ok (h : Z.Rt) : Z.Ok := by
 obtain ⟨h1, h2, h3, h4, h5, h6⟩ := h
 have hp1 := h4.1
 have hp2 := h4.2.1
 refine ⟨⟨by omega, by omega⟩, fun x hx => ?_, fun a ha => ?_⟩
 ·have := h5 x hx
  exact ⟨by omega, by omega⟩
 ·obtain ⟨k, hk, rfl⟩ := List.mem_iff_getElem.1 ha
  obtain ⟨⟨q1, ⟨q2, q3, q4, q5⟩, _⟩, _⟩ := h6 k hk
  have := q1.1
  have := q1.2.1
  exact ⟨⟨by omega, by omega⟩, ⟨by omega, by omega⟩, ⟨by omega, by omega⟩⟩
theorem Lg {D : Dc} {ks : List (Int × Int)} (h : (List.range D.N).map (fun l => ((D.fr l : Int), (D.to l : Int))) = ks) (hs : ks.Pairwise fun a b => D3 a b < 0) : DE D.ct (ks.map fun a => ⟨a.1, a.2, 1⟩) := by
 have hc : ∀ a, D.ct a = ks.count a := fun a => by rw [← h]; exact (Ma (List.Perm.refl _) (fun _ _ => rfl) a).symm
 have hn : ks.Nodup := hs.imp fun {a b} h e => by
  subst e
  rw [Cm] at h
  omega
 refine ⟨ks, List.map_congr_left fun a ha => ?_, hs, fun a => ?_⟩
 ·rw [hc, hn.count, if_pos ha]; rfl
 ·rw [hc, List.count_pos_iff]
def Ex (Z : Zz) (ks : List (Int × Int)) : Prop := Z.Rt ∧ ∃ D, Valid Z.zg D ∧ DE D.ct (ks.map fun a => ⟨a.1, a.2, 1⟩)
theorem IC {p : Int} {dims : List Int} {ks : List (Int × Int)} (h1 : Z.p = p) (h2 : Z.dims = dims) (h3 : Z.ars.map Ar.core = c) (D : Dc) (U : Nat → Nat → Nat → Int) (hr : decide (Lu p dims c).Rt = true) (hv : Mr (Lu p dims c).zg D U = true) (hk : (List.range D.N).map (fun l => ((D.fr l : Int), (D.to l : Int))) = ks) (hs : ks.Pairwise fun a b => D3 a b < 0) : Ex Z ks := by
 subst h1 h2
 refine ⟨(N9 h3).2 (of_decide_eq_true hr), D, ?_, Lg hk hs⟩
 rw [S5 h3]
 exact OD U hv
def two (l a b : Nat) : Nat := if l = 0 then a else b
theorem WV (h1 : Z.p = 5) (h2 : Z.dims = [1, 1, 1]) (h3 : Z.ars.map Ar.core = [1, 1].map MI) : Ex Z [(0, 2)] :=
 IC h1 h2 h3 ⟨1, fun _ => 0, fun _ => 2, fun _ _ _ => 1⟩ (fun _ _ _ => 1) (by decide) (by decide) rfl (by decide)
theorem WU (h1 : Z.p = 5) (h2 : Z.dims = [1, 1, 1]) (h3 : Z.ars.map Ar.core = [1, 9].map MI) : Ex Z [(0, 1), (2, 2)] :=
 IC h1 h2 h3 ⟨2, fun l => two l 0 2, fun l => two l 1 2, fun _ _ _ => 1⟩ (fun _ _ _ => 1) (by decide) (by decide) rfl (by decide)
theorem WP (h1 : Z.p = 5) (h2 : Z.dims = [1, 1, 1]) (h3 : Z.ars.map Ar.core = [1, -2].map MI) : Ex Z [(0, 2)] :=
 IC h1 h2 h3 ⟨1, fun _ => 0, fun _ => 2, fun _ k _ => if k = 2 then 3 else 1⟩ (fun k _ _ => if k = 2 then 2 else 1) (by decide) (by decide) rfl (by decide)
theorem WT (h1 : Z.p = 5) (h2 : Z.dims = [1, 1, 1]) (h3 : Z.ars.map Ar.core = [9, -1].map MI) : Ex Z [(0, 0), (1, 2)] :=
 IC h1 h2 h3 ⟨2, fun l => two l 0 1, fun l => two l 0 2, fun _ _ _ => 1⟩ (fun _ _ _ => 1) (by decide) (by decide) rfl (by decide)
theorem WQ (h1 : Z.p = 5) (h2 : Z.dims = [1, 1, 1]) (h3 : Z.ars.map Ar.core = [-9, 3].map MI) : Ex Z [(0, 0), (1, 2)] :=
 IC h1 h2 h3 ⟨2, fun l => two l 0 1, fun l => two l 0 2, fun _ k _ => if k = 2 then 3 else 1⟩ (fun k _ _ => if k = 2 then 2 else 1) (by decide) (by decide) rfl (by decide)
theorem WO (h1 : Z.p = 5) (h2 : Z.dims = [1, 2, 1]) (h3 : Z.ars.map Ar.core = QQ 0) : Ex Z [(0, 1), (1, 2)] :=
 IC h1 h2 h3 ⟨2, fun l => two l 0 1, fun l => two l 1 2, fun l k i => if k = 1 ∧ l = 1 ∧ i = 1 then 0 else 1⟩ (fun k l i => if k = 1 then (if l = 0 then (if i = 0 then 0 else 1) else (if i = 0 then 1 else 4)) else 1) (by decide) (by decide) rfl (by decide)
theorem WX (h1 : Z.p = 5) (h2 : Z.dims = [1, 2, 1]) (h3 : Z.ars.map Ar.core = QQ 2) : Ex Z [(0, 2), (1, 1)] :=
 IC h1 h2 h3 ⟨2, fun l => two l 0 1, fun l => two l 2 1, fun l k i => if k = 1 ∧ l = 1 ∧ i = 1 then 0 else if k = 2 then 3 else 1⟩ (fun k l i => if k = 1 then (if l = 0 then (if i = 0 then 0 else 1) else (if i = 0 then 1 else 4)) else if k = 2 then 2 else 1) (by decide) (by decide) rfl (by decide)
end Go.Proofs.YtdnelknieikbaaaGreat
namespace Go.Proofs
open Go.Shelf
def Tryz.laysSlF06_f76_ren : Go.Shelf.Ren := ⟨fun | 6 => 76 | 15 => 104 | 14 => 103 | 28 => 130 | 29 => 131 | 20 => 122 | 21 => 123 | 22 => 124 | 23 => 125 | 24 => 126 | 25 => 127 | 26 => 128 | 27 => 129 | 46 => 140 | 47 => 141 | 48 => 142 | 49 => 143 | 50 => 144 | 57 => 153 | n => n, fun | 22 => 81 | 24 => 53 | 25 => 86 | 3 => 3 | 39 => 143 | 0 => 0 | 53 => 167 | 55 => 169 | 4 => 4 | 46 => 160 | 45 => 159 | 50 => 164 | 5 => 5 | 9 => 9 | 66 => 174 | 70 => 178 | 76 => 191 | 77 => 116 | n => n, fun | n => n⟩
theorem Tryz.laysSlF06_f76 : Go.Proofs.SlLaysF0.n6 Tryz.prog Tryz.laysSlF06_f76_ren := {
  mixed := by kernel_rfl
  f6 := ⟨Tryz.f76.name, by decide, Tryz.func76.trans (congrArg some (by kernel_rfl))⟩
  f14 := ⟨Tryz.f103.name, by decide, Tryz.func103.trans (congrArg some (by kernel_rfl))⟩
  f15 := Tryz.func104.trans (congrArg some (by kernel_rfl))
  f20 := ⟨Tryz.f122.name, by decide, Tryz.func122.trans (congrArg some (by kernel_rfl))⟩
  f21 := ⟨Tryz.f123.name, by decide, Tryz.func123.trans (congrArg some (by kernel_rfl))⟩
  f22 := ⟨Tryz.f124.name, by decide, Tryz.func124.trans (congrArg some (by kernel_rfl))⟩
  f23 := ⟨Tryz.f125.name, by decide, Tryz.func125.trans (congrArg some (by kernel_rfl))⟩
  f24 := ⟨Tryz.f126.name, by decide, Tryz.func126.trans (congrArg some (by kernel_rfl))⟩
  f25 := ⟨Tryz.f127.name, by decide, Tryz.func127.trans (congrArg some (by kernel_rfl))⟩
  f26 := ⟨Tryz.f128.name, by decide, Tryz.func128.trans (congrArg some (by kernel_rfl))⟩
  f27 := ⟨Tryz.f129.name, by decide, Tryz.func129.trans (congrArg some (by kernel_rfl))⟩
  f28 := Tryz.func130.trans (congrArg some (by kernel_rfl))
  f29 := Tryz.func131.trans (congrArg some (by kernel_rfl))
  f46 := ⟨Tryz.f140.name, by decide, Tryz.func140.trans (congrArg some (by kernel_rfl))⟩
  f47 := Tryz.func141.trans (congrArg some (by kernel_rfl))
  f48 := Tryz.func142.trans (congrArg some (by kernel_rfl))
  f49 := ⟨Tryz.f143.name, by decide, Tryz.func143.trans (congrArg some (by kernel_rfl))⟩
  f50 := ⟨Tryz.f144.name, by decide, Tryz.func144.trans (congrArg some (by kernel_rfl))⟩
  f57 := ⟨Tryz.f153.name, by decide, Tryz.func153.trans (congrArg some (by kernel_rfl))⟩
  t0 := Tryz.underlying0
  a0 := Tryz.isAgg0
  z0 := Tryz.sizeOf0
  v0 := Tryz.zeroValue0
  t3 := Tryz.underlying3
  a3 := Tryz.isAgg3
  z3 := Tryz.sizeOf3
  v3 := Tryz.zeroValue3
  t4 := Tryz.underlying4
  a4 := Tryz.isAgg4
  z4 := Tryz.sizeOf4
  v4 := Tryz.zeroValue4
  t5 := Tryz.underlying5
  a5 := Tryz.isAgg5
  z5 := Tryz.sizeOf5
  v5 := Tryz.zeroValue5
  t9 := Tryz.underlying9
  a9 := Tryz.isAgg9
  z9 := Tryz.sizeOf9
  v9 := Tryz.zeroValue9
  t22 := Tryz.underlying81
  a22 := Tryz.isAgg81
  z22 := Tryz.sizeOf81
  v22 := Tryz.zeroValue81
  t25 := Tryz.underlying86
  a25 := Tryz.isAgg86
  z25 := Tryz.sizeOf86
  v25 := Tryz.zeroValue86
  t39 := Tryz.underlying143
  a39 := Tryz.isAgg143
  z39 := Tryz.sizeOf143
  v39 := Tryz.zeroValue143
  t45 := Tryz.underlying159
  a45 := Tryz.isAgg159
  z45 := Tryz.sizeOf159
  v45 := Tryz.zeroValue159
  t46 := Tryz.underlying160
  a46 := Tryz.isAgg160
  z46 := Tryz.sizeOf160
  v46 := Tryz.zeroValue160
  t50 := Tryz.underlying164
  a50 := Tryz.isAgg164
  z50 := Tryz.sizeOf164
  v50 := Tryz.zeroValue164
  t53 := Tryz.underlying167
  a53 := Tryz.isAgg167
  z53 := Tryz.sizeOf167
  v53 := Tryz.zeroValue167
  t55 := Tryz.underlying169
  a55 := Tryz.isAgg169
  z55 := Tryz.sizeOf169
  v55 := Tryz.zeroValue169
  t66 := Tryz.underlying174
  a66 := Tryz.isAgg174
  z66 := Tryz.sizeOf174
  v66 := Tryz.zeroValue174
  t70 := Tryz.underlying178
  a70 := Tryz.isAgg178
  z70 := Tryz.sizeOf178
  v70 := Tryz.zeroValue178
  t76 := Tryz.underlying191
  a76 := Tryz.isAgg191
  z76 := Tryz.sizeOf191
  v76 := Tryz.zeroValue191
  t77 := Tryz.underlying116
  a77 := Tryz.isAgg116
  z77 := Tryz.sizeOf116
  v77 := Tryz.zeroValue116 }
end Go.Proofs
namespace Go.Proofs.YtdnelknieikbaaaGreat
open Go.Proofs.Tryz
open Go.Eng Go.RowKit Go.Lin Go.Sort Go.Srt
instance : Inhabited (Int × Int) := ⟨(0, 0)⟩
theorem TJ : SWO (ltOf D3) := by
 refine ⟨fun x => ?_, fun x y z h1 h2 => ?_, fun x y z h1 h2 => ?_⟩
 ·unfold ltOf; rw [decide_eq_false_iff_not, Cm]; omega
 ·unfold ltOf at *; rw [decide_eq_true_iff, Cm] at *; omega
 ·unfold ltOf at *; rw [decide_eq_false_iff_not, Cm] at *; omega
theorem Vf (w : World) : St w Hp.emp [] := ⟨fun g o e => (by cases e), fun m hm => (by simp at hm), fun m hm => (by simp at hm), List.Pairwise.nil⟩
theorem Tb (blk off size : Nat) (w : World) : CmpLays Tryz.prog 43 #[] cP 2 D3 blk off size w := fun m os dk _ x y =>
 (Ds (Uj x y Hp.emp) [] _ (Vf _)).mono fun _ _ ⟨e, h⟩ => ⟨e, h.grown⟩
theorem LJ (l : List (Int × Int)) (v : Value) (m h : Hp) (O : OwnL cP 2 53 m v l) (hl : l.length ≤ 1000000) :
  FnT Tryz.prog 76 #[v, .func (.func 43) #[] #[]] h [m] (fun _ h' ms' => h = h' ∧ ∃ (l' : List (Int × Int)) (m' : Hp), ms' = [m'] ∧ OwnL cP 2 53 m' v l' ∧ l'.Perm l ∧ l'.Pairwise fun a b => ¬ D3 b a < 0) := by
 intro w hw
 obtain ⟨⟨h1, h2⟩, hF⟩ := O
 rcases h2 with ⟨rfl, h4, rfl⟩ | ⟨g, cap, spare, rfl, rfl, e1, e2, e3⟩
 ·obtain rfl : l = [] := List.length_eq_zero_iff.1 h4
  refine (AnyF.slices_SortFunc_none Tryz.laysSlF06_f76 none 0 (.func (.func 43) #[] #[]) w).mono fun x w' ⟨e, ew⟩ => ?_
  subst ew
  exact ⟨_, h, [Hp.emp], e, Ends.refl hw, rfl, [], Hp.emp, rfl, OwnL.nil EG, List.Perm.refl _, List.Pairwise.nil⟩
 ·have hg : w.heap[g]? = some (.cells (l.toArray.toList.flatMap cP ++ spare).toArray 53 (0, 0)) := hw.own _ (List.mem_singleton.2 rfl) g _ (Hp.one_self _ _)
  have hlt := (Array.getElem?_eq_some_iff.1 hg).1
  refine (AnyQ.slices_SortFunc Tryz.laysSlF06_f76 2 Tryz.isAgg53 Tryz.sizeOf53 cP EG Ss D3 TJ 43 #[] g 0 cap l.toArray w call43 (Tb _ _ _ _) (PE EG (by omega) l.toArray spare hg) hlt (by simp; omega)).mono fun x w' ⟨e, d', n, os, P, S, ew⟩ => ?_
  subst ew
  have hsz : d'.size = l.length := by have := P.1; simpa using this
  have hE := Ou (enc := cP) (n := n) (el := 53) EG (by omega) l.toArray d' (by simpa using hsz) spare os hw
  refine ⟨_, h, _, e, hE, rfl, d'.toList, _, rfl, ⟨⟨?_, .inr ⟨g, cap, spare, ?_, rfl, ?_, ?_, e3⟩⟩, EG⟩, ?_, ?_⟩
  ·exact BL EG _
  ·have : d'.toList.length = l.length := by rw [Array.length_toList, hsz]
   rw [this]
  ·rw [List.length_append, BL EG, Array.length_toList, hsz, ← BL EG l, ← List.length_append]; exact e1
  ·rw [Array.length_toList, hsz]; exact e2
  ·have h := P.2.2
   have q1 : d'.extract 0 l.toArray.size = d' := by rw [← P.1]; simp
   have q2 : l.toArray.extract 0 l.toArray.size = l.toArray := by simp
   rw [q1, q2] at h
   exact h
  ·rw [List.pairwise_iff_getElem]
   intro i j hi hj hij
   have hi' : i < d'.size := by simpa using hi
   have hj' : j < d'.size := by simpa using hj
   have h := S i j (by omega) hij (by simp; omega)
   have q1 : d'[i]! = d'[i] := by simp [hi']
   have q2 : d'[j]! = d'[j] := by simp [hj']
   rw [q1, q2] at h
   exact of_decide_eq_false h
theorem Ji (g1 gT : Nat) (m : Hp) (T : List ((Int × Int) × Int)) (bs : List Nat) (h : Hp) (hG : Seg h [] ⟨g1, 0, none⟩ [.map (some gT)]) (O : DI kP kI gT Mj m T bs) (hm : m.le h) (hT : T.length ≤ 1000000) :
  FnT Tryz.prog 41 #[.func (.func 77) #[] #[.pointer (some ⟨g1, 0, none⟩)], .func (.func 43) #[] #[]] h [] (fun r h' ms' => h.le h' ∧ ∃ (ks : List (Int × Int)) (mo : Hp), ms' = [mo] ∧ OwnL cP 2 53 mo r ks ∧ ks.Perm (T.map Prod.fst) ∧ ks.Pairwise fun a b => ¬ D3 b a < 0) := by
 refine Av func41 ntmps41 rfl rfl (fun w0 hw0 => ?_)
 simp only [A4]
 refine Ax (Qm rfl (B3 (Qm rfl (Qc call75 rfl (MC g1 gT m T bs h hG O hm hT) (fun x h2 ms2 l2 hF => ?_)))))
 obtain ⟨l2', vis, mo, rfl, hp, hO⟩ := hF
 have hlen : (vis.map (Fu T)).length ≤ 1000000 := by rw [List.length_map, hp.length_eq, List.length_range]; exact hT
 refine Qm rfl (B3 (Qm rfl (Qm rfl (Bs (pre := [mo]) rfl call76 rfl (LJ (vis.map (Fu T)) x mo h2 hO hlen) rfl rfl rfl rfl (fun y h3 ms3 l3 hF => ?_)))))
 obtain ⟨rfl, ks, mo2, rfl, hO2, hp2, hs⟩ := hF
 have ov : x.oneCell' = true := (hO2.rd (h := h) (ms := [mo2]) (List.Mem.head _)).rd.one
 refine B3 (Qm rfl (Qm rfl (Aq (Ao ?_))))
 exact Am rfl rfl (⟨l2, ks, mo2, rfl, hO2, hp2.trans (by rw [← OE]; exact hp.map _), hs⟩)
end Go.Proofs.YtdnelknieikbaaaGreat
namespace Go.Proofs.YtdnelknieikbaaaGreat
open Go.Proofs.Tryz
open Go.Eng Go.RowKit Go.Lin Go.Sort Go.Srt
theorem Hn (Z : Zz) (vd va : Value) (h : Hp) (hO : Z.Ok) (hR : RdZ h vd va Z) :
  FnT Tryz.prog 17 #[.agg #[.int .i64 Z.p, vd, va]] h [] (fun r h' ms' => h.le h' ∧ ∃ (bl : List Iv) (m : Hp) (l : List StE), ms' = [m] ∧ OwnL GO 3 37 m r bl ∧ l.length ≤ 20400 ∧ Si Z l ∧ DE (fun a => (l.map StE.key).count a) bl) := by
 have o1 := hR.d.rd.one
 have o2 := hR.a.rd.one
 refine Av func17 ntmps17 rfl rfl (fun w0 hw0 => ?_)
 simp only [A4]
 refine Ax ?_
 refine AS [_, _, _] rfl rfl (by rfl) rfl rfl rfl (fun g1 => ?_)
 refine Qm rfl (Aq (AL fun h1 l1 hG1 => ?_))
 have hR := hR.up l1
 refine Bv (fun s hh ms' => ∃ (l : List StE) (gT : Nat) (m : Hp) (T : List ((Int × Int) × Int)) (bs : List Nat), s = [(3, .map (some gT))] ∧ h1.le hh ∧ ms' = [m] ∧ Si Z l ∧ l.length ≤ 20400 ∧ DI kP kI gT Mj m T bs ∧ TC T (l.map StE.key)) ?_ (fun s h ms hI => ?_)
 ·refine Ad (Qx (oG rfl underlying30 Bz (Seg.any hG1)) rfl ?_)
  by_cases hRt : Z.Rt
  ·refine Qc call30 rfl (strands_ok Z vd va h1 hO hRt hR) (fun r h2 ms2 l2 hF => ?_)
   obtain ⟨l2', N, S, e, L, m0, mB, rfl, hN, hO0, B, hp, hV, hbd, hsrt⟩ := hF
   have he : ∀ k, k < N → (e k).fr = (S k).fr ∧ (e k).to = (S k).to := fun k hk => by
    obtain ⟨x, _, h1, h2, _⟩ := B.all k hk
    exact ⟨h1, h2⟩
   have hlen := hp.length_eq
   rw [List.length_range] at hlen
   refine AH hO0 fun h3 l3 hRr => ?_
   have hRd : Rd h3 [] r 3 N ((L.map e).flatMap cS) := by have := hRr.rd; rwa [List.length_map, hlen] at this
   have orr := hRr.rd.one
   refine Qc call40 rfl (K1 r N _ h3 hRd) (fun q h4 ms4 l4 hF => ?_)
   obtain ⟨rfl, gv, rfl, rfl⟩ := hF
   refine BD fun h5 l5 hGv => ?_
   refine Qc call39 rfl (JG gv N r (L.map e) h5 hGv (hRr.up l5) (by rw [List.length_map, hlen]) (by omega) (U3 hV hRt hp he)) (fun c h6 ms6 l6 hF => ?_)
   obtain ⟨l6', gT, m, T, bs, rfl, rfl, O, C⟩ := hF
   refine Qm rfl (Ak (Db 1 rfl (A5 ?_)))
   exact AA _ ⟨L.map e, gT, m, T, bs, rfl, Hp.le_trans l2 (Hp.le_trans l3 (Hp.le_trans l5 l6)), rfl, ⟨fun h => absurd hRt h, fun _ => ⟨N, S, e, L, rfl, hp, hV, he⟩⟩, by rw [List.length_map, hlen]; exact hN, O, C⟩ Qs
  ·refine Qc call30 rfl (strands_not Z vd va h1 hO hRt hR) (fun r h2 ms2 l2 hF => ?_)
   obtain ⟨rfl, rfl⟩ := hF
   have hRr : RdL cS 3 h2 [] (.slice none 0 0) [] := (OwnL.nil ML (el := 64)).rdh (fun g o e => by cases e)
   refine Qc call40 rfl (K1 (.slice none 0 0) 0 _ h2 hRr.rd) (fun q h4 ms4 l4 hF => ?_)
   obtain ⟨rfl, gv, rfl, rfl⟩ := hF
   refine BD fun h5 l5 hGv => ?_
   refine Qc call39 rfl (JG gv 0 (.slice none 0 0) [] h5 hGv (hRr.up l5) rfl (by omega) (fun s hs => by simp at hs)) (fun c h6 ms6 l6 hF => ?_)
   obtain ⟨l6', gT, m, T, bs, rfl, rfl, O, C⟩ := hF
   refine Qm rfl (Ak ?_)
   exact AA _ ⟨[], gT, m, T, bs, rfl, Hp.le_trans l2 (Hp.le_trans l5 l6), rfl, ⟨fun _ => rfl, fun h => absurd h hRt⟩, by simp, O, C⟩ Qs
 ·obtain ⟨l, gT, m, T, bs, rfl, l2, rfl, hSp, hl, O, C⟩ := hI
  obtain ⟨hc1, hc2⟩ := UC C O.keys
  rw [List.length_map] at hc2
  refine Ax (Qm rfl (Aq (CV fun h3 l3 lm _ _ => (Ac (Ax (Qm rfl (Qc call42 rfl (Vp (some gT) h3) (fun q h4 ms4 l4 hF => ?_))))))))
  obtain ⟨rfl, gk, rfl, rfl⟩ := hF
  refine BD fun h5 l5 hGk => ?_
  have lm := Hp.le_trans lm l5
  refine Qc call41 rfl (Ji gk gT m T bs h5 hGk O lm (by omega)) (fun ks0 h6 ms6 l6 hF => ?_)
  obtain ⟨l6', ks, mk, rfl, hOk, hpk, hsk⟩ := hF
  have hklen : ks.length = T.length := by rw [hpk.length_eq, List.length_map]
  have hRdk : ∀ h' (ms : List Hp), mk ∈ ms → Rd h' ms ks0 2 ks.length (ks.flatMap cP) := fun h' ms hm => (hOk.rd (h := h') hm).rd
  refine Qx (AJ (hRdk _ _ (List.Mem.head _)) rfl underlying81 rfl) rfl (Qm rfl (Aq (Ag (Bg hOk fun h7 l7 hRk => ?_))))
  have lm := Hp.le_trans lm (Hp.le_trans l6 l7)
  refine BX ?_
  refine AD (fun n s hh ms' => ∃ (i : Nat) (vo : Value) (mo : Hp), n = ks.length - i ∧ s = [(3, .map (some gT)), (4, vo), (13, ks0), (14, .int .i64 ks.length), (15, .int .i64 i)] ∧ h7.le hh ∧ ms' = [mo] ∧ i ≤ ks.length ∧ OwnL GO 3 37 mo vo ((ks.take i).map fun a => ⟨a.1, a.2, (((l.map StE.key).count a : Nat) : Int)⟩))
   (ks.length - 0) _ ⟨0, _, _, rfl, rfl, Hp.le_refl _, rfl, by omega, OwnL.nil FS⟩ Qs ?_
  rintro n s hh ms' ⟨i, vo, mo, rfl, rfl, lh, rfl, hi, hO⟩
  have hRk := hRk.up lh
  have lm := Hp.le_trans lm lh
  refine Ax (Qm rfl (Aq (Ac ?_)))
  refine AF rfl (fun hlt => ?_) (fun hlt => ?_)
  ·have hil : i < ks.length := Bx hlt
   refine Ai (Ab ?_)
   refine Bv (fun s hh2 ms' => ∃ (vo : Value) (mo : Hp), s = [(3, .map (some gT)), (4, vo), (13, ks0), (14, .int .i64 ks.length), (15, .int .i64 i)] ∧ hh.le hh2 ∧ ms' = [mo] ∧ OwnL GO 3 37 mo vo ((ks.take (i + 1)).map fun a => ⟨a.1, a.2, (((l.map StE.key).count a : Nat) : Int)⟩)) ?_ (fun s h ms hI => ?_)
   ·have hseg : ∀ ms, Seg hh ms ((Bl ks0).add (i * 2)) (cP ks[i]) := fun ms => (hRk.any (ms := ms)).seg hil
    have hmem : ks[i] ∈ T.map Prod.fst := hpk.mem_iff.1 (List.getElem_mem hil)
    have hpo : Mj ks[i] := by
     obtain ⟨p, hp, e⟩ := List.mem_map.1 hmem
     rw [← e]; exact O.ok p hp
    have hll : ((ks.take i).map fun a => (⟨a.1, a.2, (((l.map StE.key).count a : Nat) : Int)⟩ : Iv)).length ≤ 100000 := by rw [List.length_map, List.length_take]; omega
    refine Ag (Ax (Qx (Ah _ hRk.rd.any rfl underlying81 Fx rfl rfl rfl (by omega)) rfl (Qx (oG rfl underlying53 Fx (hseg _)) rfl (BZ [.int .i64 0, .int .i64 0] rfl Fx rfl rfl (fun g6 => ?_)))))
    refine Sa 0 [_, _] Fx rfl (by simp [Value.oneCell']) ?_
    refine Aq (AL fun h8 l8 hG6 => ?_)
    have hA6 := Seg.all hG6
    have lm := Hp.le_trans lm l8
    have hcnt := C.cnt ks[i]
    refine AW (n := 12) (bs := [true, true, true, true, true, true, true, true, true, false, false, false]) [true, true, true, true, true, true, true, true, true] Cd (by kernel_rfl) (by kernel_rfl) rfl rfl (Qq rfl (Qp rfl (C8 0 rfl underlying53 A8 rfl rfl rfl (by omega)) (QL rfl underlying3 (hA6 0 _ rfl _) (Qp rfl (C8 1 rfl underlying53 A8 rfl rfl rfl (by omega)) (QL rfl underlying3 (hA6 1 _ rfl _) (Qq rfl (Qp rfl (oG rfl underlying53 Fx (Seg.any hG6)) (Qp rfl (M4 (V := kI) (z := (0 : Int)) ks[i] Ee O lm rfl underlying51 Hr rfl rfl hpo) ?_))))))))
    refine Qp rfl (AT US [.int .i64 0, .int .i64 0, .int .i64 0] [(0, _), (1, _), (2, _)] [_, _, _] rfl DV rfl rfl (by repeat (first | exact trivial | refine ⟨⟨rfl, rfl, rfl⟩, ?_⟩)) rfl) ?_
    unfold CD
    simp only [List.cons_append, List.nil_append]
    refine Qo 9 rfl ?_
    refine AB [_, _, _] rfl underlying33 DV rfl (by rfl) rfl rfl (by omega) rfl rfl rfl (fun g28 => ?_)
    refine Qw (Qo 10 rfl ?_)
    refine Bm 1 hO (RdL.one FS (x := ⟨ks[i].1, ks[i].2, (Dg T ks[i]).getD 0⟩) (List.Mem.head _) rfl) rfl underlying33 DV rfl (by omega) rfl rfl rfl Kk (by simp only [List.length_singleton]; omega) (by simp only [List.length_singleton]; omega) rfl rfl rfl (fun vo2 mo2 hO2 => ?_)
    refine Qw (Qo 11 rfl (Qm rfl (Qw (Qe (Aj (A5 ?_))))))
    exact AA _ ⟨vo2, mo2, rfl, l8, rfl, by rw [hcnt] at hO2; rw [List.take_succ_eq_append_getElem hil, List.map_append]; exact hO2⟩ Qs
   ·obtain ⟨vo2, mo2, rfl, l8, rfl, hO2⟩ := hI
    refine Ad (Qx (oA rfl) rfl (Qm rfl (Ak ?_)))
    exact Al (ks.length - (i + 1)) _ (by omega) ⟨i + 1, vo2, mo2, rfl, rfl, Hp.le_trans lh l8, rfl, by omega, hO2⟩ Qs
  ·obtain rfl : i = ks.length := by omega
   rw [List.take_length] at hO
   have ov : vo.oneCell' = true := (hO.rd (h := h) (ms := [mo]) (List.Mem.head _)).rd.one
   refine Aw (Aa (Aa (Af (Ab (Ax (Qm rfl (Qm rfl (Aq (Ao ?_)))))))))
   have hnd : ks.Nodup := hpk.nodup_iff.2 O.keys
   have hstr : ks.Pairwise fun a b => D3 a b < 0 := (hsk.and hnd).imp fun {a b} ⟨h1, h2⟩ => by
    rw [Cm] at h1 ⊢
    refine Classical.byContradiction fun h3 => h2 (Prod.ext ?_ ?_) <;> omega
   exact Am rfl rfl (⟨Hp.le_trans l1 (Hp.le_trans l2 (Hp.le_trans l3 (Hp.le_trans l5 (Hp.le_trans l6 (Hp.le_trans l7 lh))))), _, mo, l, rfl, hO, hl, hSp, ks, rfl, hstr, fun a => by rw [hpk.mem_iff, hc1]⟩)
end Go.Proofs.YtdnelknieikbaaaGreat
namespace Go.Proofs.YtdnelknieikbaaaGreat
open Go.Proofs.Tryz
open Go.Eng Go.RowKit Go.Lin Go.Sort Go.Srt
theorem K6 {P : Program} {d : Nat} (hu : P.underlying 3 = some (.int .i64)) (hp : P.plainKey 3 = true) (X Y : Array Value) (x y : Nat → Int) (w : World) : ∀ (fs : List Field) (os : List Nat), fs.map (fun f => (decide (f.name ≠ "_"), f.type, f.offset)) = os.map (fun o => (true, 3, o)) → (∀ o ∈ os, X[o]? = some (.int .i64 (x o)) ∧ Y[o]? = some (.int .i64 (y o))) → (Op.eqFields (d + 1) X Y fs).run P w = .ok (os.all fun o => x o == y o) w
 | [], [], _, _ => by simp [Op.eqFields]
 | [], o :: os, h, _ => by simp at h
 | f :: fs, [], h, _ => by simp at h
 | f :: fs, o :: os, h, hc => by
  simp only [List.map_cons, List.cons.injEq, Prod.mk.injEq] at h
  obtain ⟨⟨h1, h2, h3⟩, h4⟩ := h
  have ih := K6 (d := d) hu hp X Y x y w fs os h4 fun a ha => hc a (List.mem_cons_of_mem _ ha)
  obtain ⟨c1, c2⟩ := hc o (List.Mem.head _)
  unfold Op.eqFields
  rw [if_pos (of_decide_eq_true h1), h2, h3]
  simp only [Sem.run_bind, run_part_plain w hp c1, run_part_plain w hp c2, Result.andThen_ok, run_equalIn_int w d 3 .i64 .i64 _ _ hu]
  cases e : x o == y o
  ·simp [e]
  ·simp [e, ih]
theorem UG : (Tryz.prog.fieldsOf 37).toList.map (fun f => (decide (f.name ≠ "_"), f.type, f.offset)) = [0, 1, 2].map (fun o => (true, 3, o)) := by kernel_rfl
theorem WW : Tryz.prog.plainKey 3 = true := by kernel_rfl
theorem Wt : Tryz.prog.eqGuardType Tryz.prog.depth 37 = false := by kernel_rfl
theorem Wc : Tryz.prog.underlying 37 = some (.struct (Tryz.prog.fieldsOf 37)) := by kernel_rfl
theorem VU : Tryz.prog.stoodInHeld 37 = false := by kernel_rfl
theorem Ty {o : Oper} {s : Ay} {h : Hp} {ms : List Hp} {x y : Operand} {u : TypeId} (a b : Iv) (ho : o.op = .binOp .neq 37 x y u) (hx : ev s x = some (.agg (GO a).toArray)) (hy : ev s y = some (.agg (GO b).toArray)) : OX Tryz.prog o s h ms (.bool (decide (a ≠ b))) :=
 BI fun ρ w hρ _ => by
  have h1 : (Op.equalIn 10000 37 (.agg (GO a).toArray) (.agg (GO b).toArray)).run Tryz.prog w = .ok (decide (a = b)) w := by
   have h2 : (Op.eqFields (9998 + 1) (GO a).toArray (GO b).toArray (Tryz.prog.fieldsOf 37).toList).run Tryz.prog w = _ := K6 (d := 9998) underlying3 WW (GO a).toArray (GO b).toArray (fun o => match o with | 0 => a.fr | 1 => a.to | _ => a.n) (fun o => match o with | 0 => b.fr | 1 => b.to | _ => b.n) w _ _ UG fun o ho => by
    simp only [List.mem_cons, List.not_mem_nil, or_false] at ho
    rcases ho with rfl | rfl | rfl <;> exact ⟨rfl, rfl⟩
   rw [run_equalIn_agg w 9999 37 _ _ Wc VU, h2]
   congr 1
   obtain ⟨a1, a2, a3⟩ := a
   obtain ⟨b1, b2, b3⟩ := b
   rw [Bool.eq_iff_iff, decide_eq_true_iff, Iv.mk.injEq]
   show ((a1 == b1) && ((a2 == b2) && ((a3 == b3) && true))) = true ↔ _
   simp only [Bool.and_true, Bool.and_eq_true, beq_iff_eq]
  have e : (!decide (a = b)) = decide (a ≠ b) := by simp
  simp only [execOp, ho, hρ _ _ hx, hρ _ _ hy]
  simp only [Sem.run_bind, run_eqGuard_agg w _ _ _ _ _ _ Wt, run_neq_struct, h1, e, Result.andThen_ok, Sem.run_pure]
theorem Tc (a b : List Iv) (va vb : Value) (h : Hp) (hA : RdL GO 3 h [] va a) (hB : RdL GO 3 h [] vb b) (ms : List Hp) : Dq Tryz.prog 16 #[va, vb] h ms (.bool (decide (a = b))) := by
 refine Ds ?_ ms
 have la := hA.len_le
 have lb := hB.len_le
 refine Av func16 ntmps16 rfl rfl (fun w0 hw0 => ?_)
 simp only [A4]
 refine Ax (Qm rfl (Aq (Ac (Ax (Qm rfl (Qx (AJ hA.rd.any rfl underlying33 rfl) rfl (Qm rfl (Qx (AJ hB.rd.any rfl underlying33 rfl) rfl (Qm rfl (Aq ?_))))))))))
 refine AF rfl (fun hne => ?_) (fun hne => ?_)
 ·refine Ac (Ad (Qm rfl (Aq (Ao (Ae ?_)))))
  exact Am rfl rfl (by rw [decide_eq_false]; intro e; rw [e] at hne; exact hne rfl)
 ·have hl : a.length = b.length := by omega
  refine Ai (Ab (Ac (Ax (Qm rfl (Aq (Ag ?_))))))
  refine AD (fun q s h' ms' => ∃ (k : Nat), q = a.length - k ∧ s = [(0, va), (1, vb), (5, .int .i64 k)] ∧ h = h' ∧ ms' = [] ∧ k ≤ a.length ∧ a.take k = b.take k)
   (a.length - 0) _ ⟨0, rfl, rfl, rfl, rfl, by omega, rfl⟩ Qs ?_
  rintro q s h' ms' ⟨k, rfl, rfl, rfl, rfl, hk, he⟩
  refine Ac (Ax (Qm rfl (Qm rfl (Qx (AJ hA.rd.any rfl underlying33 rfl) rfl (Qm rfl (Aq ?_))))))
  refine AF rfl (fun hlt => ?_) (fun hlt => ?_)
  ·have hka : k < a.length := Bx hlt
   have hkb : k < b.length := by omega
   have ca : ∀ ms, Seg h ms ((Bl va).add (k * 3)) (GO a[k]) := fun ms => (hA.any (ms := ms)).seg hka
   have cb : ∀ ms, Seg h ms ((Bl vb).add (k * 3)) (GO b[k]) := fun ms => (hB.any (ms := ms)).seg hkb
   refine Ai (Ab (Ac (Ag (Ac (BB 8 Cd (by kernel_rfl) rfl (Wm rfl (Wm rfl (AV (Ah (k) hA.rd.any rfl underlying33 DV rfl rfl (by omega) (by omega)) rfl rfl (AV (oG rfl underlying37 DV (ca _)) rfl rfl (Wm rfl (Wm rfl (AV (Ah (k) hB.rd.any rfl underlying33 DV rfl rfl (by omega) (by omega)) rfl rfl (AV (oG rfl underlying37 DV (cb _)) rfl rfl (BC (Qx (Ty a[k] b[k] rfl rfl rfl) rfl (Aq ?_))))))))))))))))
   refine AF rfl (fun hne => ?_) (fun hne => ?_)
   ·refine Ac (Ad (Qm rfl (Aq (Ao (Ap (Ae (Ae (Ap (Ae ?_)))))))))
    exact Am rfl rfl (by rw [decide_eq_false]; rintro rfl; exact hne rfl)
   ·refine Ai (Aj (Ab (Ad (Qm rfl (Qx (oA rfl) rfl (Qm rfl (Ak ?_)))))))
    refine Al (a.length - (k + 1)) _ (by omega) ⟨k + 1, rfl, rfl, rfl, rfl, by omega, ?_⟩ Qs
    rw [List.take_add_one, List.take_add_one, he, List.getElem?_eq_getElem hka, List.getElem?_eq_getElem hkb, Decidable.not_not.1 hne]
  ·obtain rfl : k = a.length := by omega
   refine Aw (Aa (Aa (Af (Ab (Ax (Qm rfl (Aq (Ao ?_))))))))
   exact Am rfl rfl (by rw [List.take_length, hl, List.take_length] at he; rw [decide_eq_true he])
end Go.Proofs.YtdnelknieikbaaaGreat
set_option maxHeartbeats 2000000
namespace Go.Proofs.YtdnelknieikbaaaGreat
open Go.Proofs.Tryz
open Go.Eng Go.RowKit Go.Lin Go.Sort Go.Srt
def GQ (l : List Int) (m : Nat) : List Iv := (List.range m).map fun i => ⟨l.getD (2 * i) 0, l.getD (2 * i + 1) 0, 1⟩
theorem Sy {a b : List Iv} {va vb : Value} {h : Hp} (hA : RdL GO 3 h [] va a) (hB : RdL GO 3 h [] vb b) (e : a = b) (ms : List Hp) : Dq Tryz.prog 16 #[va, vb] h ms (.bool true) := by
 have := Tc a b va vb h hA hB ms
 rwa [decide_eq_true e] at this
theorem IV {Z : Zz} {vd va vl : Value} {l : List SV} {h : Hp} (hR : RdZ h vd va Z) (hL : RdSs h vl l) (hN : l.length ≤ 1000000) (hC : Vo Z l) (ms : List Hp) : Dq Tryz.prog 31 #[.agg #[.int .i64 Z.p, vd, va], vl] h ms (.bool true) := by
 have := Ds (OF Z vd va l vl h hC.1.ok hR hL hN) ms
 rwa [Jf hC] at this
theorem VX (Z : Zz) (vd va : Value) (l : List Int) (vl : Value) (m : Nat) (D : Dc) (h : Hp) (hRt : Z.Rt) (hR : RdZ h vd va Z) (hL : RdL cI 1 h [] vl l) (hl : l.length = 2 * m) (hm : m ≤ 100) (V : Valid Z.zg D) (hB : DE D.ct (GQ l m)) : FnT Tryz.prog 36 #[.agg #[.int .i64 Z.p, vd, va], vl] h [] (fun r h' ms' => r = .bool true ∧ ms' = []) := by
 have o1 := hR.d.rd.one
 have o2 := hR.a.rd.one
 have hO := hRt.ok
 refine Av func36 ntmps36 rfl rfl (fun w0 hw0 => ?_)
 simp only [A4]
 refine Ax ?_
 refine AS [_, _, _] rfl rfl (by rfl) rfl rfl rfl (fun g2 => ?_)
 refine Qm rfl (Aq (AL fun h1 l1 hS => ?_))
 have hR := hR.up l1
 have hL := hL.up l1
 refine Ax (Qm rfl (Aq (Ac (Ax (Qm rfl (Aq (Ag (BX ?_))))))))
 refine AD (fun q sl hh ms' => ∃ (i : Nat) (vo : Value) (mo : Hp), q = m - i ∧ sl = [(1, vl), (2, .pointer (some ⟨g2, 0, none⟩)), (5, vo), (6, .int .i64 ((2 * i + 1 : Nat) : Int))] ∧ h1 = hh ∧ ms' = [mo] ∧ i ≤ m ∧ OwnL GO 3 37 mo vo (GQ l i))
  (m - 0) _ ⟨0, _, _, rfl, rfl, rfl, rfl, by omega, OwnL.nil FS⟩ Qs ?_
 rintro q sl hh ms' ⟨i, vo, mo, rfl, rfl, rfl, rfl, hi, hOw⟩
 refine Ac (Ax (Qm rfl (Qm rfl (Qx (AJ hL.rd.any rfl underlying24 rfl) rfl (Qm rfl (Aq ?_))))))
 refine AF rfl (fun hlt => ?_) (fun hlt => ?_)
 ·have him : i < m := by omega
  have h0 : 2 * i < l.length := by omega
  have hk1 : 2 * i + 1 < l.length := by omega
  have hwl : (GQ l i).length ≤ 100 := by simp [GQ]; omega
  have hw : GQ l (i + 1) = GQ l i ++ [⟨l[2 * i], l[2 * i + 1], 1⟩] := by
   unfold GQ
   rw [List.range_succ, List.map_append, List.map_singleton, Gw h0, Gw hk1]
  refine Ai (Ab ?_)
  refine Bv (fun sl hh ms' => ∃ (vo : Value) (mo : Hp), sl = [(1, vl), (2, .pointer (some ⟨g2, 0, none⟩)), (5, vo), (6, .int .i64 ((2 * i + 1 : Nat) : Int))] ∧ h1 = hh ∧ ms' = [mo] ∧ OwnL GO 3 37 mo vo (GQ l (i + 1))) ?_ (fun s h ms hI => ?_)
  ·refine Ag (AW (n := 14) (bs := [true, true, true, true, true, true, true, true, true, true, true, false, false, false]) [true, true, true, true, true, true, true, true, true, true, true] Cd (by kernel_rfl) (by kernel_rfl) rfl rfl (Qq rfl (Qq rfl (Qq rfl (Qp rfl (oS rfl) (Qp rfl (Ah (2 * i) hL.rd.any rfl underlying24 A8 rfl rfl (by omega) (by omega)) (QL rfl underlying3 (hL.any.cell0 h0 rfl) (Qq rfl (Qq rfl (Qp rfl (Ah (2 * i + 1) hL.rd.any rfl underlying24 A8 rfl rfl (by omega) (by omega)) (QL rfl underlying3 (hL.any.cell0 hk1 rfl) ?_)))))))))))
   refine Qp rfl (AT US [.int .i64 0, .int .i64 0, .int .i64 0] [(0, _), (1, _), (2, _)] [_, _, _] rfl DV rfl rfl (by repeat (first | exact trivial | refine ⟨⟨rfl, rfl, rfl⟩, ?_⟩)) rfl) ?_
   unfold CD
   simp only [List.cons_append, List.nil_append]
   refine Qo 11 rfl ?_
   refine AB [_, _, _] rfl underlying33 DV rfl (by rfl) rfl rfl (by omega) rfl rfl rfl (fun g24 => ?_)
   refine Qw (Qo 12 rfl ?_)
   refine Bm 1 hOw (RdL.one FS (x := ⟨l[2 * i], l[2 * i + 1], 1⟩) (List.Mem.head _) rfl) rfl underlying33 DV rfl (by omega) rfl rfl rfl Kk (by simp only [List.length_singleton]; omega) (by simp only [List.length_singleton]; omega) rfl rfl rfl (fun vo2 mo2 hO2 => ?_)
   refine Qw (Qo 13 rfl (Qm rfl (Qw (Qe (Aj (A5 ?_))))))
   exact AA _ ⟨vo2, mo2, rfl, rfl, rfl, by rw [hw]; exact hO2⟩ Qs
  ·obtain ⟨vo2, mo2, rfl, rfl, rfl, hO2⟩ := hI
   refine Ad (Qm rfl (Qx (oA rfl) rfl (Qm rfl (Ak ?_))))
   exact Al (m - (i + 1)) _ (by omega) ⟨i + 1, vo2, mo2, rfl, rfl, rfl, rfl, by omega, hO2⟩ Qs
 ·obtain rfl : i = m := by omega
  have ovo : vo.oneCell' = true := (hOw.rd (h := h) (ms := [mo]) (List.Mem.head _)).rd.one
  refine Aw (Aa (Aa (Af (Ab (Bg hOw fun h3 l3 hRw => ?_)))))
  have hR := hR.up l3
  have hS := hS.le l3
  refine Ac (AW (n := 11) (bs := [true, false, true, false, false, false, false, false, false, false, false]) [true, false, true] Cd (by kernel_rfl) (by kernel_rfl) rfl rfl (Qp rfl (oG rfl underlying30 Bz (Seg.any hS)) (Qq rfl ?_)))
  unfold CD
  simp only [List.cons_append, List.nil_append]
  refine Qo 1 rfl (Qc call17 rfl (Hn Z vd va h3 hO hR) (fun rb h4 ms4 l4 hF => ?_))
  obtain ⟨l4', bl, mb, lst, rfl, hOb, hlb, hSp, hBs⟩ := hF
  refine AH hOb fun h5 l5 hRb => ?_
  have l35 := Hp.le_trans l4 l5
  have hRw5 := hRw.up l35
  have hR5 := hR.up l35
  refine Qa (Qo 3 rfl (Qx (AG rfl call16 rfl (Sy hRb hRw5 (JU hRt V (GH hSp hBs) hB) _)) rfl (Qa (An 4 30 (by kernel_rfl) rfl (by assumption) rfl (As rfl rfl) (A2 [5, 6] (by kernel_rfl) rfl ?_)))))
  refine Az rfl ?_ ?_
  ·refine Qg (oG rfl underlying30 Bz (Seg.any (hS.le l35))) rfl (Qa (Qo 6 rfl (Qg (oG rfl underlying30 Bz (Seg.any (hS.le l35))) rfl (Qa (Qo 7 rfl (Ce rfl rfl rfl rfl (Qc call30 rfl (strands_ok Z vd va h5 hO hRt hR5) (fun rs h6 ms6 l6 hF => ?_))))))))
   obtain ⟨l6', N, S, e, L, ml, mB, rfl, hN, hOl, hBg, hp, hV2, hbd, _⟩ := hF
   refine A7 fun h7 l7 k7 => (A7 fun h8 l8 k8 => ?_)
   have l58 := Hp.le_trans l6 (Hp.le_trans l7 l8)
   have l38 := Hp.le_trans l35 l58
   have hR8 := hR5.up l58
   obtain ⟨ls, hle, hRs, hCk⟩ := strands_sv hRt hOl (Hp.le_trans k7 l8) hBg k8 hp hV2 hbd
   have hlen : ls.length ≤ 1000000 := by (have := congrArg List.length hle; have := hp.length_eq; simp at *; omega)
   refine Qa (Qo 8 rfl (Qg (AG rfl call31 rfl (IV hR8 hRs hlen hCk _)) rfl (Qa (Qo 9 rfl (Qm rfl (Qa (Qo 10 rfl (Qm rfl (Qa (Qe (Ab (Ao ?_))))))))))))
   exact Am rfl rfl ⟨rfl, rfl⟩
  refine Az rfl ?_ ?_
  ·refine Qg (oG rfl underlying30 Bz (Seg.any (hS.le l35))) rfl (Qa (A2 [5, 7] (by kernel_rfl) rfl ?_))
   refine Az rfl ?_ ?_
   ·refine Qg (oG rfl underlying30 Bz (Seg.any (hS.le l35))) rfl (Qa (Qo 7 rfl (Ce rfl rfl rfl rfl (Qc call30 rfl (strands_ok Z vd va h5 hO hRt hR5) (fun rs h6 ms6 l6 hF => ?_)))))
    obtain ⟨l6', N, S, e, L, ml, mB, rfl, hN, hOl, hBg, hp, hV2, hbd, _⟩ := hF
    refine A7 fun h7 l7 k7 => (A7 fun h8 l8 k8 => ?_)
    have l58 := Hp.le_trans l6 (Hp.le_trans l7 l8)
    have l38 := Hp.le_trans l35 l58
    have hR8 := hR5.up l58
    obtain ⟨ls, hle, hRs, hCk⟩ := strands_sv hRt hOl (Hp.le_trans k7 l8) hBg k8 hp hV2 hbd
    have hlen : ls.length ≤ 1000000 := by (have := congrArg List.length hle; have := hp.length_eq; simp at *; omega)
    refine Qa (Qo 8 rfl (Qg (AG rfl call31 rfl (IV hR8 hRs hlen hCk _)) rfl (Qa (Qo 9 rfl (Qm rfl (Qa (Qo 10 rfl (Qm rfl (Qa (Qe (Ab (Ao ?_))))))))))))
    exact Am rfl rfl ⟨rfl, rfl⟩
   refine Az rfl ?_ ?_
   ·refine Ce rfl rfl rfl rfl (Qc call30 rfl (strands_ok Z vd va h5 hO hRt hR5) (fun rs h6 ms6 l6 hF => ?_))
    obtain ⟨l6', N, S, e, L, ml, mB, rfl, hN, hOl, hBg, hp, hV2, hbd, _⟩ := hF
    refine A7 fun h7 l7 k7 => (A7 fun h8 l8 k8 => ?_)
    have l58 := Hp.le_trans l6 (Hp.le_trans l7 l8)
    have l38 := Hp.le_trans l35 l58
    have hR8 := hR5.up l58
    obtain ⟨ls, hle, hRs, hCk⟩ := strands_sv hRt hOl (Hp.le_trans k7 l8) hBg k8 hp hV2 hbd
    have hlen : ls.length ≤ 1000000 := by (have := congrArg List.length hle; have := hp.length_eq; simp at *; omega)
    refine Qa (Qo 5 rfl (Qg (oG rfl underlying30 Bz (Seg.any (hS.le l38))) rfl (Qa (Qo 8 rfl (Qg (AG rfl call31 rfl (IV hR8 hRs hlen hCk _)) rfl (Qa (Qo 9 rfl (Qm rfl (Qa (Qo 10 rfl (Qm rfl (Qa (Qe (Ab (Ao ?_)))))))))))))))
    exact Am rfl rfl ⟨rfl, rfl⟩
   exact A3
  exact A3
end Go.Proofs.YtdnelknieikbaaaGreat
namespace Go.Proofs.YtdnelknieikbaaaGreat
open Go.Proofs.Tryz
open Go.Eng Go.RowKit Go.Lin Go.Sort Go.Srt
theorem Mh {Z : Zz} {vd va : Value} {l : List Int} {vl : Value} (m : Nat) {ks : List (Int × Int)} {h : Hp} (E : Ex Z ks) (hR : RdZ h vd va Z) (hL : RdL cI 1 h [] vl l) (hl : l.length = 2 * m) (hm : m ≤ 100) (hw : ks.map (fun a => (⟨a.1, a.2, 1⟩ : Iv)) = GQ l m) (ms : List Hp) : Dq Tryz.prog 36 #[.agg #[.int .i64 Z.p, vd, va], vl] h ms (.bool true) := by
 obtain ⟨hRt, D, V, hB⟩ := E
 rw [hw] at hB
 exact Ds ((VX Z vd va l vl m D h hRt hR hL hl hm V hB).mono fun r h' ms' e => e.1) ms
theorem Om (h : Hp) : FnT Tryz.prog 14 #[] h [] (fun r h' ms' => r = .bool true) := by
 refine Av func14 ntmps14 rfl rfl (fun w0 hw0 => ?_)
 simp only [A4]
 refine Ax (Qm rfl (B3 ?_))
 refine AZ [(0, _), (1, _)] [.int .i64 0, .int .i64 0] [_, _] rfl underlying24 A8 rfl (by omega) (by kernel_rfl) (by repeat (first | exact trivial | refine ⟨⟨by rfl, rfl, rfl⟩, ?_⟩)) rfl rfl rfl rfl (fun g1 => ?_)
 refine AH (OwnL.blk (g := g1) (el := 3) (F := cI) (l := [1, 1]) 2 Br rfl (by omega)) fun h1 l1 hL1 => (Qc call37 rfl (GD [1, 1] _ h1 hL1 (by decide) (by decide)) (fun r2 h2 ms2 l2 hF => ?_))
 obtain ⟨l2', rfl, Z, vd, va, rfl, hRZ, e1, e2, e3⟩ := hF
 refine AZ [(0, _), (1, _)] [.int .i64 0, .int .i64 0] [_, _] rfl underlying24 A8 rfl (by omega) (by kernel_rfl) (by repeat (first | exact trivial | refine ⟨⟨by rfl, rfl, rfl⟩, ?_⟩)) rfl rfl rfl rfl (fun g3 => ?_)
 refine AH (OwnL.blk (g := g3) (el := 3) (F := cI) (l := [0, 2]) (2 * 1) Br rfl (by omega)) fun h3 l3 hL3 => (Qx (AG rfl call36 rfl (Mh 1 (WV e1 e2 e3) (hRZ.up l3) hL3 rfl (by omega) rfl _)) rfl (Qm rfl (Ce rfl rfl rfl rfl ?_)))
 refine AZ [(0, _), (1, _)] [.int .i64 0, .int .i64 0] [_, _] rfl underlying24 A8 rfl (by omega) (by kernel_rfl) (by repeat (first | exact trivial | refine ⟨⟨by rfl, rfl, rfl⟩, ?_⟩)) rfl rfl rfl rfl (fun g6 => ?_)
 refine AH (OwnL.blk (g := g6) (el := 3) (F := cI) (l := [1, 9]) 2 Br rfl (by omega)) fun h1 l1 hL1 => (Ce rfl rfl rfl rfl (Qc call37 rfl (GD [1, 9] _ h1 hL1 (by decide) (by decide)) (fun r2 h2 ms2 l2 hF => ?_)))
 obtain ⟨l2', rfl, Z, vd, va, rfl, hRZ, e1, e2, e3⟩ := hF
 refine Ce rfl rfl rfl rfl ?_
 refine AZ [(0, _), (1, _), (2, _), (3, _)] [.int .i64 0, .int .i64 0, .int .i64 0, .int .i64 0] [_, _, _, _] rfl underlying24 A8 rfl (by omega) (by kernel_rfl) (by repeat (first | exact trivial | refine ⟨⟨by rfl, rfl, rfl⟩, ?_⟩)) rfl rfl rfl rfl (fun g8 => ?_)
 refine AH (OwnL.blk (g := g8) (el := 3) (F := cI) (l := [0, 1, 2, 2]) (2 * 2) Br rfl (by omega)) fun h3 l3 hL3 => (Qg (AG rfl call36 rfl (Mh 2 (WU e1 e2 e3) (hRZ.up l3) hL3 rfl (by omega) rfl _)) rfl (Qm rfl (Qm rfl (Ce rfl rfl rfl rfl ?_))))
 refine AZ [(0, _), (1, _)] [.int .i64 0, .int .i64 0] [_, _] rfl underlying24 A8 rfl (by omega) (by kernel_rfl) (by repeat (first | exact trivial | refine ⟨⟨by rfl, rfl, rfl⟩, ?_⟩)) rfl rfl rfl rfl (fun g12 => ?_)
 refine AH (OwnL.blk (g := g12) (el := 3) (F := cI) (l := [1, -2]) 2 Br rfl (by omega)) fun h1 l1 hL1 => (Ce rfl rfl rfl rfl (Qc call37 rfl (GD [1, -2] _ h1 hL1 (by decide) (by decide)) (fun r2 h2 ms2 l2 hF => ?_)))
 obtain ⟨l2', rfl, Z, vd, va, rfl, hRZ, e1, e2, e3⟩ := hF
 refine Ce rfl rfl rfl rfl ?_
 refine AZ [(0, _), (1, _)] [.int .i64 0, .int .i64 0] [_, _] rfl underlying24 A8 rfl (by omega) (by kernel_rfl) (by repeat (first | exact trivial | refine ⟨⟨by rfl, rfl, rfl⟩, ?_⟩)) rfl rfl rfl rfl (fun g14 => ?_)
 refine AH (OwnL.blk (g := g14) (el := 3) (F := cI) (l := [0, 2]) (2 * 1) Br rfl (by omega)) fun h3 l3 hL3 => (Qg (AG rfl call36 rfl (Mh 1 (WP e1 e2 e3) (hRZ.up l3) hL3 rfl (by omega) rfl _)) rfl (Qm rfl (Qm rfl (Ce rfl rfl rfl rfl ?_))))
 refine AZ [(0, _), (1, _)] [.int .i64 0, .int .i64 0] [_, _] rfl underlying24 A8 rfl (by omega) (by kernel_rfl) (by repeat (first | exact trivial | refine ⟨⟨by rfl, rfl, rfl⟩, ?_⟩)) rfl rfl rfl rfl (fun g18 => ?_)
 refine AH (OwnL.blk (g := g18) (el := 3) (F := cI) (l := [9, -1]) 2 Br rfl (by omega)) fun h1 l1 hL1 => (Ce rfl rfl rfl rfl (Qc call37 rfl (GD [9, -1] _ h1 hL1 (by decide) (by decide)) (fun r2 h2 ms2 l2 hF => ?_)))
 obtain ⟨l2', rfl, Z, vd, va, rfl, hRZ, e1, e2, e3⟩ := hF
 refine Ce rfl rfl rfl rfl ?_
 refine AZ [(0, _), (1, _), (2, _), (3, _)] [.int .i64 0, .int .i64 0, .int .i64 0, .int .i64 0] [_, _, _, _] rfl underlying24 A8 rfl (by omega) (by kernel_rfl) (by repeat (first | exact trivial | refine ⟨⟨by rfl, rfl, rfl⟩, ?_⟩)) rfl rfl rfl rfl (fun g20 => ?_)
 refine AH (OwnL.blk (g := g20) (el := 3) (F := cI) (l := [0, 0, 1, 2]) (2 * 2) Br rfl (by omega)) fun h3 l3 hL3 => (Qg (AG rfl call36 rfl (Mh 2 (WT e1 e2 e3) (hRZ.up l3) hL3 rfl (by omega) rfl _)) rfl (Qm rfl (Qm rfl (Ce rfl rfl rfl rfl ?_))))
 refine AZ [(0, _), (1, _)] [.int .i64 0, .int .i64 0] [_, _] rfl underlying24 A8 rfl (by omega) (by kernel_rfl) (by repeat (first | exact trivial | refine ⟨⟨by rfl, rfl, rfl⟩, ?_⟩)) rfl rfl rfl rfl (fun g24 => ?_)
 refine AH (OwnL.blk (g := g24) (el := 3) (F := cI) (l := [-9, 3]) 2 Br rfl (by omega)) fun h1 l1 hL1 => (Ce rfl rfl rfl rfl (Qc call37 rfl (GD [-9, 3] _ h1 hL1 (by decide) (by decide)) (fun r2 h2 ms2 l2 hF => ?_)))
 obtain ⟨l2', rfl, Z, vd, va, rfl, hRZ, e1, e2, e3⟩ := hF
 refine Ce rfl rfl rfl rfl ?_
 refine AZ [(0, _), (1, _), (2, _), (3, _)] [.int .i64 0, .int .i64 0, .int .i64 0, .int .i64 0] [_, _, _, _] rfl underlying24 A8 rfl (by omega) (by kernel_rfl) (by repeat (first | exact trivial | refine ⟨⟨by rfl, rfl, rfl⟩, ?_⟩)) rfl rfl rfl rfl (fun g26 => ?_)
 refine AH (OwnL.blk (g := g26) (el := 3) (F := cI) (l := [0, 0, 1, 2]) (2 * 2) Br rfl (by omega)) fun h3 l3 hL3 => (Qg (AG rfl call36 rfl (Mh 2 (WQ e1 e2 e3) (hRZ.up l3) hL3 rfl (by omega) rfl _)) rfl (Qm rfl (Qm rfl (Ce rfl rfl rfl rfl (Qc call38 rfl (NV 0 _ (by decide)) (fun r2 h2 ms2 l2 hF => ?_))))))
 obtain ⟨l2', rfl, Z, vd, va, rfl, hRZ, e1, e2, e3⟩ := hF
 refine Ce rfl rfl rfl rfl ?_
 refine AZ [(0, _), (1, _), (2, _), (3, _)] [.int .i64 0, .int .i64 0, .int .i64 0, .int .i64 0] [_, _, _, _] rfl underlying24 A8 rfl (by omega) (by kernel_rfl) (by repeat (first | exact trivial | refine ⟨⟨by rfl, rfl, rfl⟩, ?_⟩)) rfl rfl rfl rfl (fun g31 => ?_)
 refine AH (OwnL.blk (g := g31) (el := 3) (F := cI) (l := [0, 1, 1, 2]) (2 * 2) Br rfl (by omega)) fun h3 l3 hL3 => (Qg (AG rfl call36 rfl (Mh 2 (WO e1 e2 e3) (hRZ.up l3) hL3 rfl (by omega) rfl _)) rfl (Qm rfl (Qm rfl (Ce rfl rfl rfl rfl (Qc call38 rfl (NV 2 _ (by decide)) (fun r2 h2 ms2 l2 hF => ?_))))))
 obtain ⟨l2', rfl, Z, vd, va, rfl, hRZ, e1, e2, e3⟩ := hF
 refine Ce rfl rfl rfl rfl ?_
 refine AZ [(0, _), (1, _), (2, _), (3, _)] [.int .i64 0, .int .i64 0, .int .i64 0, .int .i64 0] [_, _, _, _] rfl underlying24 A8 rfl (by omega) (by kernel_rfl) (by repeat (first | exact trivial | refine ⟨⟨by rfl, rfl, rfl⟩, ?_⟩)) rfl rfl rfl rfl (fun g36 => ?_)
 refine AH (OwnL.blk (g := g36) (el := 3) (F := cI) (l := [0, 2, 1, 1]) (2 * 2) Br rfl (by omega)) fun h3 l3 hL3 => (Qg (AG rfl call36 rfl (Mh 2 (WX e1 e2 e3) (hRZ.up l3) hL3 rfl (by omega) rfl _)) rfl (Qm rfl (Qm rfl (Aq (Ao ?_)))))
 exact Am rfl rfl (rfl)
theorem GW (h : Hp) (ms : List Hp) : Dq Tryz.prog 14 #[] h ms (.bool true) := Ds (Om h) ms
end Go.Proofs.YtdnelknieikbaaaGreat
namespace Go.Proofs.YtdnelknieikbaaaGreat
open Go.Eng Go.RowKit Go.Lin Go.Sort Go.Srt
structure Pl where
 p : Nat
 ds : List Nat
 back : Nat
 seed : List Int
 thin : Bool
def cB (x : Nat) : List Value := [.int .u8 x]
theorem R1 : ∀ x, (cB x).length = 1 := fun _ => rfl
structure Pl.Ok (x : Pl) : Prop where
 p : x.p < 256
 ds : ∀ d ∈ x.ds, d < 256
 back : x.back < 65536
 seed : ∀ s ∈ x.seed, Dh s
 len : x.seed.length ≤ 9223372036854775807
structure RdP (h : Hp) (vd vs : Value) (x : Pl) : Prop where
 d : RdL cB 1 h [] vd x.ds
 s : RdL cI 1 h [] vs x.seed
theorem RdP.up {h h' : Hp} {vd vs : Value} {x : Pl} (R : RdP h vd vs x) (hl : h.le h') : RdP h' vd vs x := ⟨R.d.up hl, R.s.up hl⟩
def Pl.P (x : Pl) : Int := ([2, 3, 5, 7] : List Int).getD (x.p % 4) 0
def Pl.pre (x : Pl) : List Int := (x.ds.take 8).map fun d => ((d % 5 : Nat) : Int)
def Pl.dims (x : Pl) : List Int := if x.pre = [] then [2] else x.pre
def Pl.d (x : Pl) (k : Nat) : Nat := (x.dims.getD k 0).toNat
def Pl.bk (x : Pl) (k : Nat) : Bool := decide (x.back / 2 ^ k % 2 = 1)
def Pl.rows (x : Pl) (k : Nat) : Nat := if x.bk k then x.d k else x.d (k + 1)
def Pl.cols (x : Pl) (k : Nat) : Nat := if x.bk k then x.d (k + 1) else x.d k
def Pl.at_ (x : Pl) : Nat → Nat
 | 0 => 0
 | k + 1 => x.at_ k + x.rows k * x.cols k
def Pl.raw (x : Pl) (a : Nat) : Int := IntKind.i64.wrap (x.seed.getD (a % x.seed.length) 0 + 3 * ((a / x.seed.length : Nat) : Int))
def Pl.ent (x : Pl) (a : Nat) : Int := if x.seed = [] then 0 else if x.thin = false ∨ x.raw a % 3 = 0 then IntKind.i64.wrap ((x.raw a).tdiv 3 + x.raw a) % x.P else 0
def Pl.mat (x : Pl) (k : Nat) : FM := ⟨x.P, x.rows k, x.cols k, (List.range (x.rows k * x.cols k)).map fun j => x.ent (x.at_ k + j)⟩
def Pl.core (x : Pl) : List (Bool × FM) := (List.range (x.dims.length - 1)).map fun k => (x.bk k, x.mat k)
section
variable (x : Pl)
theorem Pl.P_is : IsP x.P := by
 unfold Pl.P
 have h : x.p % 4 < 4 := Nat.mod_lt _ (by decide)
 rcases (by omega : x.p % 4 = 0 ∨ x.p % 4 = 1 ∨ x.p % 4 = 2 ∨ x.p % 4 = 3) with e | e | e | e <;> rw [e]
 ·exact (by decide : IsP 2)
 ·exact (by decide : IsP 3)
 ·exact (by decide : IsP 5)
 ·exact (by decide : IsP 7)
theorem Pl.P_bd : 2 ≤ x.P ∧ x.P ≤ 7 := by
 unfold Pl.P
 have h : x.p % 4 < 4 := Nat.mod_lt _ (by decide)
 rcases (by omega : x.p % 4 = 0 ∨ x.p % 4 = 1 ∨ x.p % 4 = 2 ∨ x.p % 4 = 3) with e | e | e | e <;> rw [e] <;> decide
theorem Pl.dims_bd : ∀ y ∈ x.dims, 0 ≤ y ∧ y ≤ 4 := fun y hy => by
 unfold Pl.dims at hy
 split at hy
 ·rw [List.mem_singleton.1 hy]; decide
 ·unfold Pl.pre at hy
  obtain ⟨d, _, rfl⟩ := List.mem_map.1 hy
  omega
theorem Pl.pre_len : x.pre.length ≤ 8 := by unfold Pl.pre; rw [List.length_map, List.length_take]; omega
theorem Pl.dims_len : 1 ≤ x.dims.length ∧ x.dims.length ≤ 8 := by
 unfold Pl.dims
 split
 ·simp
 ·rename_i h
  have := x.pre_len
  have := List.length_pos_iff.2 h
  omega
theorem Pl.d_eq (k : Nat) : ((x.d k : Nat) : Int) = x.dims.getD k 0 := by
 unfold Pl.d
 rcases Nat.lt_or_ge k x.dims.length with h | h
 ·have e : x.dims.getD k 0 = x.dims[k] := by simp [List.getD, h]
  have := x.dims_bd _ (List.getElem_mem h)
  rw [e]; omega
 ·have e : x.dims.getD k 0 = 0 := by simp [List.getD, h]
  rw [e]; rfl
theorem Pl.d_le (k : Nat) : x.d k ≤ 4 := by
 unfold Pl.d
 rcases Nat.lt_or_ge k x.dims.length with h | h
 ·have e : x.dims.getD k 0 = x.dims[k] := by simp [List.getD, h]
  have := x.dims_bd _ (List.getElem_mem h)
  rw [e]; omega
 ·have e : x.dims.getD k 0 = 0 := by simp [List.getD, h]
  rw [e]; decide
theorem Pl.rc_le (k : Nat) : x.rows k ≤ 4 ∧ x.cols k ≤ 4 := by
 have h1 := x.d_le k
 have h2 := x.d_le (k + 1)
 unfold Pl.rows Pl.cols
 split <;> exact ⟨by assumption, by assumption⟩
theorem Pl.sz_le (k : Nat) : x.rows k * x.cols k ≤ 16 := by
 have := x.rc_le k
 exact Nat.mul_le_mul this.1 this.2
theorem Pl.at_le (k : Nat) : x.at_ k ≤ 16 * k := by
 induction k with
 | zero => exact Nat.le_refl _
 | succ k ih => have := x.sz_le k; unfold Pl.at_; omega
theorem Pl.ent_bd (a : Nat) : 0 ≤ x.ent a ∧ x.ent a < x.P := by
 have hp := x.P_bd
 unfold Pl.ent
 split
 ·omega
 ·split
  ·exact ⟨Int.emod_nonneg _ (by omega), Int.emod_lt_of_pos _ (by omega)⟩
  ·omega
theorem Pl.core_len : x.core.length = x.dims.length - 1 := by simp [Pl.core]
theorem Pl.rt {Z : Zz} (h1 : Z.p = x.P) (h2 : Z.dims = x.dims) (h3 : Z.ars.map Ar.core = x.core) : Z.Rt := by
 rw [N9 h3, h1, h2]
 have hd := x.dims_len
 have hb := x.dims_bd
 refine ⟨hd.1, by show x.dims.length ≤ 100; omega, ?_, x.P_is, fun y hy => ?_, fun k hk => ?_⟩
 ·show (((x.core.map _).length : Nat) : Int) = (x.dims.length : Int) - 1
  rw [List.length_map, x.core_len]; omega
 ·have := hb y hy; omega
 ·have hk' : k < x.dims.length - 1 := by have : k < (x.core.map _).length := hk; rwa [List.length_map, x.core_len] at this
  have e : (Lu x.P x.dims x.core).ars[k] = ⟨x.bk k, x.mat k, .slice none 0 0⟩ := by
   have e2 : (Lu x.P x.dims x.core).ars[k]? = some ⟨x.bk k, x.mat k, .slice none 0 0⟩ := by
    show (x.core.map _)[k]? = _
    rw [List.getElem?_map, Pl.core, List.getElem?_map, List.getElem?_range hk']; rfl
   rw [List.getElem?_eq_getElem hk] at e2
   exact Option.some.inj e2
  rw [e]
  have h4 := x.rc_le k
  refine ⟨⟨x.P_is, ⟨?_, ?_, ?_, ?_⟩, ?_, fun y hy => ?_⟩, rfl, ?_, ?_⟩
  ·show (0 : Int) ≤ (x.rows k : Int); omega
  ·show (0 : Int) ≤ (x.cols k : Int); omega
  ·show (x.rows k : Int) ≤ 400; omega
  ·show (x.cols k : Int) ≤ 400; omega
  ·show ((((List.range (x.rows k * x.cols k)).map _).length : Nat) : Int) = (x.rows k : Int) * (x.cols k : Int)
   rw [List.length_map, List.length_range]; exact Int.natCast_mul _ _
  ·obtain ⟨j, _, rfl⟩ := List.mem_map.1 hy
   exact x.ent_bd _
  ·show (x.cols k : Int) = x.dims.getD (if x.bk k then k + 1 else k) 0
   rw [← x.d_eq]
   unfold Pl.cols
   split <;> rfl
  ·show (x.rows k : Int) = x.dims.getD (if x.bk k then k else k + 1) 0
   rw [← x.d_eq]
   unfold Pl.rows
   split <;> rfl
end
end Go.Proofs.YtdnelknieikbaaaGreat
set_option maxHeartbeats 800000
namespace Go.Proofs.YtdnelknieikbaaaGreat
open Go.Proofs.Tryz
open Go.Eng Go.RowKit Go.Lin Go.Sort Go.Srt
instance : Inhabited Ar := ⟨⟨false, ⟨0, 0, 0, []⟩, .slice none 0 0⟩⟩
def BagE (A : List Ar) (m : Hp) : Prop := Bag A.length (fun k y => OwnL cI 1 3 y (A.getD k default).v (A.getD k default).M.e) m
theorem BagE.nil : BagE [] Hp.emp := Bag.zero _
theorem BagE.snoc {A : List Ar} {m y : Hp} {a : Ar} (B : BagE A m) (O : OwnL cI 1 3 y a.v a.M.e) (hd : m.disj y) : BagE (A ++ [a]) (m.join y) := by
 unfold BagE at *
 rw [List.length_append, List.length_singleton]
 refine Bag.snoc (B.mono fun k hk z O' => ?_) ?_ hd
 ·have e : (A ++ [a]).getD k default = A.getD k default := by simp [List.getD, List.getElem?_append_left hk]
  rw [e]; exact O'
 ·have e : (A ++ [a]).getD A.length default = a := by simp [List.getD]
  rw [e]; exact O
theorem T0 {x : Pl} (hx : x.Ok) {i : Nat} (hi : i < x.ds.length) : x.ds[i] < 256 := hx.ds _ (List.getElem_mem hi)
def Pl.vals (x : Pl) (k j : Nat) : List Int := (List.range (x.rows k * x.cols k)).map fun t => if t < j then x.ent (x.at_ k + t) else 0
theorem QU (x : Pl) (k j : Nat) : (x.vals k j).length = x.rows k * x.cols k := by simp [Pl.vals]
theorem I3 (x : Pl) (k : Nat) {j : Nat} (hj : j < x.rows k * x.cols k) : (x.vals k j).set j (x.ent (x.at_ k + j)) = x.vals k (j + 1) := by
 refine List.ext_getElem (by simp [Pl.vals]) fun t h1 h2 => ?_
 rw [List.getElem_set]
 by_cases he : j = t
 ·subst he; simp [Pl.vals]
 ·rw [if_neg he]
  simp only [Pl.vals, List.getElem_map, List.getElem_range]
  by_cases ht : t < j
  ·rw [if_pos ht, if_pos (by omega)]
  ·rw [if_neg ht, if_neg (by omega)]
theorem Pj (x : Pl) (k : Nat) {j : Nat} (hj : j < x.rows k * x.cols k) (h0 : x.ent (x.at_ k + j) = 0) : x.vals k j = x.vals k (j + 1) := by
 rw [← I3 x k hj, h0]
 refine List.ext_getElem (by simp) fun t h1 h2 => ?_
 rw [List.getElem_set]
 by_cases he : j = t
 ·subst he; simp [Pl.vals]
 ·rw [if_neg he]
theorem Q4 (x : Pl) (k : Nat) : x.vals k (x.rows k * x.cols k) = (x.mat k).e := by
 unfold Pl.vals Pl.mat
 exact List.map_congr_left fun t ht => if_pos (List.mem_range.1 ht)
theorem O5 (x : Pl) (k j : Nat) (h : x.seed = []) : x.vals k j = (x.mat k).e := by
 unfold Pl.vals Pl.mat
 refine List.map_congr_left fun t ht => ?_
 have : x.ent (x.at_ k + t) = 0 := by unfold Pl.ent; rw [if_pos h]
 rw [this, ite_self]
theorem OB (x : Pl) (k : Nat) : (EM x.P (x.rows k) (x.cols k) fun _ _ => 0).e = x.vals k 0 := by
 unfold Pl.vals EM Lin.mat
 exact List.map_congr_left fun t _ => (if_neg (by omega)).symm
theorem Vh {P : Program} {o : Oper} {s : Ay} {h : Hp} {ms : List Hp} {v v' : Value} (H : OX P o s h ms v) (e : v = v') : OX P o s h ms v' := e ▸ H
theorem Kf (x : Pl) (vd vs : Value) (h : Hp) (hx : x.Ok) (hR : RdP h vd vs x) : FnT Tryz.prog 15 #[.agg #[.int .u8 x.p, vd, .int .u16 x.back, vs, .bool x.thin]] h [] (fun r h' ms' => h.le h' ∧ ∃ (vdo vao : Value) (md ma mB : Hp) (A : List Ar), ms' = [ma, md, mB] ∧ r = .agg #[.int .i64 x.P, vdo, vao] ∧ OwnL cI 1 3 md vdo x.dims ∧ OwnL cA 5 45 ma vao A ∧ A.map Ar.core = x.core ∧ BagE A mB) := by
 have o1 := hR.d.rd.one
 have o2 := hR.s.rd.one
 have hxp := hx.p
 have hdl := hR.d.len_le
 have hsl := hR.s.len_le
 refine Av func15 ntmps15 rfl rfl (fun w0 hw0 => ?_)
 simp only [A4]
 refine Ax ?_
 refine AS [_, _, _, _, _] rfl rfl (by rfl) rfl rfl rfl (fun g1 => ?_)
 refine BZ [.int .i64 0, .slice none 0 0, .slice none 0 0] rfl Bz rfl rfl (fun g2 => Aq (By 1 rfl fun h1 l1 hS1 => ?_))
 have hR := hR.up l1
 have hA := Seg.all hS1
 have hA0 := hA 0 _ rfl
 have hpl : x.p % 4 < 4 := Nat.mod_lt _ (by decide)
 refine Ax ?_
 refine AZ [(0, _), (1, _), (2, _), (3, _)] [.int .i64 0, .int .i64 0, .int .i64 0, .int .i64 0] [_, _, _, _] rfl underlying24 A8 rfl (by omega) (by kernel_rfl) (by repeat (first | exact trivial | refine ⟨⟨by rfl, rfl, rfl⟩, ?_⟩)) rfl rfl rfl rfl (fun g13 => ?_)
 refine AH (OwnL.blk (g := g13) (el := 3) (F := cI) (l := [2, 3, 5, 7]) 4 Br rfl (by omega)) fun h2 l2 hR13 => ?_
 have hS1 := hS1.le l2
 have hR := hR.up l2
 have hA := Seg.all hS1
 have hA0 := hA 0 _ rfl
 have hcp : ∀ ms, Cell h2 ms ((Bl (.slice (some ⟨g13, 0, none⟩) 4 4)).add (x.p % 4 * 1)) (.int .i64 x.P) := fun ms => by
  have := (hR13.any (ms := ms)).cell0 (j := x.p % 4) hpl rfl
  have e : ([2, 3, 5, 7] : List Int)[x.p % 4] = x.P := by unfold Pl.P; simp [List.getD, hpl]
  rw [e] at this
  exact this
 refine Qf Vr rfl (Ql rfl underlying5 (hA0 _) (Qx (B0 rfl rfl rfl (by omega) (by omega)) rfl (Qx (Dz (x.p % 4) rfl underlying24 A8 rfl rfl (by omega) (by omega)) rfl (Ql rfl underlying3 (hcp _) ?_))))
 refine Qx (AT Sr [.int .i64 0, .slice none 0 0, .slice none 0 0] [(0, _)] [_, _, _] rfl Bz rfl rfl (by repeat (first | exact trivial | refine ⟨⟨rfl, rfl, rfl⟩, ?_⟩)) rfl) rfl ?_
 refine BZ [.int .i64 0, .slice none 0 0, .slice none 0 0] rfl Bz rfl rfl (fun g3 => ?_)
 refine Sa 0 [_, _, _] Bz rfl (by simp [Value.oneCell']) ?_
 refine Aq ?_
 refine Bv (fun sl hh ms' => ∃ (vo : Value) (md : Hp), sl = [(1, .pointer (some ⟨g1, 0, none⟩)), (2, .pointer (some ⟨g2, 0, none⟩)), (3, .pointer (some ⟨g3, 0, none⟩))] ∧ h2 = hh ∧ ms' = [AX g3 30 [.int .i64 x.P, vo, .slice none 0 0], md, AX g2 30 [.int .i64 0, .slice none 0 0, .slice none 0 0]] ∧ OwnL cI 1 3 md vo x.pre) ?_ (fun s h ms hI => ?_)
 ·refine Ac (Ad (Qm rfl (Aq (Ag (BX (Cu 1 rfl ?_))))))
  refine AD (fun q sl hh ms' => ∃ (i : Nat) (vo : Value) (md : Hp), q = x.ds.length - i ∧ sl = [(1, .pointer (some ⟨g1, 0, none⟩)), (2, .pointer (some ⟨g2, 0, none⟩)), (3, .pointer (some ⟨g3, 0, none⟩)), (4, .int .i64 i)] ∧ h2 = hh ∧ ms' = [AX g3 30 [.int .i64 x.P, vo, .slice none 0 0], md, AX g2 30 [.int .i64 0, .slice none 0 0, .slice none 0 0]] ∧ i ≤ x.ds.length ∧ i ≤ 8 ∧ OwnL cI 1 3 md vo ((x.ds.take i).map fun d => ((d % 5 : Nat) : Int)))
   (x.ds.length - 0) _ ⟨0, _, _, rfl, rfl, rfl, rfl, by omega, by omega, OwnL.nil Br⟩ Qs ?_
  rintro q sl hh ms' ⟨i, vo, md, rfl, rfl, rfl, rfl, hi, hi8, hO⟩
  have olen : ((x.ds.take i).map fun d => ((d % 5 : Nat) : Int)).length ≤ 8 := by rw [List.length_map, List.length_take]; omega
  refine Ac (Ax (Qm rfl (Qf QE rfl (Ql rfl underlying22 (hA _ _ rfl _) (Qx (AJ hR.d.rd.any rfl underlying22 rfl) rfl (Qm rfl (Qm rfl ?_)))))))
  refine AR (t := 25) rfl (fun hs1 => ?_) (fun hs1 => ?_)
  ·have hil : i < x.ds.length := by omega
   refine Qg (As rfl rfl) rfl (Qg (Dy rfl rfl rfl) rfl (Qm rfl (Aq ?_)))
   refine AF rfl (fun hs2 => ?_) (fun hs2 => ?_)
   ·have hdb := T0 hx hil
    refine Ai (Ab (Ac (Ag (BB 10 Cd (by kernel_rfl) rfl (Wf Bn rfl (Wl rfl underlying24 (Cell.blk 0 rfl rfl) (Wf QE rfl (Wl rfl underlying22 (hA _ _ rfl _) (Wm rfl (AV (Ah (i) hR.d.rd.any rfl underlying22 WY rfl rfl (by omega) (by omega)) rfl rfl (Wl rfl underlying5 (hR.d.any.cell0 hil rfl) (AV (B0 rfl rfl rfl (by omega) (by omega)) rfl rfl (AV (TI rfl underlying5 underlying3 rfl (C0 (by omega))) rfl rfl ?_)))))))))))))
    refine U9 (DX [_] rfl underlying24 A8 rfl (by rfl) rfl rfl (by omega)) rfl rfl ?_
    refine Ko (fun g40 => ?_)
    refine Bm 2 hO (RdL.one Br (x := ((x.ds[i] % 5 : Nat) : Int)) (List.Mem.head _) rfl) rfl underlying24 A8 rfl (by omega) rfl rfl rfl Cv (by simp only [List.length_singleton]; omega) (by simp only [List.length_singleton]; omega) rfl rfl rfl (fun vo2 md2 hO2 => ?_)
    have ov2 : vo2.oneCell' = true := (hO2.rd (h := h) (ms := [md2]) (List.Mem.head _)).rd.one
    refine Qf Bn rfl ?_
    refine AK 1 _ rfl BN rfl rfl (by assumption) rfl rfl (by (simp; done)) rfl rfl ?_
    refine Ak (Aj (Ab (Ad (Qm rfl (Qx (oA rfl) rfl (Qm rfl (Ak (A5 ?_))))))))
    refine Al (x.ds.length - (i + 1)) _ (by omega) ⟨i + 1, vo2, md2, rfl, rfl, rfl, rfl, by omega, by omega, by rw [List.take_succ_eq_append_getElem hil, List.map_append]; exact hO2⟩ Qs
   ·obtain rfl : i = 8 := by omega
    refine Aw (Aa (Aa (Af ?_)))
    exact AA _ ⟨vo, md, rfl, rfl, rfl, hO⟩ Qs
  ·obtain rfl : i = x.ds.length := by omega
   refine Qk rfl (Qk rfl (Qm rfl (Aq (Bb rfl (Aw (Aa (Aa (Af ?_))))))))
   exact AA _ ⟨vo, md, rfl, rfl, rfl, by unfold Pl.pre; rw [List.take_of_length_le (by omega)] at hO ⊢; exact hO⟩ Qs
 ·obtain ⟨vo, md, rfl, rfl, rfl, hO⟩ := hI
  have hpn := x.pre_len
  refine Bv (fun sl hh ms' => ∃ (vo : Value) (md : Hp), sl = [(1, .pointer (some ⟨g1, 0, none⟩)), (2, .pointer (some ⟨g2, 0, none⟩)), (3, .pointer (some ⟨g3, 0, none⟩))] ∧ h2 = hh ∧ ms' = [AX g3 30 [.int .i64 x.P, vo, .slice none 0 0], md, AX g2 30 [.int .i64 0, .slice none 0 0, .slice none 0 0]] ∧ OwnL cI 1 3 md vo x.dims) ?_ (fun s h ms hI => ?_)
  ·refine Ac (Ad (Qf Bn rfl (Ql rfl underlying24 (Cell.blk 0 (k := 1) rfl rfl) (Qx (CH (hO.rd (h := h2) (ms := [md]) (List.Mem.head _)).rd rfl underlying24 rfl) rfl (Qm rfl (Aq ?_))))))
   refine AF rfl (fun hz => ?_) (fun hz => ?_)
   ·refine Ad ?_
    refine AB [_] rfl underlying24 A8 rfl (by rfl) rfl rfl (by omega) rfl rfl rfl (fun g47 => ?_)
    refine Qf Bn rfl ?_
    refine AK 1 _ rfl BN rfl rfl (by rfl) rfl rfl (by (simp; done)) rfl rfl ?_
    refine Ak (AP 2 rfl (A9 ?_))
    exact AA _ ⟨_, _, rfl, rfl, rfl, by unfold Pl.dims; rw [if_pos (List.length_eq_zero_iff.1 (by omega))]; exact OwnL.blk (F := cI) (l := [2]) 1 Br rfl (by omega)⟩ Qs
   ·refine Ai ?_
    exact AA _ ⟨vo, md, rfl, rfl, rfl, by unfold Pl.dims; rw [if_neg (fun e => hz (by rw [e]; rfl))]; exact hO⟩ Qs
  ·obtain ⟨vo, md, rfl, rfl, rfl, hO⟩ := hI
   have hdn := x.dims_len
   refine Ax (Qm rfl (Aq (Ac (Ax (Qm rfl (Aq (Ag (BX (BX ?_)))))))))
   refine AD (fun q sl hh ms' => ∃ (k a : Nat) (va : Value) (ma mB : Hp) (A : List Ar), q = x.dims.length - k ∧ sl = [(1, .pointer (some ⟨g1, 0, none⟩)), (2, .pointer (some ⟨g2, 0, none⟩)), (3, .pointer (some ⟨g3, 0, none⟩)), (5, .int .i64 a), (6, .int .i64 k)] ∧ h2.le hh ∧ ms' = [ma, mB, AX g3 30 [.int .i64 x.P, vo, va], md, AX g2 30 [.int .i64 0, .slice none 0 0, .slice none 0 0]] ∧ k + 1 ≤ x.dims.length ∧ OwnL cA 5 45 ma va A ∧ A.map Ar.core = x.core.take k ∧ BagE A mB ∧ (x.seed = [] → a = 0) ∧ (x.seed ≠ [] → a = x.at_ k))
    (x.dims.length - 0) _ ⟨0, 0, _, _, _, [], rfl, rfl, Hp.le_refl _, rfl, by omega, OwnL.nil Fm, by simp, BagE.nil, fun _ => rfl, fun _ => rfl⟩ Qs ?_
   rintro q sl hh ms' ⟨k, a, va, ma, mB, A, rfl, rfl, lh, rfl, hk, hOa, hAc, hB, ha0, ha1⟩
   have hR := hR.up lh
   have hA := Seg.all (hS1.le lh)
   have hA0 := hA 0 _ rfl
   have hal := x.at_le k
   have hale : a ≤ 128 := by
    by_cases hse : x.seed = []
    ·rw [ha0 hse]; omega
    ·rw [ha1 hse]; omega
   refine Ac (Ax (Qm rfl (Qx (oA rfl) rfl (Qf Bn rfl (Ql rfl underlying24 (Cell.blk 2 (k := 1) rfl rfl) (Qx (CH (hO.rd (h := h2) (ms := [md]) (List.Mem.head _)).rd rfl underlying24 rfl) rfl (Qm rfl (Aq ?_))))))))
   refine AF rfl (fun hlt => ?_) (fun hlt => ?_)
   ·have hk1 : k + 1 < x.dims.length := by omega
    have hbk : x.back / 2 ^ k < 65536 := Nat.lt_of_le_of_lt (Nat.div_le_self _ _) hx.back
    have hd0 : ∀ ms, md ∈ ms → Cell hh ms ((Bl vo).add (k * 1)) (.int .i64 (x.d k)) := fun ms hm => by
     have h1 : k < x.dims.length := by omega
     have := (hO.rd (h := hh) hm).cell0 h1 rfl
     have e : x.dims[k] = x.d k := by rw [x.d_eq]; simp [List.getD, h1]
     rw [e] at this; exact this
    have hd1 : ∀ ms, md ∈ ms → Cell hh ms ((Bl vo).add ((k + 1) * 1)) (.int .i64 (x.d (k + 1))) := fun ms hm => by
     have := (hO.rd (h := hh) hm).cell0 hk1 rfl
     have e : x.dims[k + 1] = x.d (k + 1) := by rw [x.d_eq]; simp [List.getD, hk1]
     rw [e] at this; exact this
    have hbq : decide (((x.back / 2 ^ k % 2 : Nat) : Int) = 1) = x.bk k := by unfold Pl.bk; exact decide_eq_decide.2 (by omega)
    refine Ai (Ab (Ac (Ag (Ax (Qf Sg rfl (Ql rfl underlying23 (hA _ _ rfl _) (Qm rfl (Qx (RH rfl rfl rfl (by omega)) rfl (Qx (P9 rfl rfl rfl (by omega)) rfl (Qm rfl (Qm rfl (B3 (Qf Bn rfl (Ql rfl underlying24 (Cell.blk 2 (k := 1) rfl rfl) (Qm rfl (Qx (oA rfl) rfl (Qx (Bo (k + 1) (hO.rd (h := h2) (ms := [md]) (List.Mem.head _)).rd rfl underlying24 A8 rfl rfl (by omega) (by omega)) rfl (Ql rfl underlying3 (hd1 _ (List.Mem.tail _ (List.Mem.tail _ (List.Mem.tail _ (List.Mem.head _))))) (Qm rfl (B3 (Qf Bn rfl (Ql rfl underlying24 (Cell.blk 2 (k := 1) rfl rfl) (Qm rfl (Qx (Bo (k) (hO.rd (h := h2) (ms := [md]) (List.Mem.head _)).rd rfl underlying24 A8 rfl rfl (by omega) (by omega)) rfl (Ql rfl underlying3 (hd0 _ (List.Mem.tail _ (List.Mem.tail _ (List.Mem.tail _ (List.Mem.head _))))) (Qm rfl (Aq ?_)))))))))))))))))))))))))))
    refine Bv (fun sl h3 ms' => ∃ b : Bool, sl = [(1, .pointer (some ⟨g1, 0, none⟩)), (2, .pointer (some ⟨g2, 0, none⟩)), (3, .pointer (some ⟨g3, 0, none⟩)), (5, .int .i64 a), (6, .int .i64 k), (7, .bool b), (8, .int .i64 (x.rows k)), (9, .int .i64 (x.cols k))] ∧ hh = h3 ∧ ms' = [ma, mB, AX g3 30 [.int .i64 x.P, vo, va], md, AX g2 30 [.int .i64 0, .slice none 0 0, .slice none 0 0]] ∧ b = x.bk k) ?_ (fun s h ms hI => ?_)
    ·refine Ac (Ad (Qm rfl (Aq ?_)))
     refine BJ rfl (fun hbt => ?_) (fun hbt => ?_)
     ·have hbt : x.bk k = true := hbq ▸ hbt
      have e1 : x.rows k = x.d k := if_pos hbt
      have e2 : x.cols k = x.d (k + 1) := if_pos hbt
      rw [e1, e2]
      refine Ax (Qf Bn rfl (Ql rfl underlying24 (Cell.blk 2 (k := 1) rfl rfl) (Qm rfl (Qx (Bo (k) (hO.rd (h := h2) (ms := [md]) (List.Mem.head _)).rd rfl underlying24 A8 rfl rfl (by omega) (by omega)) rfl (Ql rfl underlying3 (hd0 _ (List.Mem.tail _ (List.Mem.tail _ (List.Mem.tail _ (List.Mem.head _))))) (Qm rfl (IA (Qf Bn rfl (Ql rfl underlying24 (Cell.blk 2 (k := 1) rfl rfl) (Qm rfl (Qx (oA rfl) rfl (Qx (Bo (k + 1) (hO.rd (h := h2) (ms := [md]) (List.Mem.head _)).rd rfl underlying24 A8 rfl rfl (by omega) (by omega)) rfl (Ql rfl underlying3 (hd1 _ (List.Mem.tail _ (List.Mem.tail _ (List.Mem.tail _ (List.Mem.head _))))) (Qm rfl (Ak ?_)))))))))))))))
      exact AA _ ⟨_, rfl, rfl, rfl, hbq⟩ Qs
     ·have hbt : ¬ x.bk k = true := by rw [← hbq, hbt]; decide
      have e1 : x.rows k = x.d (k + 1) := if_neg hbt
      have e2 : x.cols k = x.d k := if_neg hbt
      rw [e1, e2]
      refine Ai ?_
      exact AA _ ⟨_, rfl, rfl, rfl, hbq⟩ Qs
    ·obtain ⟨b, rfl, rfl, rfl, rfl⟩ := hI
     have hrc := x.rc_le k
     have hpb := x.P_bd
     refine Ax (Qf CG rfl (Ql rfl underlying3 (Cell.blk 2 (k := 0) rfl rfl) (Qm rfl (Qm rfl ?_))))
     refine Qc call23 rfl (FN x.P (x.rows k) (x.cols k) hh ⟨by omega, by omega⟩) (fun xm h4 ms4 l4 hF => ?_)
     rw [DO x.P_is (show x.rows k ≤ 400 by omega) (show x.cols k ≤ 400 by omega)] at hF
     obtain ⟨rfl, xe, mx, rfl, rfl, hOx⟩ := hF
     have ox : xe.oneCell' = true := (hOx.rd (h := h) (ms := [mx]) (List.Mem.head _)).rd.one
     refine BZ [.int .i64 0, .int .i64 0, .int .i64 0, .slice none 0 0] rfl AI rfl rfl (fun g10 => ?_)
     refine Sa 0 [_, _, _, _] AI rfl (by simp [ox]) ?_
     refine Aq (AL fun h5 l5 hS10 => ?_)
     have hR := hR.up l5
     have hA := Seg.all (hS1.le (Hp.le_trans lh l5))
     have hA0 := hA 0 _ rfl
     have hC := Seg.all hS10
     have hvl := QU x k
     have hsz := x.sz_le k
     refine Bv (fun sl h6 ms' => ∃ (a' : Nat) (mx : Hp), sl = [(1, .pointer (some ⟨g1, 0, none⟩)), (2, .pointer (some ⟨g2, 0, none⟩)), (3, .pointer (some ⟨g3, 0, none⟩)), (5, .int .i64 a'), (6, .int .i64 k), (7, .bool (x.bk k)), (10, .pointer (some ⟨g10, 0, none⟩))] ∧ h5 = h6 ∧ ms' = [mx, ma, mB, AX g3 30 [.int .i64 x.P, vo, va], md, AX g2 30 [.int .i64 0, .slice none 0 0, .slice none 0 0]] ∧ OwnL cI 1 3 mx xe (x.mat k).e ∧ (x.seed = [] → a' = 0) ∧ (x.seed ≠ [] → a' = x.at_ (k + 1))) ?_ (fun s h ms hI => ?_)
     ·refine Ac (Ad (Qm rfl (Aq (Ag ?_))))
      refine AD (fun q sl h6 ms' => ∃ (j : Nat) (mx : Hp), q = x.rows k * x.cols k - j ∧ sl = [(1, .pointer (some ⟨g1, 0, none⟩)), (2, .pointer (some ⟨g2, 0, none⟩)), (3, .pointer (some ⟨g3, 0, none⟩)), (5, .int .i64 ((a + j : Nat) : Int)), (6, .int .i64 k), (7, .bool (x.bk k)), (10, .pointer (some ⟨g10, 0, none⟩)), (11, .int .i64 j)] ∧ h5 = h6 ∧ ms' = [mx, ma, mB, AX g3 30 [.int .i64 x.P, vo, va], md, AX g2 30 [.int .i64 0, .slice none 0 0, .slice none 0 0]] ∧ j ≤ x.rows k * x.cols k ∧ OwnL cI 1 3 mx xe (x.vals k j) ∧ (x.seed = [] → j = 0))
       (x.rows k * x.cols k - 0) _ ⟨0, mx, rfl, rfl, rfl, rfl, by omega, OB x k ▸ hOx, fun _ => rfl⟩ Qs ?_
      rintro q sl h6 ms' ⟨j, mx, rfl, rfl, rfl, rfl, hj, hOx, hj0⟩
      have hvj := hvl j
      refine Ac (Ax (Qm rfl (Qf Bc rfl (Ql rfl underlying24 (hC _ _ rfl _) (Qx (CH (hOx.rd (h := h2) (ms := [mx]) (List.Mem.head _)).rd rfl underlying24 rfl) rfl (Qm rfl (Qm rfl ?_)))))))
      refine AR (t := 96) rfl (fun hs1 => ?_) (fun hs1 => ?_)
      ·have hjl : j < x.rows k * x.cols k := by omega
       refine Qg (oF KA rfl) rfl (Qg (oL rfl underlying24 (hA _ _ rfl _)) rfl (Qg (AJ hR.s.rd.any rfl underlying24 rfl) rfl (Qg (Dd rfl rfl rfl) rfl (Qm rfl (Aq ?_)))))
       refine AF rfl (fun hs2 => ?_) (fun hs2 => ?_)
       ·have hsl0 : 0 < x.seed.length := by omega
        have hse : x.seed ≠ [] := fun e => by rw [e] at hsl0; exact absurd hsl0 (by decide)
        have hak := ha1 hse
        have q1 : (((a + j : Nat) : Int)) % (x.seed.length : Int) = (((a + j) % x.seed.length : Nat) : Int) := (Int.natCast_emod _ _).symm
        have q2 : (((a + j : Nat) : Int)) / (x.seed.length : Int) = (((a + j) / x.seed.length : Nat) : Int) := (Int.natCast_ediv _ _).symm
        have q3 : (a + j) / x.seed.length ≤ a + j := Nat.div_le_self _ _
        have q4 : 0 ≤ (((a + j : Nat) : Int)) / (x.seed.length : Int) := Int.ediv_nonneg (by omega) (by omega)
        have hml : (a + j) % x.seed.length < x.seed.length := Nat.mod_lt _ hsl0
        have hraw : Value.int .i64 (IntKind.i64.wrap (x.seed[(a + j) % x.seed.length] + 3 * ((((a + j : Nat) : Int)) / (x.seed.length : Int)))) = Value.int .i64 (x.raw (a + j)) := by
         unfold Pl.raw
         rw [q2, Gw hml]
        have hrb : Dh (x.raw (a + j)) := JW _
        have hrb1 := hrb.1
        have hrb2 := hrb.2
        have hent : x.ent (x.at_ k + j) = if x.thin = false ∨ x.raw (a + j) % 3 = 0 then IntKind.i64.wrap ((x.raw (a + j)).tdiv 3 + x.raw (a + j)) % x.P else 0 := by
         unfold Pl.ent; rw [if_neg hse, hak]
        refine Ai (Ab ?_)
        refine Bv (fun sl h6 ms' => ∃ (mx : Hp), sl = [(1, .pointer (some ⟨g1, 0, none⟩)), (2, .pointer (some ⟨g2, 0, none⟩)), (3, .pointer (some ⟨g3, 0, none⟩)), (5, .int .i64 ((a + (j + 1) : Nat) : Int)), (6, .int .i64 k), (7, .bool (x.bk k)), (10, .pointer (some ⟨g10, 0, none⟩)), (11, .int .i64 j)] ∧ h5 = h6 ∧ ms' = [mx, ma, mB, AX g3 30 [.int .i64 x.P, vo, va], md, AX g2 30 [.int .i64 0, .slice none 0 0, .slice none 0 0]] ∧ OwnL cI 1 3 mx xe (x.vals k (j + 1))) ?_ (fun s h ms hI => ?_)
        ·refine Ag (Ac (BB 15 Cd (by kernel_rfl) rfl (Wf KA rfl (Wl rfl underlying24 (hA _ _ rfl _) (Wm rfl (Wf KA rfl (Wl rfl underlying24 (hA _ _ rfl _) (AV (AJ hR.s.rd.any rfl underlying24 rfl) rfl rfl (AV (B0 rfl rfl rfl (by omega) (by omega)) rfl rfl (AV (Ah ((a + j) % x.seed.length) hR.s.rd.any rfl underlying24 A8 rfl rfl (by omega) (by omega)) rfl rfl (Wl rfl underlying3 (hR.s.any.cell0 hml rfl) (Wm rfl (Wf KA rfl (Wl rfl underlying24 (hA _ _ rfl _) (AV (AJ hR.s.rd.any rfl underlying24 rfl) rfl rfl (AV (Tp rfl rfl rfl (by omega) (by omega)) rfl rfl (AV (oM rfl) rfl rfl (BC (Qx (Vh (Ib rfl rfl rfl) hraw) rfl (Qm rfl (B3 (Qm rfl (Qx (oA rfl) rfl (Qm rfl (B3 (Qf Vw rfl (Ql rfl underlying4 (hA _ _ rfl _) (Qm rfl (Qm rfl ?_)))))))))))))))))))))))))))))
         refine CO (t := 125) rfl (fun ht => ?_) (fun ht => ?_)
         ·have ht : x.thin = false := by simpa using ht
          rw [if_pos (.inl ht)] at hent
          refine Qk rfl (Qk rfl (Qk rfl (Qm rfl (Aq (AU rfl (BB 10 Cd (by kernel_rfl) rfl (Wf Bc rfl (Wl rfl underlying24 (hC _ _ rfl _) (Wm rfl (Wm rfl (AV (MH rfl rfl rfl (by omega) (by omega)) rfl rfl (Wm rfl (AV (Ib rfl rfl rfl) rfl rfl (Wf CG rfl (Wl rfl underlying3 (Cell.blk 3 (k := 0) rfl rfl) ?_)))))))))))))))
          refine AV (AG rfl call34 rfl (Ks _ x.P (JW _) ⟨by omega, by omega⟩ _ _)) rfl rfl ?_
          refine BC (Qx (Bo (j) (hOx.rd (h := h2) (ms := [mx]) (List.Mem.head _)).rd rfl underlying24 A8 rfl rfl (by omega) (by omega)) rfl (Bu 0 j hOx rfl A8 rfl rfl rfl (by omega) rfl rfl (fun m' hO' => Ak (Aj ?_))))
          exact AA _ ⟨m', rfl, rfl, rfl, by rw [← I3 x k hjl, hent]; exact hO'⟩ Qs
         ·have ht : ¬ x.thin = false := by simpa using ht
          refine Qg (As rfl rfl) rfl ?_
          refine Qg (AG rfl call34 rfl (Ks (x.raw (a + j)) 3 hrb ⟨by omega, by omega⟩ _ _)) rfl ?_
          refine Qg (EJ rfl rfl rfl) rfl (Qm rfl (Aq ?_))
          refine AF rfl (fun hm => ?_) (fun hm => ?_)
          ·rw [if_pos (.inr hm)] at hent
           refine BB 10 Cd (by kernel_rfl) rfl (Wf Bc rfl (Wl rfl underlying24 (hC _ _ rfl _) (Wm rfl (Wm rfl (AV (MH rfl rfl rfl (by omega) (by omega)) rfl rfl (Wm rfl (AV (Ib rfl rfl rfl) rfl rfl (Wf CG rfl (Wl rfl underlying3 (Cell.blk 3 (k := 0) rfl rfl) ?_)))))))))
           refine AV (AG rfl call34 rfl (Ks _ x.P (JW _) ⟨by omega, by omega⟩ _ _)) rfl rfl ?_
           refine BC (Qx (Bo (j) (hOx.rd (h := h2) (ms := [mx]) (List.Mem.head _)).rd rfl underlying24 A8 rfl rfl (by omega) (by omega)) rfl (Bu 0 j hOx rfl A8 rfl rfl rfl (by omega) rfl rfl (fun m' hO' => Ak (Aj ?_))))
           exact AA _ ⟨m', rfl, rfl, rfl, by rw [← I3 x k hjl, hent]; exact hO'⟩ Qs
          ·rw [if_neg (fun h => h.elim ht hm)] at hent
           refine Ai (Aj ?_)
           exact AA _ ⟨mx, rfl, rfl, rfl, by rw [← Pj x k hjl hent]; exact hOx⟩ Qs
        ·obtain ⟨mx, rfl, rfl, rfl, hOx⟩ := hI
         refine Ad (Qm rfl (Qx (oA rfl) rfl (Qm rfl (Ak ?_))))
         refine Al (x.rows k * x.cols k - (j + 1)) _ (by omega) ⟨j + 1, mx, rfl, rfl, rfl, rfl, by omega, hOx, fun e => absurd e hse⟩ Qs
       ·have hse : x.seed = [] := List.length_eq_zero_iff.1 (by omega)
        have hj1 := hj0 hse
        have ha2 := ha0 hse
        refine Aw (Aa (Aa (Af ?_)))
        exact AA _ ⟨a + j, mx, rfl, rfl, rfl, by rw [← O5 x k j hse]; exact hOx, fun _ => by omega, fun e => absurd hse e⟩ Qs
      ·obtain rfl : j = x.rows k * x.cols k := by omega
       refine Qk rfl (Qk rfl (Qk rfl (Qk rfl (Qm rfl (Aq (Bb rfl (Aw (Aa (Aa (Af ?_))))))))))
       exact AA _ ⟨a + x.rows k * x.cols k, mx, rfl, rfl, rfl, by rw [← Q4 x k]; exact hOx, fun e => by rw [ha0 e, hj0 e], fun e => by rw [ha1 e]; rfl⟩ Qs
     ·obtain ⟨a', mx, rfl, rfl, rfl, hOx, hb0, hb1⟩ := hI
      have ova : va.oneCell' = true := (hOa.rd (h := h) (ms := [ma]) (List.Mem.head _)).rd.one
      have hAl : A.length = k := by
       have h1 := congrArg List.length hAc
       rw [List.length_map, List.length_take, x.core_len] at h1; omega
      refine Ad (Qf BQ rfl (Ql rfl underlying28 (Cell.blk 3 (k := 2) rfl rfl) (Qm rfl (Qx (oG rfl underlying42 AI (Seg.any hS10)) rfl ?_))))
      refine Qx (AT Pa [.bool false, .int .i64 0, .int .i64 0, .int .i64 0, .slice none 0 0] [(0, _), (1, _)] [_, _, _, _, _] rfl Cr rfl rfl (by repeat (first | exact trivial | refine ⟨⟨rfl, rfl, rfl⟩, ?_⟩)) rfl) rfl ?_
      refine AB [_, _, _, _, _] rfl underlying28 Cr rfl (by rfl) rfl rfl (by omega) rfl rfl rfl (fun g146 => ?_)
      refine Ba 2 hOa (RdL.one Fm (x := ⟨x.bk k, x.mat k, xe⟩) (List.Mem.head _) rfl) rfl underlying28 Cr rfl (by omega) rfl rfl rfl (Kc ox) (by simp only [List.length_singleton]; omega) (by simp only [List.length_singleton]; omega) rfl rfl rfl (fun va2 ma2 hOa2 => ?_)
      have ova2 : va2.oneCell' = true := (hOa2.rd (h := h) (ms := [ma2]) (List.Mem.head _)).rd.one
      refine Qf BQ rfl ?_
      refine AK 4 _ rfl Tm rfl rfl (by assumption) rfl rfl (by (simp; done)) rfl rfl ?_
      refine Ak (Aj (Ab (Ad (Qm rfl (Qx (oA rfl) rfl (Qm rfl (Ak (A5 (CF (ms' := [mB, mx, ma2, AX g3 30 [.int .i64 x.P, vo, va2], md, AX g2 30 [.int .i64 0, .slice none 0 0, .slice none 0 0]]) (K5 _ _ _ |>.trans (List.Perm.refl _) |> fun p => (p.append_right [AX g3 30 [.int .i64 x.P, vo, va2], md, AX g2 30 [.int .i64 0, .slice none 0 0, .slice none 0 0]])) (Ck fun hap => ?_))))))))))
      have hd12 : mB.disj mx := (List.pairwise_cons.1 hap).1 _ List.mem_cons_self
      refine Cq (A9 ?_)
      refine Al (x.dims.length - (k + 1)) _ (by omega) ⟨k + 1, a', va2, ma2, mB.join mx, A ++ [⟨x.bk k, x.mat k, xe⟩], rfl, rfl, Hp.le_trans lh l5, rfl, by omega, hOa2, ?_, hB.snoc hOx hd12, hb0, hb1⟩ Qs
      rw [List.map_append, hAc, Pl.core, ← List.map_take, ← List.map_take, List.take_range, List.take_range, show min (k + 1) (x.dims.length - 1) = min k (x.dims.length - 1) + 1 by omega, List.range_succ, List.map_append, show min k (x.dims.length - 1) = k by omega]
      rfl
   ·have hke : k = x.core.length := by rw [x.core_len]; omega
    rw [hke, List.take_length] at hAc
    have ovo : vo.oneCell' = true := (hO.rd (h := h) (ms := [md]) (List.Mem.head _)).rd.one
    have ova : va.oneCell' = true := (hOa.rd (h := h) (ms := [ma]) (List.Mem.head _)).rd.one
    refine Aw (Aa (Aa (Af (Ab (Ax (Qx (oG rfl underlying30 Bz (Seg.blk 2 rfl)) rfl ?_))))))
    refine Sa 4 [_, _, _] Bz rfl (by simp [ovo, ova]) ?_
    refine Aq (Ao (AP 2 rfl (CF (ms' := [ma, md, mB, AX g2 30 [.int .i64 x.P, vo, va]]) (List.Perm.cons _ (List.Perm.swap _ _ _)) ?_)))
    exact Cl (vs := [_, _, _]) 3 rfl rfl underlying30 rfl Bz rfl rfl (⟨Hp.le_trans l1 (Hp.le_trans l2 lh), vo, va, md, ma, mB, A, rfl, rfl, hO, hOa, hAc, hB⟩)
end Go.Proofs.YtdnelknieikbaaaGreat
namespace Go.Proofs.YtdnelknieikbaaaGreat
open Go.Eng Go.ChangeShapes Go.WideShapes Go.ChangeAt Go.RowKit Go.Deep
theorem own : ownKnob Tryz.prog.godebug = none := by kernel_rfl
theorem Kw {w w' : World} (E : Ext w w') : Below w.heap.size w w' := ⟨E.os, E.tape.tape, E.output, E.size, E.block⟩
theorem Ih : laidOutB Tryz.prog = true := by kernel_rfl
section
variable {H : Type} {enc : TypeId × Value → H} {w : World} {base : Nat} {spare : Nat → Bool} {held : Bool}
theorem Kn {P : Program} {t : TypeId} {f0 f1 f2 f3 f4 : Field} {fuel : Nat} {cs : List Value} {x : DataW H × List MemPlace} (ht : P.underlying t = some (.struct #[f0, f1, f2, f3, f4])) (h : DataW.trod enc P w base spare held fuel t cs = some x) :
  ∃ y0 y1 y2 y3 y4 n, cs.length = P.cellsOf t ∧ DataW.trod enc P w base spare held n f0.type ((cs.drop f0.offset).take (P.cellsOf f0.type)) = some y0 ∧
   DataW.trod enc P w base spare held n f1.type ((cs.drop f1.offset).take (P.cellsOf f1.type)) = some y1 ∧ DataW.trod enc P w base spare held n f2.type ((cs.drop f2.offset).take (P.cellsOf f2.type)) = some y2 ∧
   DataW.trod enc P w base spare held n f3.type ((cs.drop f3.offset).take (P.cellsOf f3.type)) = some y3 ∧ DataW.trod enc P w base spare held n f4.type ((cs.drop f4.offset).take (P.cellsOf f4.type)) = some y4 := by
 obtain ⟨xs, n, _, rfl, hl, hlen, hf⟩ := DataW.trod_struct ht h
 match xs, hlen with
 | [y0, y1, y2, y3, y4], _ => exact ⟨y0, y1, y2, y3, y4, n, hl, by simpa using hf 0 f0 rfl, by simpa using hf 1 f1 rfl, by simpa using hf 2 f2 rfl, by simpa using hf 3 f3 rfl, by simpa using hf 4 f4 rfl⟩
theorem O6 (n : Nat) (cs : List Value) (y : DataW H × List MemPlace) (h : DataW.trod enc Tryz.prog w base spare held n 3 cs = some y) : ∃ a, cs = cI a ∧ Dh a := by
 obtain ⟨b, h1, _, h2⟩ := DataW.trod_int Tryz.underlying3 h
 exact ⟨b, h1, bounds_i64 h2⟩
theorem IP (n : Nat) (cs : List Value) (y : DataW H × List MemPlace) (h : DataW.trod enc Tryz.prog w base spare held n 5 cs = some y) : ∃ a, cs = cB a ∧ a < 256 := by
 obtain ⟨b, h1, _, h2⟩ := DataW.trod_int Tryz.underlying5 h
 have := bounds_u8 h2
 refine ⟨b.toNat, ?_, by omega⟩
 unfold cB
 rw [h1, Int.toNat_of_nonneg this.1]
theorem Tg {v : Value} {fuel : Nat} {x : DataW H × List MemPlace} (h : DataW.trod enc Tryz.prog w base spare held fuel 24 [v] = some x) : ∃ l, RdL cI 1 (whole w) [] v l ∧ ∀ a ∈ l, Dh a :=
 Lk Tryz.underlying24 (by kernel_rfl) Br (by decide) O6 h
theorem Th {v : Value} {fuel : Nat} {x : DataW H × List MemPlace} (h : DataW.trod enc Tryz.prog w base spare held fuel 22 [v] = some x) : ∃ l, RdL cB 1 (whole w) [] v l ∧ ∀ a ∈ l, a < 256 :=
 Lk Tryz.underlying22 (by kernel_rfl) R1 (by decide) IP h
theorem Gc {v : Value} {r : Reach} {b0 : Nat} {d : DataW H} {ps : List MemPlace} (hval : Value.okWide Tryz.prog w r b0 26 v) (h : DataW.Trod enc Tryz.prog w base spare held 26 v d ps) : ∃ (x : Pl) (vd vs : Value), v = .agg #[.int .u8 x.p, vd, .int .u16 x.back, vs, .bool x.thin] ∧ RdP (whole w) vd vs x ∧ x.Ok := by
 obtain ⟨cs, rfl, hc⟩ := okWide_struct Tryz.underlying26 hval
 obtain ⟨fuel, hf⟩ := h
 obtain ⟨y0, y1, y2, y3, y4, n, h0, h1, h2, h3, h4, h5⟩ := Kn Tryz.underlying26 hf
 have hc5 : cs.size = 5 := hc.trans (by kernel_rfl)
 obtain ⟨l⟩ := cs
 match l, hc5 with
 | [c0, c1, c2, c3, c4], _ =>
  have h1 : DataW.trod enc Tryz.prog w base spare held n 5 [c0] = some y0 := h1
  have h2 : DataW.trod enc Tryz.prog w base spare held n 22 [c1] = some y1 := h2
  have h3 : DataW.trod enc Tryz.prog w base spare held n 23 [c2] = some y2 := h3
  have h4 : DataW.trod enc Tryz.prog w base spare held n 24 [c3] = some y3 := h4
  have h5 : DataW.trod enc Tryz.prog w base spare held n 4 [c4] = some y4 := h5
  obtain ⟨p, e0, w0⟩ := IP n _ _ h1
  obtain ⟨ds, Rd, wd⟩ := Th h2
  obtain ⟨b, e2, _, w2⟩ := DataW.trod_int Tryz.underlying23 h3
  obtain ⟨sd, Rs, ws⟩ := Tg h4
  obtain ⟨th, e4, _⟩ := DataW.trod_bool Tryz.underlying4 h5
  have hb := bounds_u16 w2
  simp only [cB, List.cons.injEq, and_true] at e0 e2 e4
  subst e0 e2 e4
  refine ⟨⟨p, ds, b.toNat, sd, th⟩, c1, c3, ?_, ⟨Rd, Rs⟩, w0, wd, ?_, ws, Rs.len_le⟩
  ·show Value.agg #[.int .u8 p, c1, .int .u16 b, c3, .bool th] = Value.agg #[.int .u8 p, c1, .int .u16 ((b.toNat : Nat) : Int), c3, .bool th]
   rw [Int.toNat_of_nonneg hb.1]
  ·show b.toNat < 65536
   omega
end
end Go.Proofs.YtdnelknieikbaaaGreat
