/- Parts of the proof: Lo Xn Xo Xp Vg Vh Vi Vj Vk Va Vb Vl Vm. -/
import Derived.Test.YtdnelknieikbaaaGreatTJ
set_option linter.unusedSimpArgs false
set_option linter.unusedVariables false
namespace Go.Lin
theorem QN {Z Z' : Zg} {D : Dc} (V : Valid Z D) (hp : Z'.p = Z.p) (hn : Z'.n = Z.n) (hd : ∀ k, k < Z.n → Z'.d k = Z.d k) (hb : ∀ k, k + 1 < Z.n → Z'.back k = Z.back k) (hm : ∀ k, k + 1 < Z.n → ∀ i, i < Z.d (Z.tgt k) → ∀ j, j < Z.d (Z.src k) → Z'.mat k i j = Z.mat k i j) : Valid Z' D := by
  refine ⟨fun l hl => ?_, fun k hk => ?_, fun k hk => ?_, fun k hk l hl ho i hi => ?_⟩
  · rw [hn]; exact V.ends l hl
  · rw [hn] at hk; rw [hp, hd k hk]; exact V.ind k hk
  · rw [hn] at hk; rw [hd k hk]; exact V.cnt k hk
  · rw [hn] at hk
    have e : Z'.src k = Z.src k ∧ Z'.tgt k = Z.tgt k := by unfold Zg.src Zg.tgt; rw [hb k hk]; exact ⟨rfl, rfl⟩
    have hs : Z.src k < Z.n ∧ Z.tgt k < Z.n := by rcases Z.src_tgt k with ⟨e1, e2, _⟩ | ⟨e1, e2, _⟩ <;> omega
    rw [e.1] at ho
    rw [e.2, hd _ hs.2] at hi
    rw [e.1, e.2, hd _ hs.1, hp]
    refine Cg.trans (Cg.of_eq (AE fun j hj => ?_)) (V.arr k hk l hl ho i hi)
    rw [hm k hk i hi j hj]
end Go.Lin
set_option maxRecDepth 100000
set_option maxHeartbeats 2000000
namespace Go.Proofs.YtdnelknieikbaaaGreat
open Go.Proofs.Tryz
open Go.Eng Go.RowKit Go.Lin Go.Sort Go.Srt
def Zz.Same (Z Z' : Zz) : Prop := Z.p = Z'.p ∧ Z.dims = Z'.dims ∧ Z.ars.map Ar.core = Z'.ars.map Ar.core
theorem PA {l l' : List Ar} {k : Nat} (hk : k < l.length) (hk' : k < l'.length) (he : (l.take k).map Ar.core = (l'.take k).map Ar.core) (h1 : l[k].b = l'[k].b) (h2 : l[k].M = l'[k].M) : (l.take (k + 1)).map Ar.core = (l'.take (k + 1)).map Ar.core := by
 rw [List.take_succ_eq_append_getElem hk, List.take_succ_eq_append_getElem hk', List.map_append, List.map_append, he]
 show _ ++ [(l[k].b, l[k].M)] = _ ++ [(l'[k].b, l'[k].M)]
 rw [h1, h2]
theorem Oz (Z Z' : Zz) (vd va vd' va' : Value) (h : Hp) (hR : RdZ h vd va Z) (hR' : RdZ h vd' va' Z') (ms : List Hp) : Dq Tryz.prog 27 #[.agg #[.int .i64 Z.p, vd, va], .agg #[.int .i64 Z'.p, vd', va']] h ms (.bool (bl (Z.Same Z'))) := by
 refine Ds ?_ ms
 have o1 := hR.d.rd.one
 have o2 := hR.a.rd.one
 have o3 := hR'.d.rd.one
 have o4 := hR'.a.rd.one
 refine Av func27 ntmps27 rfl rfl (fun w0 hw0 => ?_)
 simp only [A4]
 refine Ax ?_
 refine AS [_, _, _] rfl rfl (by rfl) rfl rfl rfl (fun g2 => ?_)
 refine AS [_, _, _] rfl rfl (by rfl) rfl rfl rfl (fun g3 => ?_)
 refine Qm rfl (Aq (AL fun h1 l1 hS3 => (AL fun h2 l2 hS2 => ?_)))
 have hS3 := hS3.le l2
 have hR := hR.up (Hp.le_trans l1 l2)
 have hR' := hR'.up (Hp.le_trans l1 l2)
 have hA := Seg.all hS2
 have hA0 := hA 0 _ rfl
 have hB := Seg.all hS3
 have hB0 := hB 0 _ rfl
 have hl := hR.a.len_le
 refine Ax (Qf Bn rfl (Ql rfl underlying24 (hA _ _ rfl _) (Qf Bn rfl (Ql rfl underlying24 (hB _ _ rfl _) (Qx (AG rfl call54 rfl (SA Z.dims Z'.dims vd vd' h2 hR.d hR'.d _)) rfl (Qm rfl (Aq (Ac (Ax (Qf CG rfl (Ql rfl underlying3 (hA0 _) (Qf CG rfl (Ql rfl underlying3 (hB0 _) (Qm rfl (Qm rfl ?_)))))))))))))))
 refine AR (t := 18) rfl (fun hs1 => ?_) (fun hs1 => ?_)
 ·refine Qk rfl (Qk rfl (Qm rfl (Qm rfl (Qk rfl (Qk rfl (Qk rfl (Qk rfl (Qk rfl (Qk rfl (Qk rfl (Qm rfl (Aq (AU rfl (Ax (Qm rfl (Aq (Ao (Ae ?_))))))))))))))))))
  exact Am rfl rfl (by rw [E6]; exact fun e => hs1 e.1)
 ·refine Qg (As rfl rfl) rfl (Qg (CP rfl rfl) rfl (Qm rfl (Qm rfl ?_)))
  refine CO (t := 22) rfl (fun hs2 => ?_) (fun hs2 => ?_)
  ·refine Qk rfl (Qk rfl (Qk rfl (Qk rfl (Qk rfl (Qk rfl (Qk rfl (Qm rfl (Aq (AU rfl (Ax (Qm rfl (Aq (Ao (Ae ?_))))))))))))))
   exact Am rfl rfl (by rw [E6]; intro e; rw [decide_eq_true e.2.1] at hs2; simp at hs2)
  ·have hs2 : Z.dims = Z'.dims := of_decide_eq_true (by simpa only [Bool.not_eq_false'] using hs2)
   refine Qg (oF BQ rfl) rfl (Qg (oL rfl underlying28 (hA _ _ rfl _)) rfl (Qg (AJ hR.a.rd.any rfl underlying28 rfl) rfl (Qg (oF BQ rfl) rfl (Qg (oL rfl underlying28 (hB _ _ rfl _)) rfl (Qg (AJ hR'.a.rd.any rfl underlying28 rfl) rfl (Qg (B4 rfl rfl rfl) rfl (Qm rfl (Aq ?_))))))))
   refine AF rfl (fun hs3 => ?_) (fun hs3 => ?_)
   ·refine Ac (Ad (Qm rfl (Aq (Ao (Ae ?_)))))
    exact Am rfl rfl (by rw [E6]; intro e; have := congrArg List.length e.2.2; rw [List.length_map, List.length_map] at this; exact hs3 (by rw [this]))
   ·have hlen : Z.ars.length = Z'.ars.length := by omega
    refine Ai (Ab (Ac (Ax (Qm rfl (Aq (Ag ?_))))))
    refine AD (fun q sl hh ms' => ∃ (k : Nat), q = Z.ars.length - k ∧ sl = [(2, .pointer (some ⟨g2, 0, none⟩)), (3, .pointer (some ⟨g3, 0, none⟩)), (6, .int .i64 k)] ∧ h2 = hh ∧ ms' = [] ∧ k ≤ Z.ars.length ∧ (Z.ars.take k).map Ar.core = (Z'.ars.take k).map Ar.core)
     (Z.ars.length - 0) _ ⟨0, rfl, rfl, rfl, rfl, by omega, rfl⟩ Qs ?_
    rintro q sl hh ms' ⟨k, rfl, rfl, rfl, rfl, hk, he⟩
    refine Ac (Ax (Qm rfl (Qf BQ rfl (Ql rfl underlying28 (hA _ _ rfl _) (Qx (AJ hR.a.rd.any rfl underlying28 rfl) rfl (Qm rfl (Aq ?_)))))))
    refine AF rfl (fun hlt => ?_) (fun hlt => ?_)
    ·have hka : k < Z.ars.length := Bx hlt
     have hkb : k < Z'.ars.length := by omega
     have hsv := UA Z.ars[k].M Z'.ars[k].M Z.ars[k].v Z'.ars[k].v h2 (hR.e _ (List.getElem_mem hka)) (hR'.e _ (List.getElem_mem hkb))
     refine Ai (Ab (Ac (Ag (Ac (BB 12 Cd (by kernel_rfl) rfl (Wf BQ rfl (Wl rfl underlying28 (hA _ _ rfl _) (Wm rfl (AV (Ah (k) hR.a.rd.any rfl underlying28 Cr rfl rfl (by omega) (by omega)) rfl rfl (Wf Ca rfl (AV (oG rfl underlying42 AI (FQ hR hka)) rfl rfl (Wf BQ rfl (Wl rfl underlying28 (hB _ _ rfl _) (Wm rfl (AV (Ah (k) hR'.a.rd.any rfl underlying28 Cr rfl rfl (by omega) (by omega)) rfl rfl (Wf Ca rfl (AV (oG rfl underlying42 AI (FQ hR' hkb)) rfl rfl (BC (Qx (AG rfl call55 rfl (hsv _)) rfl (Qm rfl (Aq (Ac (BB 12 Cd (by kernel_rfl) rfl (Wf BQ rfl (Wl rfl underlying28 (hA _ _ rfl _) (Wm rfl (AV (Ah (k) hR.a.rd.any rfl underlying28 Cr rfl rfl (by omega) (by omega)) rfl rfl (Wf EK rfl (Wl rfl underlying4 (hR.a.any.cell hka rfl) (Wf BQ rfl (Wl rfl underlying28 (hB _ _ rfl _) (Wm rfl (AV (Ah (k) hR'.a.rd.any rfl underlying28 Cr rfl rfl (by omega) (by omega)) rfl rfl (Wf EK rfl (Wl rfl underlying4 (hR'.a.any.cell hkb rfl) (BC (Qx (UQ rfl underlying4 rfl rfl) rfl (Qm rfl ?_))))))))))))))))))))))))))))))))))))))
     refine CO (t := 64) rfl (fun hs4 => ?_) (fun hs4 => ?_)
     ·refine Qk rfl (Qk rfl (Qm rfl (Aq (AU rfl (Ax (Qm rfl (Aq (Ao (Ap (Ae (Ae (Ap (Ae ?_)))))))))))))
      exact Am rfl rfl (by rw [E6]; intro e; have h1 := congrArg (fun l => l[k]?) e.2.2; simp only [List.getElem?_map, List.getElem?_eq_getElem hka, List.getElem?_eq_getElem hkb, Option.map_some, Option.some.injEq] at h1; have h2 : Z.ars[k].b = Z'.ars[k].b := congrArg Prod.fst h1; rw [h2] at hs4; simp at hs4)
     ·have hs4 : Z.ars[k].b = Z'.ars[k].b := by simpa using hs4
      refine Qg (As rfl rfl) rfl (Qg (CP rfl rfl) rfl (Qm rfl (Aq ?_)))
      refine BJ rfl (fun hs5 => ?_) (fun hs5 => ?_)
      ·refine Ac (Ad (Qm rfl (Aq (Ao (Ap (Ae (Ae (Ap (Ae ?_)))))))))
       exact Am rfl rfl (by rw [E6]; intro e; have h1 := congrArg (fun l => l[k]?) e.2.2; simp only [List.getElem?_map, List.getElem?_eq_getElem hka, List.getElem?_eq_getElem hkb, Option.map_some, Option.some.injEq] at h1; have h2 : Z.ars[k].M = Z'.ars[k].M := congrArg Prod.snd h1; rw [decide_eq_true h2] at hs5; simp at hs5)
      ·have hs5 : Z.ars[k].M = Z'.ars[k].M := of_decide_eq_true (by simpa only [Bool.not_eq_false'] using hs5)
       refine Ai (Aj (Ab (Ad (Qm rfl (Qx (oA rfl) rfl (Qm rfl (Ak ?_)))))))
       refine Al (Z.ars.length - (k + 1)) _ (by omega) ⟨k + 1, rfl, rfl, rfl, rfl, by omega, PA hka hkb he hs4 hs5⟩ Qs
    ·obtain rfl : k = Z.ars.length := by omega
     rw [List.take_length, hlen, List.take_length] at he
     refine Aw (Aa (Aa (Af (Ab (Ax (Qm rfl (Aq (Ao ?_))))))))
     exact Am rfl rfl (by rw [Jf]; exact ⟨Decidable.not_not.1 hs1, hs2, he⟩)
end Go.Proofs.YtdnelknieikbaaaGreat
namespace Go.Proofs.YtdnelknieikbaaaGreat
open Go.Eng Go.RowKit Go.Lin Go.Sort Go.Srt
def Ar.flip (a : Ar) : Ar := ⟨!a.b, a.M, a.v⟩
def Zz.rev (Z : Zz) : Zz := ⟨Z.p, Z.dims.reverse, Z.ars.reverse.map Ar.flip⟩
theorem Zz.rev_dim {Z : Zz} {k : Nat} (hk : k < Z.dims.length) : Z.rev.dim k = Z.dim (Z.dims.length - 1 - k) := by
 unfold Zz.dim Zz.rev
 simp only [List.getD_eq_getElem?_getD, List.getElem?_reverse hk]
theorem Zz.rev_ar {Z : Zz} {k : Nat} (hk : k < Z.ars.length) : Z.rev.ars[k]? = (Z.ars[Z.ars.length - 1 - k]?).map Ar.flip := by
 unfold Zz.rev
 simp only [List.getElem?_map, List.getElem?_reverse hk]
theorem Zz.rev_rt {Z : Zz} (hR : Z.Rt) : Z.rev.Rt := by
 have hn := Z.nars hR
 have l1 : Z.rev.dims.length = Z.dims.length := by show (Z.dims.reverse).length = _; simp
 have l2 : Z.rev.ars.length = Z.ars.length := by show (Z.ars.reverse.map _).length = _; simp
 refine ⟨by rw [l1]; exact hR.1, by rw [l1]; exact hR.2.1, by rw [l1, l2]; exact hR.2.2.1, hR.2.2.2.1, fun x hx => hR.2.2.2.2.1 x (List.mem_reverse.1 hx), fun k hk => ?_⟩
 have hk' : k < Z.ars.length := by omega
 have e := Z.rev_ar hk'
 rw [List.getElem?_eq_getElem hk, List.getElem?_eq_getElem (show Z.ars.length - 1 - k < Z.ars.length by omega), Option.map_some] at e
 have e := Option.some.inj e
 rw [e]
 obtain ⟨q1, q2, q3, q4⟩ := hR.2.2.2.2.2 (Z.ars.length - 1 - k) (by omega)
 generalize hA : Z.ars[Z.ars.length - 1 - k]'(by omega) = a at *
 refine ⟨q1, q2, q3.trans ?_, q4.trans ?_⟩
 ·unfold Ar.src Ar.flip
  cases a.b
  ·simp only [Bool.false_eq_true, if_false, Bool.not_false, if_true]
   rw [Z.rev_dim (by omega)]
   congr 1; omega
  ·simp only [if_true, Bool.not_true, Bool.false_eq_true, if_false]
   rw [Z.rev_dim (by omega)]
   congr 1; omega
 ·unfold Ar.tgt Ar.flip
  cases a.b
  ·simp only [Bool.false_eq_true, if_false, Bool.not_false, if_true]
   rw [Z.rev_dim (by omega)]
   congr 1; omega
  ·simp only [if_true, Bool.not_true, Bool.false_eq_true, if_false]
   rw [Z.rev_dim (by omega)]
   congr 1; omega
theorem Zz.rev_valid {Z : Zz} (hR : Z.Rt) {D : Dc} (V : Valid Z.zg D) : Valid Z.rev.zg (D.rev Z.dims.length) := by
 have hn := Z.nars hR
 have har : ∀ k, k < Z.ars.length → Z.rev.zg.back k = (!Z.zg.back (Z.dims.length - 2 - k)) ∧ Z.rev.zg.mat k = Z.zg.mat (Z.dims.length - 2 - k) := fun k hk => by
  have e := Z.rev_ar hk
  have h1 : Z.dims.length - 2 - k < Z.ars.length := by omega
  rw [show Z.ars.length - 1 - k = Z.dims.length - 2 - k by omega, List.getElem?_eq_getElem h1, Option.map_some] at e
  unfold Zz.zg
  simp only [e, List.getElem?_eq_getElem h1]
  exact ⟨rfl, rfl⟩
 refine QN (VB V) rfl ?_ (fun k hk => ?_) (fun k hk => ?_) (fun k hk i _ j _ => ?_)
 ·show (Z.dims.reverse).length = Z.dims.length
  simp
 ·have hk' : k < Z.dims.length := hk
  show (Z.rev.dim k).toNat = (Z.dim (Z.dims.length - 1 - k)).toNat
  rw [Z.rev_dim hk']
 ·have hk' : k + 1 < Z.dims.length := hk
  exact (har k (by omega)).1
 ·have hk' : k + 1 < Z.dims.length := hk
  rw [(har k (by omega)).2]; rfl
theorem Pp (a : Ar) : a.flip.flip = a := by
 unfold Ar.flip
 rw [Bool.not_not]
theorem Zz.rev_rev (Z : Zz) : Z.rev.rev = Z := by
 unfold Zz.rev
 simp only [List.reverse_reverse, List.map_reverse, List.map_map]
 have : (Ar.flip ∘ Ar.flip) = id := funext fun a => Pp a
 rw [this, List.map_id]
end Go.Proofs.YtdnelknieikbaaaGreat
namespace Go.Proofs.YtdnelknieikbaaaGreat
open Go.Proofs.Tryz
open Go.Eng Go.RowKit Go.Lin Go.Sort Go.Srt
theorem KP {α : Type} {l : List α} {i : Nat} (hi : i < l.length) : l.reverse.take (i + 1) = l.reverse.take i ++ [l[l.length - 1 - i]'(by omega)] := by
 rw [List.take_succ_eq_append_getElem (by rw [List.length_reverse]; exact hi), List.getElem_reverse]
theorem R6 (Z : Zz) (vd va : Value) (h : Hp) (hRt : Z.Rt) (hR : RdZ h vd va Z) : FnT Tryz.prog 28 #[.agg #[.int .i64 Z.p, vd, va]] h [] (fun r h' ms' => h.le h' ∧ ms' = [] ∧ ∃ vd' va', r = .agg #[.int .i64 Z.rev.p, vd', va'] ∧ RdZ h' vd' va' Z.rev) := by
 have o1 := hR.d.rd.one
 have o2 := hR.a.rd.one
 have n1 := hRt.1
 have n2 := hRt.2.1
 have hn := Z.nars hRt
 refine Av func28 ntmps28 rfl rfl (fun w0 hw0 => ?_)
 simp only [A4]
 refine Ax ?_
 refine AS [_, _, _] rfl rfl (by rfl) rfl rfl rfl (fun g1 => ?_)
 refine BZ [.int .i64 0, .slice none 0 0, .slice none 0 0] rfl Bz rfl rfl (fun g2 => B3 (BZ [.int .i64 0, .slice none 0 0, .slice none 0 0] rfl Bz rfl rfl (fun g3 => Aq (By 2 rfl fun h1 l1 hS => ?_))))
 have hR := hR.up l1
 have hA := Seg.all hS
 have hA0 := hA 0 _ rfl
 refine Ax (Qx (oG rfl underlying30 Bz (Seg.any hS)) rfl (Qx (AG rfl call22 rfl (Ds (Ff Z vd va _ hRt.ok hR) _)) rfl (Qm rfl (Aq (Ac (Ax (Qm rfl (Qm rfl (Aq ?_)))))))))
 refine BJ rfl (fun hb => ?_) (fun hb => ?_)
 ·exact absurd hRt (by simpa using hb)
 ·refine Ai (Ab (Ax (Qf CG rfl (Ql rfl underlying3 (hA0 _) (Qf CG rfl ?_)))))
  refine AK 0 _ rfl A8 rfl rfl (by rfl) rfl rfl (by decide) rfl rfl ?_
  refine Aq (Ac (Ax (Qf Bn rfl (Ql rfl underlying24 (hA _ _ rfl _) (Qx (AJ hR.d.rd.any rfl underlying24 rfl) rfl (Qx (oS rfl) rfl (Qm rfl (Aq (Ag (BX (Cu 1 rfl ?_)))))))))))
  refine AD (fun q sl hh ms' => ∃ (i : Nat) (vo : Value) (md : Hp), q = Z.dims.length - i ∧ sl = [(1, .pointer (some ⟨g1, 0, none⟩)), (2, .pointer (some ⟨g2, 0, none⟩)), (3, .pointer (some ⟨g3, 0, none⟩)), (5, .int .i64 ((Z.dims.length : Int) - 1 - i))] ∧ h1 = hh ∧ ms' = [AX g3 30 [.int .i64 Z.p, vo, .slice none 0 0], md, AX g2 30 [.int .i64 0, .slice none 0 0, .slice none 0 0]] ∧ i ≤ Z.dims.length ∧ OwnL cI 1 3 md vo (Z.dims.reverse.take i))
   (Z.dims.length - 0) _ ⟨0, _, _, rfl, by rw [show ((0 : Nat) : Int) = 0 from rfl, Int.sub_zero], rfl, rfl, by omega, OwnL.nil Br⟩ Qs ?_
  rintro q sl hh ms' ⟨i, vo, md, rfl, rfl, rfl, rfl, hi, hO⟩
  have olen : (Z.dims.reverse.take i).length ≤ 100 := by rw [List.length_take, List.length_reverse]; omega
  refine Ac (Ax (Qm rfl (Qm rfl (Aq ?_))))
  refine AF rfl (fun hlt => ?_) (fun hlt => ?_)
  ·have hil : i < Z.dims.length := by omega
   have hj : Z.dims.length - 1 - i < Z.dims.length := by omega
   refine Ai (Ab (Ac (Ag (BB 8 Cd (by kernel_rfl) rfl (Wf Bn rfl (Wl rfl underlying24 (Cell.blk 0 rfl rfl) (Wf Bn rfl (Wl rfl underlying24 (hA _ _ rfl _) (Wm rfl (AV (Ah (Z.dims.length - 1 - i) hR.d.rd.any rfl underlying24 A8 rfl rfl (by omega) (by omega)) rfl rfl (Wl rfl underlying3 (hR.d.any.cell0 hj rfl) ?_)))))))))))
   refine U9 (DX [_] rfl underlying24 A8 rfl (by rfl) rfl rfl (by omega)) rfl rfl ?_
   refine Ko (fun g30 => ?_)
   refine Bm 2 hO (RdL.one Br (x := Z.dims[Z.dims.length - 1 - i]) (List.Mem.head _) rfl) rfl underlying24 A8 rfl (by omega) rfl rfl rfl Cv (by simp only [List.length_singleton]; omega) (by simp only [List.length_singleton]; omega) rfl rfl rfl (fun vo2 md2 hO2 => ?_)
   have ov2 : vo2.oneCell' = true := (hO2.rd (h := h) (ms := [md2]) (List.Mem.head _)).rd.one
   refine Qf Bn rfl ?_
   refine AK 1 _ rfl BN rfl rfl (by assumption) rfl rfl (by (simp; done)) rfl rfl ?_
   refine Ak (Aj (Ab (Ad (Qm rfl (Qx (oS rfl) rfl (Qm rfl (Ak (A5 ?_))))))))
   refine Al (Z.dims.length - (i + 1)) _ (by omega) ⟨i + 1, vo2, md2, rfl, by rw [show (Z.dims.length : Int) - 1 - ((i + 1 : Nat) : Int) = (Z.dims.length : Int) - 1 - i - 1 by omega], rfl, rfl, by omega, by rw [KP hil]; exact hO2⟩ Qs
  ·obtain rfl : i = Z.dims.length := by omega
   have ovo : vo.oneCell' = true := (hO.rd (h := h) (ms := [md]) (List.Mem.head _)).rd.one
   rw [List.take_of_length_le (by rw [List.length_reverse]; exact Nat.le_refl _)] at hO
   refine Aw (Aa (Aa (Af (Ab (Ac (Ax (Qf BQ rfl (Ql rfl underlying28 (hA _ _ rfl _) (Qx (AJ hR.a.rd.any rfl underlying28 rfl) rfl (Qx (oS rfl) rfl (Qm rfl (Aq (Ag (BX ?_))))))))))))))
   refine AD (fun q sl hh ms' => ∃ (i : Nat) (va' : Value) (ma : Hp), q = Z.ars.length - i ∧ sl = [(1, .pointer (some ⟨g1, 0, none⟩)), (2, .pointer (some ⟨g2, 0, none⟩)), (3, .pointer (some ⟨g3, 0, none⟩)), (6, .int .i64 ((Z.ars.length : Int) - 1 - i))] ∧ h1 = hh ∧ ms' = [ma, AX g3 30 [.int .i64 Z.p, vo, va'], md, AX g2 30 [.int .i64 0, .slice none 0 0, .slice none 0 0]] ∧ i ≤ Z.ars.length ∧ OwnL cA 5 45 ma va' ((Z.ars.reverse.take i).map Ar.flip))
    (Z.ars.length - 0) _ ⟨0, _, _, rfl, by rw [show ((0 : Nat) : Int) = 0 from rfl, Int.sub_zero], rfl, rfl, by omega, OwnL.nil Fm⟩ Qs ?_
   rintro q sl hh ms' ⟨i, va', ma, rfl, rfl, rfl, rfl, hi, hOa⟩
   have olen : ((Z.ars.reverse.take i).map Ar.flip).length ≤ 100 := by rw [List.length_map, List.length_take, List.length_reverse]; omega
   have ova : va'.oneCell' = true := (hOa.rd (h := h) (ms := [ma]) (List.Mem.head _)).rd.one
   refine Ac (Ax (Qm rfl (Qm rfl (Aq ?_))))
   refine AF rfl (fun hlt2 => ?_) (fun hlt2 => ?_)
   ·have hil : i < Z.ars.length := by omega
    have hj : Z.ars.length - 1 - i < Z.ars.length := by omega
    have oe := (hR.e _ (List.getElem_mem hj)).rd.one
    refine Ai (Ab (Ac (Ag (BB 17 Cd (by kernel_rfl) rfl (Wf BQ rfl (Wl rfl underlying28 (Cell.blk 1 rfl rfl) (Wf BQ rfl (Wl rfl underlying28 (hA _ _ rfl _) (Wm rfl (AV (Ah (Z.ars.length - 1 - i) hR.a.rd.any rfl underlying28 Cr rfl rfl (by omega) (by omega)) rfl rfl (Wf EK rfl (Wl rfl underlying4 (hR.a.any.cell hj rfl) (Wm rfl (Wf BQ rfl (Wl rfl underlying28 (hA _ _ rfl _) (Wm rfl (AV (Ah (Z.ars.length - 1 - i) hR.a.rd.any rfl underlying28 Cr rfl rfl (by omega) (by omega)) rfl rfl (Wf Ca rfl (AV (oG rfl underlying42 AI (FQ hR hj)) rfl rfl ?_)))))))))))))))))))
    refine AV (AT Pa [.bool false, .int .i64 0, .int .i64 0, .int .i64 0, .slice none 0 0] [(0, _), (1, _)] [_, _, _, _, _] rfl Cr rfl rfl (by repeat (first | exact trivial | refine ⟨⟨rfl, rfl, rfl⟩, ?_⟩)) rfl) rfl rfl ?_
    refine U9 (DX [_, _, _, _, _] rfl underlying28 Cr rfl (by rfl) rfl rfl (by omega)) rfl rfl ?_
    refine Ko (fun g57 => ?_)
    refine Ba 1 hOa (RdL.one Fm (x := (Z.ars[Z.ars.length - 1 - i]).flip) (List.Mem.head _) rfl) rfl underlying28 Cr rfl (by omega) rfl rfl rfl (Kc oe) (by simp only [List.length_singleton]; omega) (by simp only [List.length_singleton]; omega) rfl rfl rfl (fun va2 ma2 hOa2 => ?_)
    have ova2 : va2.oneCell' = true := (hOa2.rd (h := h) (ms := [ma2]) (List.Mem.head _)).rd.one
    refine Qf BQ rfl ?_
    refine AK 2 _ rfl Tm rfl rfl (by assumption) rfl rfl (by (simp; done)) rfl rfl ?_
    refine Ak (Aj (Ab (Ad (Qm rfl (Qx (oS rfl) rfl (Qm rfl (Ak (A5 ?_))))))))
    refine Al (Z.ars.length - (i + 1)) _ (by omega) ⟨i + 1, va2, ma2, rfl, by rw [show (Z.ars.length : Int) - 1 - ((i + 1 : Nat) : Int) = (Z.ars.length : Int) - 1 - i - 1 by omega], rfl, rfl, by omega, by rw [KP hil, List.map_append]; exact hOa2⟩ Qs
   ·obtain rfl : i = Z.ars.length := by omega
    rw [List.take_of_length_le (by rw [List.length_reverse]; exact Nat.le_refl _)] at hOa
    refine Bg hOa fun h3 l3 hRa => (Cu 1 rfl (Bg hO fun h4 l4 hRd => ?_))
    have hE : ∀ a ∈ Z.ars.reverse.map Ar.flip, RdL cI 1 h4 [] a.v a.M.e := fun a ha => by
     obtain ⟨b, hb, rfl⟩ := List.mem_map.1 ha
     exact (hR.e b (List.mem_reverse.1 hb)).up (Hp.le_trans l3 l4)
    refine Aw (Aa (Aa (Af (Ab (Ax (Qx (oG rfl underlying30 Bz (Seg.blk 0 rfl)) rfl ?_))))))
    refine Sa 1 [_, _, _] Bz rfl (by simp [ovo, ova]) ?_
    refine Aq (Ao (AP 0 rfl ?_))
    exact Cl (vs := [_, _, _]) 0 rfl rfl underlying30 rfl Bz rfl rfl (⟨Hp.le_trans l1 (Hp.le_trans l3 l4), rfl, vo, va', rfl, hRd, hRa.up l4, hE⟩)
end Go.Proofs.YtdnelknieikbaaaGreat
namespace Go.Proofs.YtdnelknieikbaaaGreat
open Go.Proofs.Tryz
open Go.Eng Go.RowKit Go.Lin Go.Sort Go.Srt
def Vq (n : Nat) (A : List Ar) (k : Nat) : List Value := [.int .i64 ((n : Int) - 1 - k), .agg (cA (A.getD (n - 1 - k) default)).toArray]
theorem Nx {A : List Ar} {k : Nat} (hk : k < A.length) : A.getD k default = A[k] := by simp [List.getD, hk]
theorem Pv (g n : Nat) (v : Value) (A : List Ar) (h : Hp) (hG : Seg h [] ⟨g, 0, none⟩ [v]) (hR : RdL cA 5 h [] v A) (hn : A.length = n) (hn2 : n ≤ 1000000) : Wh Tryz.prog 85 [.pointer (some ⟨g, 0, none⟩)] h n (Vq n A) := by
 intro lp X h1 ms hl hY h0
 show FnT _ _ #[.func (.yield lp) #[] #[], .pointer (some ⟨g, 0, none⟩)] _ _ _
 have hG := hG.le hl
 have hR := hR.up hl
 have hRn : ∀ h', h1.le h' → Rd h' [] v 5 n (A.flatMap cA) := fun h' l => by
  have := (hR.up l).rd
  rwa [hn] at this
 refine Av func85 ntmps85 rfl rfl (fun w0 hw0 => ?_)
 simp only [A4]
 refine Ac (B8 (Ct (oL rfl underlying28 ((hG.at0 rfl).any)) rfl rfl rfl (Ct (AJ (hRn _ (Hp.le_refl _)).any rfl underlying28 rfl) rfl rfl rfl (Ct (oS rfl) rfl rfl rfl (Ct (EX rfl rfl) rfl rfl rfl (DD (Ab (Ag ?_))))))))
 refine AD (fun q s hh ms' => ∃ (k : Nat), q = n - k ∧ s = [(0, .func (.yield lp) #[] #[]), (1, .pointer (some ⟨g, 0, none⟩)), (3, .int .i64 ((n : Int) - 1 - k))] ∧ h1.le hh ∧ k ≤ n ∧ X k hh ms')
  (n - 0) [(0, .func (.yield lp) #[] #[]), (1, .pointer (some ⟨g, 0, none⟩)), (3, .int .i64 ((n : Int) - 1))] ⟨0, rfl, by rw [show ((n : Int) - 1 - (0 : Nat)) = (n : Int) - 1 by omega], Hp.le_refl _, by omega, h0⟩ Qs ?_
 rintro q s hh ms' ⟨k, rfl, rfl, lh, hk, hX⟩
 refine Ac (Ac (B8 (Ct (As rfl rfl) rfl rfl rfl (Ct (DU rfl rfl rfl) rfl rfl rfl (DD (Ab ?_))))))
 refine AF rfl (fun hlt => ?_) (fun hlt => ?_)
 ·have hkn : k < n := by omega
  have hG2 := hG.le lh
  have hR2 := hR.up lh
  have hi : n - 1 - k < A.length := by omega
  have hc : ∀ ms, Seg hh ms ((Bl v).add ((n - 1 - k) * 5)) (cA (A.getD (n - 1 - k) default)) := fun ms => by
   rw [Nx hi]; exact (hR2.any (ms := ms)).seg hi
  refine Ai (Ab (Ac (Ag (Ac (B8 (Ct (As rfl rfl) rfl rfl rfl (Ct (As rfl rfl) rfl rfl rfl (Ct (oL rfl underlying28 ((hG2.at0 rfl).any)) rfl rfl rfl (Ct (As rfl rfl) rfl rfl rfl (Ct (Ah (n - 1 - k) (hRn _ lh).any rfl underlying28 Cr rfl rfl (by omega) (by omega)) rfl rfl rfl (Ct (oG rfl underlying45 Cr (hc _)) rfl rfl rfl (IF rfl rfl rfl (hY k hh ms' hkn lh hX) rfl rfl rfl (fun r h2 ms2 l2 hr => ?_)))))))))))))
  obtain ⟨rfl, hX2⟩ := hr
  refine Ct (CP rfl rfl) rfl rfl rfl (DD (Ab (Bb rfl (Ai (Aj (Ab (B8 (Ct (As rfl rfl) rfl rfl rfl (Ct (oS rfl) rfl rfl rfl (Ct (EX rfl rfl) rfl rfl rfl (DD ?_)))))))))))
  refine Al (n - (k + 1)) [(0, .func (.yield lp) #[] #[]), (1, .pointer (some ⟨g, 0, none⟩)), (3, .int .i64 ((n : Int) - 1 - k - 1))] (by omega) ⟨k + 1, rfl, by rw [show ((n : Int) - 1 - k - 1) = (n : Int) - 1 - (k + 1 : Nat) by omega], Hp.le_trans lh l2, by omega, hX2⟩ Qs
 ·obtain rfl : k = n := by omega
  refine Aw (Aa (Aa (Af ?_)))
  exact B6 rfl (hX)
theorem LO (v : Value) (n : Nat) (cs : List Value) (h : Hp) (hR : Rd h [] v 5 n cs) : FnT Tryz.prog 53 #[v] h [] (fun r h' ms' => h = h' ∧ ∃ g, r = .func (.func 85) #[] #[.pointer (some ⟨g, 0, none⟩)] ∧ ms' = [AX g 28 [v]]) := by
 refine Av func53 ntmps53 rfl rfl (fun w0 hw0 => ?_)
 simp only [A4]
 refine Ax (AS [_] rfl rfl (Rd.cells ‹_›) rfl rfl rfl (fun g1 => Qm rfl (B3 (Qx (CE rfl rfl rfl) rfl (Qm rfl (Aq (Ao ?_)))))))
 exact Am rfl rfl (⟨rfl, _, rfl, rfl⟩)
end Go.Proofs.YtdnelknieikbaaaGreat
set_option maxHeartbeats 4000000
namespace Go.Proofs.YtdnelknieikbaaaGreat
open Go.Proofs.Tryz
open Go.Eng Go.RowKit Go.Lin Go.Sort Go.Srt
theorem P8 {g i : Nat} {el : TypeId} {x : Value} {l : List Value} {h : Hp} {ms : List Hp} (hm : ms[i]? = some (AX g el (x :: l))) : Seg h ms ((⟨g, 0, none⟩ : Addr).add 1) l := fun j u hu => by
 rw [A6]
 exact Cell.blk i hm (by rw [Nat.add_comm]; exact hu)
def JT (Z : Zz) (g2 g3 : Nat) (vdo : Value) (md : Hp) (k : Nat) (ms : List Hp) : Prop := ∃ (va : Value) (ma mB : Hp) (A : List Ar), ms = [ma, mB, AX g3 30 [.int .i64 Z.p, vdo, va], md, AX g2 30 [.int .i64 0, .slice none 0 0, .slice none 0 0]] ∧ OwnL cA 5 45 ma va A ∧ A.map Ar.core = (Z.rev.ars.take k).map Ar.core ∧ BagE A mB
theorem Oo {Z : Zz} {k : Nat} (hk : k < Z.ars.length) : Z.rev.ars.take (k + 1) = Z.rev.ars.take k ++ [(Z.ars[Z.ars.length - 1 - k]'(by omega)).flip] := by
 have hl : Z.rev.ars.length = Z.ars.length := by show (Z.ars.reverse.map _).length = _; simp
 rw [List.take_succ_eq_append_getElem (by omega)]
 congr 2
 show (Z.ars.reverse.map Ar.flip)[k]'(by simp; exact hk) = _
 rw [List.getElem_map, List.getElem_reverse]
theorem T8 {Z : Zz} (hR : Z.Rt) {k : Nat} (hk : k < Z.ars.length) : (Z.ars[k]).M.e.length ≤ 1000000 := by
 obtain ⟨q1, q2, q3, q4⟩ := hR.2.2.2.2.2 k hk
 have h1 := Zz.dim_lt hR ((Z.ars[k]).src k)
 have h2 := Zz.dim_lt hR ((Z.ars[k]).tgt k)
 rw [← q3] at h1
 rw [← q4] at h2
 have h3 := q1.2.2.1
 have h4 := Int.mul_le_mul h2.2 h1.2 h1.1 (by decide)
 omega
theorem I2 (l : List Int) : vec l.length (fun i => l.getD i 0) = l := List.ext_getElem (by simp [vec]) fun i h1 h2 => by simp [vec, List.getD, h2]
theorem Td (l : List Int) : vec l.length (fun i => l.getD (l.length - 1 - i) 0) = l.reverse := List.ext_getElem (by simp [vec]) fun i h1 h2 => by
 have h3 : i < l.length := by simpa using h2
 have : l.length - 1 - i < l.length := by omega
 simp [vec, List.getD, this, List.getElem_reverse]
theorem G1 (Z : Zz) (vd va : Value) (h : Hp) (hRt : Z.Rt) (hR : RdZ h vd va Z) : FnT Tryz.prog 26 #[.agg #[.int .i64 Z.p, vd, va]] h [] (fun r h' ms' => h.le h' ∧ ∃ (vdo vao : Value) (md ma mB : Hp) (A : List Ar), ms' = [ma, md, mB] ∧ r = .agg #[.int .i64 Z.p, vdo, vao] ∧ OwnL cI 1 3 md vdo Z.dims.reverse ∧ OwnL cA 5 45 ma vao A ∧ A.map Ar.core = Z.rev.ars.map Ar.core ∧ BagE A mB) := by
 have o1 := hR.d.rd.one
 have o2 := hR.a.rd.one
 have n1 := hRt.1
 have n2 := hRt.2.1
 have hn := Z.nars hRt
 refine Gd func26 ntmps26 rfl rfl (fun w0 hw0 => ?_)
 simp only [A4]
 refine Ax ?_
 refine AS [_, _, _] rfl rfl (by rfl) rfl rfl rfl (fun g1 => ?_)
 refine BZ [.int .i64 0, .slice none 0 0, .slice none 0 0] rfl Bz rfl rfl (fun g2 => Aq (By 1 rfl fun h1 l1 hS => ?_))
 have hR := hR.up l1
 have hA := Seg.all hS
 have hA0 := hA 0 _ rfl
 refine Ac (Ax (Qx (oG rfl underlying30 Bz (Seg.any hS)) rfl (Qx (AG rfl call35 rfl (Ds (FT Z vd va _ hRt.ok hR) _)) rfl (Qm rfl (Aq ?_)))))
 refine BJ rfl (fun hb => ?_) (fun hb => ?_)
 ·exact absurd hRt (by simpa using hb)
 ·refine Ai (Ab ?_)
  refine Bv (fun sl hh ms' => ∃ (g3 : Nat) (vdc : Value) (mc : Hp), sl = [(1, .pointer (some ⟨g1, 0, none⟩)), (2, .pointer (some ⟨g2, 0, none⟩)), (3, .pointer (some ⟨g3, 0, none⟩))] ∧ h1 = hh ∧ ms' = [AX g3 30 [.int .i64 Z.p, vdc, .slice none 0 0], mc, AX g2 30 [.int .i64 0, .slice none 0 0, .slice none 0 0]] ∧ OwnL cI 1 3 mc vdc Z.dims) ?_ (fun s h ms hI => ?_)
  ·refine AW (n := 8) (bs := [true, true, true, true, false, false, false, false]) [true, true, true, true] Cd (by kernel_rfl) (by kernel_rfl) rfl rfl (QF CG rfl (QL rfl underlying3 (hA0 _) (QF Bn rfl (QL rfl underlying24 (hA _ _ rfl _) ?_))))
   unfold CD
   simp only [List.cons_append, List.nil_append]
   refine A2 [4, 6] (by kernel_rfl) rfl ?_
   refine Az rfl ?_ ?_
   ·refine Qc call51 rfl (DS Z.dims vd _ hR.d (by omega)) (fun vdc h2 ms2 l2 hF => ?_)
    obtain ⟨rfl, mc, rfl, hOc⟩ := hF
    have oc : vdc.oneCell' = true := (hOc.rd (h := h1) (ms := [mc]) (List.Mem.head _)).rd.one
    refine Qw ?_
    refine An 5 15 (by kernel_rfl) rfl (Hp.le_refl _) rfl (AT Sr [.int .i64 0, .slice none 0 0, .slice none 0 0] [(0, _), (1, _)] [_, _, _] rfl Bz rfl rfl (by repeat (first | exact trivial | refine ⟨⟨rfl, rfl, rfl⟩, ?_⟩ | refine ⟨⟨((hOc.rd (h := h1) (ms := [mc]) (List.Mem.head _)).rd).cells, rfl, rfl⟩, ?_⟩)) rfl) ?_
    refine Qo 6 rfl (BZ [.int .i64 0, .slice none 0 0, .slice none 0 0] rfl Bz rfl rfl (fun g3 => Qw (Qo 7 rfl ?_)))
    refine Sa 0 [_, _, _] Bz rfl (by simp [o1, o2, oc]) ?_
    refine Qw (Qe ?_)
    exact AA _ ⟨_, vdc, mc, rfl, rfl, rfl, hOc⟩ Qs
   refine Az rfl ?_ ?_
   ·refine BZ [.int .i64 0, .slice none 0 0, .slice none 0 0] rfl Bz rfl rfl (fun g3 => Qw (Qo 4 rfl (Qc call51 rfl (DS Z.dims vd _ hR.d (by omega)) (fun vdc h2 ms2 l2 hF => ?_))))
    obtain ⟨rfl, mc, rfl, hOc⟩ := hF
    have oc : vdc.oneCell' = true := (hOc.rd (h := h1) (ms := [mc]) (List.Mem.head _)).rd.one
    refine Qw ?_
    refine An 5 15 (by kernel_rfl) rfl (Hp.le_refl _) rfl (AT Sr [.int .i64 0, .slice none 0 0, .slice none 0 0] [(0, _), (1, _)] [_, _, _] rfl Bz rfl rfl (by repeat (first | exact trivial | refine ⟨⟨rfl, rfl, rfl⟩, ?_⟩ | refine ⟨⟨((hOc.rd (h := h1) (ms := [mc]) (List.Mem.head _)).rd).cells, rfl, rfl⟩, ?_⟩)) rfl) ?_
    refine Qo 7 rfl ?_
    refine Sa 1 [_, _, _] Bz rfl (by simp [o1, o2, oc]) ?_
    refine Qw (Qe ?_)
    exact A9 (AA _ ⟨_, vdc, mc, rfl, rfl, rfl, hOc⟩ Qs)
   exact A3
  ·obtain ⟨g3, vdc, mc, rfl, rfl, rfl, hOc⟩ := hI
   rw [← I2 Z.dims] at hOc
   refine Ax (Qf Bn rfl (Ql rfl underlying24 (Cell.blk 0 (k := 1) rfl rfl) (Fe (Bs (pre := [mc]) rfl call52 rfl (IY Z.dims.length (fun i => Z.dims.getD i 0) vdc mc h1 (by omega) hOc) rfl rfl rfl rfl (fun x2 h2 ms2 l2 hF => ?_)))))
   obtain ⟨rfl, md, rfl, hOd⟩ := hF
   rw [Td Z.dims] at hOd
   have od : vdc.oneCell' = true := (hOd.rd (h := h1) (ms := [md]) (List.Mem.head _)).rd.one
   refine Aq (Ac (Ax (Qf BQ rfl (Ql rfl underlying28 (hA _ _ rfl _) (Qc call53 rfl (LO va Z.ars.length _ h1 hR.a.rd) (fun vf h10 ms10 l10 hF => ?_))))))
   obtain ⟨rfl, gb, rfl, rfl⟩ := hF
   refine Aq (Ag (AL fun h2 l2 hGb => ?_))
   have hR := hR.up l2
   have hit := Pv gb Z.ars.length va Z.ars h2 hGb hR.a rfl (by omega)
   refine Ea (ms' := [AX g3 30 [.int .i64 Z.p, vdc, .slice none 0 0], md, AX g2 30 [.int .i64 0, .slice none 0 0, .slice none 0 0]]) (List.Perm.swap _ _ _) (BX (BX ?_))
   refine Fk (fun kk hh ms => JT Z g2 g3 vdc md kk ms) (fun kk s1 hh ms => ∃ (hk : Z.ars.length - 1 - kk < Z.ars.length) (g5 : Nat) (ms0 : List Hp), s1 = [(1, .pointer (some ⟨g1, 0, none⟩)), (2, .pointer (some ⟨g2, 0, none⟩)), (3, .pointer (some ⟨g3, 0, none⟩)), (5, .pointer (some ⟨g5, 0, none⟩))] ∧ ms = AX g5 45 (cA (Z.ars[Z.ars.length - 1 - kk])) :: ms0 ∧ JT Z g2 g3 vdc md kk ms0) rfl call85 hit (fun k => rfl) rfl ?_ ?_ ?_ ?_
   ·exact ⟨_, _, _, [], rfl, OwnL.nil Fm, rfl, BagE.nil⟩
   ·rintro w1 kk hh ms1 hkk lh hJ
    have hk : Z.ars.length - 1 - kk < Z.ars.length := by omega
    have oe := (hR.e _ (List.getElem_mem hk)).rd.one
    have eA : Vq Z.ars.length Z.ars kk = [.int .i64 ((Z.ars.length : Int) - 1 - kk), .agg #[.bool (Z.ars[Z.ars.length - 1 - kk]).b, .int .i64 (Z.ars[Z.ars.length - 1 - kk]).M.p, .int .i64 (Z.ars[Z.ars.length - 1 - kk]).M.rows, .int .i64 (Z.ars[Z.ars.length - 1 - kk]).M.cols, (Z.ars[Z.ars.length - 1 - kk]).v]] := by unfold Vq; rw [Nx hk]; rfl
    rw [eA]
    refine BV (by kernel_rfl) (BZ [.bool false, .int .i64 0, .int .i64 0, .int .i64 0, .slice none 0 0] rfl Cr rfl rfl (fun g5 => ?_))
    refine Sa 0 [_, _, _, _, _] Cr rfl (by simp [oe]) ?_
    refine Ak ?_
    exact AA _ ⟨hk, g5, ms1, rfl, rfl, hJ⟩ Qs
   ·rintro w1 kk s1 hh ms1 hkk lh ⟨hk, g5, ms0, rfl, rfl, vao, ma, mB, A, rfl, hOa, hAc, hB⟩
    have hR2 := hR.up lh
    have oe := (hR.e _ (List.getElem_mem hk)).rd.one
    have oa : vao.oneCell' = true := (hOa.rd (h := h) (ms := [ma]) (List.Mem.head _)).rd.one
    have hAl : A.length ≤ 100 := by
     have h1 := congrArg List.length hAc
     have h2 : Z.rev.ars.length = Z.ars.length := by show (Z.ars.reverse.map _).length = _; simp
     rw [List.length_map, List.length_map, List.length_take] at h1; omega
    refine EV (DW (BV (by kernel_rfl) (Qf Ca rfl (Qf Bc rfl ?_))))
    refine Ql rfl underlying24 (by (rw [A6]; exact Cell.blk 0 rfl rfl)) ?_
    refine Qc call51 rfl (DS _ _ hh (hR2.e _ (List.getElem_mem hk)) (T8 hRt hk)) (fun vc h3 ms3 l3 hF => ?_)
    obtain ⟨rfl, mc, rfl, hOc⟩ := hF
    have oc : vc.oneCell' = true := (hOc.rd (h := h) (ms := [mc]) (List.Mem.head _)).rd.one
    refine Qf Ca rfl (Qf Bc rfl ?_)
    refine AK 1 4 rfl BN rfl rfl oc rfl (A6 _ _ _) ((by decide : 4 < 5)) rfl rfl ?_
    refine Ak (CK (BV (by kernel_rfl) (Qf BQ rfl (Ql rfl underlying28 (Cell.blk 4 (k := 2) rfl rfl) (Qf EK rfl (Ql rfl underlying4 (Cell.blk 1 (k := 0) rfl rfl) (Qm rfl (Qf Ca rfl (Qx (oG rfl underlying42 AI (P8 (i := 1) rfl)) rfl ?_)))))))))
    refine Qx (AT Pa [.bool false, .int .i64 0, .int .i64 0, .int .i64 0, .slice none 0 0] [(0, _), (1, _)] [_, _, _, _, _] rfl Cr rfl rfl (by repeat (first | exact trivial | refine ⟨⟨rfl, rfl, rfl⟩, ?_⟩)) rfl) rfl ?_
    refine AB [_, _, _, _, _] rfl underlying28 Cr rfl (by rfl) rfl rfl (by omega) rfl rfl rfl (fun g38 => ?_)
    refine Ba 3 hOa (RdL.one Fm (x := ⟨!(Z.ars[Z.ars.length - 1 - kk]).b, (Z.ars[Z.ars.length - 1 - kk]).M, vc⟩) (List.Mem.head _) rfl) rfl underlying28 Cr rfl (by omega) rfl rfl rfl (Kc oc) (by simp only [List.length_singleton]; omega) (by simp only [List.length_singleton]; omega) rfl rfl rfl (fun va2 ma2 hOa2 => ?_)
    have ova2 : va2.oneCell' = true := (hOa2.rd (h := h) (ms := [ma2]) (List.Mem.head _)).rd.one
    refine Qf BQ rfl ?_
    refine AK 5 _ rfl Tm rfl rfl (by assumption) rfl rfl (by (simp; done)) rfl rfl ?_
    refine Ak (Aj (A5 (AP 1 rfl (CF (ms' := [mB, mc, ma2, AX g3 30 [.int .i64 Z.p, vdc, va2], md, AX g2 30 [.int .i64 0, .slice none 0 0, .slice none 0 0]]) (K5 _ _ _ |>.trans (List.Perm.refl _) |> fun p => (p.append_right [AX g3 30 [.int .i64 Z.p, vdc, va2], md, AX g2 30 [.int .i64 0, .slice none 0 0, .slice none 0 0]])) (Ck fun hap => ?_)))))
    have hd12 : mB.disj mc := (List.pairwise_cons.1 hap).1 _ List.mem_cons_self
    refine Cq (A9 ?_)
    refine AA [] ⟨va2, ma2, mB.join mc, A ++ [⟨!(Z.ars[Z.ars.length - 1 - kk]).b, (Z.ars[Z.ars.length - 1 - kk]).M, vc⟩], rfl, hOa2, ?_, hB.snoc hOc hd12⟩ trivial
    rw [Oo hkk, List.map_append, List.map_append, hAc]
    rfl
   ·intro D hh ms1 lh hJ
    obtain ⟨vao, ma, mB, A, rfl, hOa, hAc, hB⟩ := hJ
    have ova : vao.oneCell' = true := (hOa.rd (h := h) (ms := [ma]) (List.Mem.head _)).rd.one
    have hrl : Z.rev.ars.take Z.ars.length = Z.rev.ars := List.take_of_length_le (by show (Z.ars.reverse.map _).length ≤ _; simp)
    rw [hrl] at hAc
    refine Aj (Ab (Ax (Qx (oG rfl underlying30 Bz (Seg.blk 2 rfl)) rfl ?_)))
    refine Sa 4 [_, _, _] Bz rfl (by simp [od, ova]) ?_
    refine Aq (Ao (AP 2 rfl (CF (ms' := [ma, md, mB, AX g2 30 [.int .i64 Z.p, vdc, vao], Mk D]) (List.Perm.cons _ (List.Perm.swap _ _ _)) (In 4 (.inr rfl) rfl ?_))))
    exact Cl (vs := [_, _, _]) 3 rfl rfl underlying30 rfl Bz rfl rfl (⟨Hp.le_trans l1 (Hp.le_trans l2 lh), vdc, vao, md, ma, mB, A, rfl, rfl, hOd, hOa, hAc, hB⟩)
end Go.Proofs.YtdnelknieikbaaaGreat
set_option maxHeartbeats 2000000
namespace Go.Proofs.YtdnelknieikbaaaGreat
open Go.Eng Go.RowKit Go.Lin Go.Sort Go.Srt
def KX (c : Int × Int → Nat) (ks : List (Int × Int)) : List Iv := ks.map fun a => ⟨a.1, a.2, (c a : Nat)⟩
end Go.Proofs.YtdnelknieikbaaaGreat
namespace Go.Proofs.YtdnelknieikbaaaGreat
open Go.Proofs.Tryz
open Go.Eng Go.RowKit Go.Lin Go.Sort Go.Srt
variable {bl : List Iv}
section
variable {Z Z' : Zz}
theorem Zz.Same.symm (h : Z.Same Z') : Z'.Same Z := ⟨h.1.symm, h.2.1.symm, h.2.2.symm⟩
theorem Zz.Same.trans {Z'' : Zz} (h : Z.Same Z') (h' : Z'.Same Z'') : Z.Same Z'' := ⟨h.1.trans h'.1, h.2.1.trans h'.2.1, h.2.2.trans h'.2.2⟩
theorem Zz.Same.len (h : Z.Same Z') : Z.ars.length = Z'.ars.length := by
 have := congrArg List.length h.2.2
 rwa [List.length_map, List.length_map] at this
theorem Zz.Same.at (h : Z.Same Z') {k : Nat} (hk : k < Z.ars.length) (hk' : k < Z'.ars.length) : Z.ars[k].b = Z'.ars[k].b ∧ Z.ars[k].M = Z'.ars[k].M := by
 have h1 := congrArg (fun l => l[k]?) h.2.2
 simp only [List.getElem?_map, List.getElem?_eq_getElem hk, List.getElem?_eq_getElem hk', Option.map_some, Option.some.injEq] at h1
 exact ⟨congrArg Prod.fst h1, congrArg Prod.snd h1⟩
theorem Zz.Same.rt (h : Z.Same Z') (hR : Z.Rt) : Z'.Rt := by
 have hl := h.len
 obtain ⟨r1, r2, r3, r4, r5, r6⟩ := hR
 refine ⟨h.2.1 ▸ r1, h.2.1 ▸ r2, by rw [← hl, ← h.2.1]; exact r3, h.1 ▸ r4, h.2.1 ▸ r5, fun k hk => ?_⟩
 obtain ⟨e1, e2⟩ := h.at (hl ▸ hk) hk
 obtain ⟨q1, q2, q3, q4⟩ := r6 k (hl ▸ hk)
 have ed : ∀ j, Z'.dim j = Z.dim j := fun j => by unfold Zz.dim; rw [h.2.1]
 refine ⟨e2 ▸ q1, by rw [← e2, ← h.1]; exact q2, ?_, ?_⟩
 ·rw [← e2, q3, ed]; unfold Ar.src; rw [e1]
 ·rw [← e2, q4, ed]; unfold Ar.tgt; rw [e1]
theorem Zz.Same.zg (h : Z.Same Z') : Z.zg = Z'.zg := by
 have key : ∀ k : Nat, (Z.ars[k]?).map Ar.core = (Z'.ars[k]?).map Ar.core := fun k => by
  rw [← List.getElem?_map, ← List.getElem?_map, h.2.2]
 unfold Zz.zg Zz.dim
 rw [h.1, h.2.1]
 congr 1
 ·funext k
  have := key k
  revert this
  cases Z.ars[k]? <;> cases Z'.ars[k]? <;> intro e
  ·rfl
  ·cases e
  ·cases e
  ·exact congrArg Prod.fst (Option.some.inj e)
 ·funext k
  have := key k
  revert this
  cases Z.ars[k]? <;> cases Z'.ars[k]? <;> intro e
  ·rfl
  ·cases e
  ·cases e
  ·have := congrArg Prod.snd (Option.some.inj e)
   simp only [Ar.core] at this
   simp only [this]
theorem Zz.Same.bars (h : Z.Same Z') (hb : EI Z bl) : EI Z' bl := by
 refine ⟨fun hn => hb.1 fun hR => hn (h.rt hR), fun hR => ?_⟩
 rw [← h.zg]
 exact hb.2 (h.symm.rt hR)
theorem Zz.Same.rev (h : Z.Same Z') : Z.rev.Same Z'.rev := by
 refine ⟨h.1, congrArg List.reverse h.2.1, ?_⟩
 have e : ∀ l : List Ar, (l.reverse.map Ar.flip).map Ar.core = ((l.map Ar.core).reverse).map fun c => (!c.1, c.2) := fun l => by
  rw [List.map_map, ← List.map_reverse, List.map_map]
  rfl
 show (Z.ars.reverse.map Ar.flip).map Ar.core = (Z'.ars.reverse.map Ar.flip).map Ar.core
 rw [e, e, h.2.2]
theorem Ga {vd va vd' va' : Value} {h : Hp} (hR : RdZ h vd va Z) (hR' : RdZ h vd' va' Z') (hs : Z.Same Z') (ms : List Hp) : Dq Tryz.prog 27 #[.agg #[.int .i64 Z.p, vd, va], .agg #[.int .i64 Z'.p, vd', va']] h ms (.bool true) := by
 have := Oz Z Z' vd va vd' va' h hR hR' ms
 rwa [Jf hs] at this
theorem I8 {p : Int} {ds : List Int} {A : List Ar} {vdo vao : Value} {md ma mB h : Hp} (hOd : OwnL cI 1 3 md vdo ds) (kd : md.le h) (hOa : OwnL cA 5 45 ma vao A) (ka : ma.le h) (B : BagE A mB) (kB : mB.le h) : RdZ h vdo vao ⟨p, ds, A⟩ := by
 refine ⟨hOd.rdh kd, hOa.rdh ka, fun a ha => ?_⟩
 obtain ⟨k, hk, rfl⟩ := List.mem_iff_getElem.1 ha
 obtain ⟨y, hy, O⟩ := B.all k hk
 have e : A.getD k default = A[k] := by simp [List.getD, hk]
 rw [e] at O
 exact O.rdh (Hp.le_trans hy kB)
end
theorem Ro {Z : Zz} (hR : Z.Rt) {bl' : List Iv} (h : EI Z bl) (h' : EI Z.rev bl') : ∃ ks ks' : List (Int × Int), ∃ c : Int × Int → Nat, bl = KX c ks ∧ bl' = KX (fun a => c ((Z.dims.length : Int) - 1 - a.2, (Z.dims.length : Int) - 1 - a.1)) ks' ∧ ks.Nodup ∧ ks'.Nodup ∧ (∀ a, a ∈ ks ↔ 0 < c a) ∧ (∀ a, a ∈ ks' ↔ 0 < c ((Z.dims.length : Int) - 1 - a.2, (Z.dims.length : Int) - 1 - a.1)) ∧ ks.length = ks'.length := by
 obtain ⟨D, V, ks, rfl, h1, h2⟩ := h.2 hR
 have hb := h'.2 (Zz.rev_rt hR)
 obtain ⟨D', V', hb'⟩ := hb
 have e : D'.ct = fun a => D.ct ((Z.dims.length : Int) - 1 - a.2, (Z.dims.length : Int) - 1 - a.1) := funext fun a => by
  rw [Jt (Zz.rev_rt hR).2.2.2.1.fld V' (Zz.rev_valid hR V) a]
  exact UE V a
 rw [e] at hb'
 obtain ⟨ks', rfl, h3, h4⟩ := hb'
 have hn : ∀ l : List (Int × Int), l.Pairwise (fun a b => D3 a b < 0) → l.Nodup := fun l hl => hl.imp fun {a b} h e => by
  subst e
  rw [Cm] at h
  omega
 have n1 := hn _ h1
 have n2 := hn _ h3
 refine ⟨ks, ks', D.ct, rfl, rfl, n1, n2, h2, h4, ?_⟩
 let f : Int × Int → Int × Int := fun a => ((Z.dims.length : Int) - 1 - a.2, (Z.dims.length : Int) - 1 - a.1)
 have hff : ∀ a, f (f a) = a := fun a => Prod.ext (by show _ - 1 - (_ - 1 - a.1) = a.1; omega) (by show _ - 1 - (_ - 1 - a.2) = a.2; omega)
 have inj : ∀ l : List (Int × Int), l.Nodup → (l.map f).Nodup := fun l hl => List.pairwise_map.2 (hl.imp fun {a b} hne e => hne (by rw [← hff a, ← hff b, e]))
 refine Nat.le_antisymm ?_ ?_
 ·have := (inj ks n1).length_le_of_subset (l₂ := ks') fun a ha => by
   obtain ⟨b, hb, rfl⟩ := List.mem_map.1 ha
   refine (h4 _).2 ?_
   show 0 < D.ct (f (f b))
   rw [hff]; exact (h2 b).1 hb
  rwa [List.length_map] at this
 ·have := (inj ks' n2).length_le_of_subset (l₂ := ks) fun a ha => by
   obtain ⟨b, hb, rfl⟩ := List.mem_map.1 ha
   exact (h2 _).2 ((h4 b).1 hb)
  rwa [List.length_map] at this
theorem KQ {l : List StE} (hl : l.length ≤ 20400) (hB : DE (fun a => (l.map StE.key).count a) bl) : bl.length ≤ 20400 ∧ ∀ y ∈ bl, 0 ≤ y.n ∧ y.n ≤ 20400 := by
 obtain ⟨ks, rfl, hs, hm⟩ := hB
 have hn : ks.Nodup := hs.imp fun {a b} h e => by
  subst e
  rw [Cm] at h
  omega
 constructor
 ·rw [List.length_map]
  have h1 : ks.length ≤ (l.map StE.key).length := hn.length_le_of_subset fun a ha => List.count_pos_iff.1 ((hm a).1 ha)
  rw [List.length_map] at h1; omega
 ·intro y hy
  obtain ⟨a, ha, rfl⟩ := List.mem_map.1 hy
  have h1 : (l.map StE.key).count a ≤ (l.map StE.key).length := List.count_le_length
  rw [List.length_map] at h1
  show (0 : Int) ≤ (((l.map StE.key).count a : Nat) : Int) ∧ (((l.map StE.key).count a : Nat) : Int) ≤ 20400
  omega
theorem Na {Z : Zz} (hR : Z.Rt) (h : EI Z bl) : ∀ y ∈ bl, 0 ≤ y.fr ∧ y.fr ≤ y.to ∧ y.to < (Z.dims.length : Int) := by
 obtain ⟨D, V, ks, rfl, h1, h2⟩ := h.2 hR
 intro y hy
 obtain ⟨a, ha, rfl⟩ := List.mem_map.1 hy
 have h3 := (h2 a).1 ha
 unfold Dc.ct at h3
 obtain ⟨l, hl⟩ := List.exists_mem_of_length_pos h3
 obtain ⟨h4, h5⟩ := mem_sel.1 hl
 have h6 := V.ends l h4
 have h5 := of_decide_eq_true h5
 have h7 : Z.zg.n = Z.dims.length := rfl
 subst h5
 refine ⟨?_, ?_, ?_⟩ <;> simp only <;> omega
def Lw (l : List Iv) : List ((Int × Int) × Int) := l.map fun y => ((y.fr, y.to), y.n)
theorem PI {l : List Iv} {k : Nat} (hk : k < l.length) (hn : ((Lw l).map Prod.fst).Nodup) : Dt (Lw (l.take k)) (l[k].fr, l[k].to) l[k].n = Lw (l.take (k + 1)) := by
 unfold Dt
 rw [if_neg, List.take_succ_eq_append_getElem hk]
 ·unfold Lw; rw [List.map_append]; rfl
 ·intro hm
  unfold Lw at hm hn
  rw [List.map_map] at hm hn
  obtain ⟨y, hy, e⟩ := List.mem_map.1 hm
  obtain ⟨i, hi, rfl⟩ := List.getElem_of_mem hy
  rw [List.length_take] at hi
  have h1 := List.pairwise_iff_getElem.1 hn i k (by rw [List.length_map]; omega) (by rw [List.length_map]; exact hk) (by omega)
  rw [List.getElem_map, List.getElem_map] at h1
  rw [List.getElem_take] at e
  exact h1 e
theorem Tl {l : List Iv} (hn : ((Lw l).map Prod.fst).Nodup) {y : Iv} (hy : y ∈ l) : (Dg (Lw l) (y.fr, y.to)).getD 0 = y.n := by
 obtain ⟨i, hi, rfl⟩ := List.getElem_of_mem hy
 rw [G7 hn (j := i) (x := l[i].n) (by unfold Lw; rw [List.getElem?_map, List.getElem?_eq_getElem hi]; rfl)]
 rfl
theorem LF (c : Int × Int → Nat) (ks : List (Int × Int)) : (Lw (KX c ks)).map Prod.fst = ks := by
 unfold Lw KX
 rw [List.map_map, List.map_map]
 exact (List.map_congr_left fun a _ => rfl).trans (List.map_id ks)
theorem UM {Z : Zz} (hR : Z.Rt) {bl' : List Iv} (h : EI Z bl) (h' : EI Z.rev bl') : bl.length = bl'.length ∧ ((Lw bl).map Prod.fst).Nodup ∧ ∀ y ∈ bl', (Dg (Lw bl) ((Z.dims.length : Int) - 1 - y.to, (Z.dims.length : Int) - 1 - y.fr)).getD 0 = y.n := by
 obtain ⟨ks, ks', c, rfl, rfl, n1, n2, h1, h2, h3⟩ := Ro hR h h'
 have hn : ((Lw (KX c ks)).map Prod.fst).Nodup := by rw [LF]; exact n1
 refine ⟨by unfold KX; rw [List.length_map, List.length_map]; exact h3, hn, fun y hy => ?_⟩
 obtain ⟨a, ha, rfl⟩ := List.mem_map.1 hy
 have hk := (h1 _).2 ((h2 a).1 ha)
 exact Tl hn (y := ⟨(Z.dims.length : Int) - 1 - a.2, (Z.dims.length : Int) - 1 - a.1, (c ((Z.dims.length : Int) - 1 - a.2, (Z.dims.length : Int) - 1 - a.1) : Nat)⟩) (List.mem_map.2 ⟨_, hk, rfl⟩)
end Go.Proofs.YtdnelknieikbaaaGreat
set_option maxHeartbeats 4000000
namespace Go.Proofs.YtdnelknieikbaaaGreat
open Go.Proofs.Tryz
open Go.Eng Go.RowKit Go.Lin Go.Sort Go.Srt
theorem Su (x : Pl) (vd vs : Value) (h : Hp) (hx : x.Ok) (hR : RdP h vd vs x) : FnT Tryz.prog 8 #[.agg #[.int .u8 x.p, vd, .int .u16 x.back, vs, .bool x.thin]] h [] (fun r _ _ => r = .bool true) := by
 have o1 := hR.d.rd.one
 have o2 := hR.s.rd.one
 refine Av func8 ntmps8 rfl rfl (fun w0 hw0 => ?_)
 simp only [A4]
 refine Ax ?_
 refine AS [_, _, _, _, _] rfl rfl (by rfl) rfl rfl rfl (fun g1 => ?_)
 refine Qm rfl (B3 (Qx (AG rfl call14 rfl (GW _ _)) rfl (Qm rfl (Aq (AL fun h1 l1 hS1 => ?_)))))
 have hR := hR.up l1
 refine Ax (Qx (oG rfl underlying26 ST (Seg.any hS1)) rfl (Qc call15 rfl (Kf x vd vs h1 hx hR) (fun rz h2 ms2 l2 hF => ?_)))
 obtain ⟨l2', vdo, vao, md, ma, mB, A, rfl, rfl, hOd, hOa, hAc, hB⟩ := hF
 refine A7 fun h3 l3 k3 => (A7 fun h4 l4 k4 => (A7 fun h5 l5 k5 => ?_))
 have hRZ : RdZ h5 vdo vao ⟨x.P, x.dims, A⟩ := I8 hOd (Hp.le_trans k4 l5) hOa (Hp.le_trans k3 (Hp.le_trans l4 l5)) hB k5
 have hRt : (⟨x.P, x.dims, A⟩ : Zz).Rt := x.rt rfl rfl hAc
 generalize hZ : (⟨x.P, x.dims, A⟩ : Zz) = Z at hRZ hRt
 have hZp : x.P = Z.p := by rw [← hZ]
 rw [hZp]
 have o3 := hRZ.d.rd.one
 have o4 := hRZ.a.rd.one
 have n1 := hRt.1
 have n2 := hRt.2.1
 refine BZ [.int .i64 0, .slice none 0 0, .slice none 0 0] rfl Bz rfl rfl (fun g4 => ?_)
 refine Sa 0 [_, _, _] Bz rfl (by simp [o3, o4]) ?_
 refine Aq (AL fun h6 l6 hS4 => ?_)
 have hRZ := hRZ.up l6
 refine Ax (Qx (oG rfl underlying30 Bz (Seg.any hS4)) rfl (Qc call26 rfl (G1 Z vdo vao h6 hRt hRZ) (fun rt h7 ms7 l7 hF => ?_)))
 obtain ⟨l7', vdt, vat, mdt, mat, mBt, At, rfl, rfl, hOdt, hOat, hAt, hBt⟩ := hF
 refine A7 fun h8 l8 k8 => (A7 fun h9 l9 k9 => (A7 fun h10 l10 k10 => ?_))
 have hRT : RdZ h10 vdt vat ⟨Z.p, Z.dims.reverse, At⟩ := I8 hOdt (Hp.le_trans k9 l10) hOat (Hp.le_trans k8 (Hp.le_trans l9 l10)) hBt k10
 have hs1 : (⟨Z.p, Z.dims.reverse, At⟩ : Zz).Same Z.rev := ⟨rfl, rfl, hAt⟩
 have hRtT := hs1.symm.rt (Zz.rev_rt hRt)
 have l610 := Hp.le_trans l7 (Hp.le_trans l8 (Hp.le_trans l9 l10))
 have hRZ := hRZ.up l610
 have hS4 := hS4.le l610
 generalize hT : (⟨Z.p, Z.dims.reverse, At⟩ : Zz) = T at hRT hs1 hRtT
 have hTp : Z.p = T.p := by rw [← hT]
 have o5 := hRT.d.rd.one
 have o6 := hRT.a.rd.one
 refine BZ [.int .i64 0, .slice none 0 0, .slice none 0 0] rfl Bz rfl rfl (fun g5 => ?_)
 refine Sa 0 [_, _, _] Bz rfl (by simp [o5, o6]) ?_
 refine Aq (AL fun h11 l11 hS5 => ?_)
 have hRZ := hRZ.up l11
 have hRT := hRT.up l11
 have hS4 := hS4.le l11
 rw [hTp] at hS5
 refine Bv (fun sl hh ms' => sl = [(3, .bool true), (4, .pointer (some ⟨g4, 0, none⟩)), (5, .pointer (some ⟨g5, 0, none⟩))] ∧ h11.le hh ∧ ms' = []) ?_ (fun s h ms hI => ?_)
 ·refine Ac (AW (n := 12) (bs := [true, true, false, false, false, false, false, false, false, false, false, false]) [true, true] Cd (by kernel_rfl) (by kernel_rfl) rfl rfl (Qp rfl (oG rfl underlying30 Bz (Seg.any hS5)) (Qp rfl (oG rfl underlying30 Bz (Seg.any hS4)) ?_)))
  unfold CD
  simp only [List.cons_append, List.nil_append]
  refine Qo 2 rfl (Qc call28 rfl (R6 Z vdo vao h11 hRt hRZ) (fun rr h12 ms12 l12 hF => ?_))
  obtain ⟨l12', rfl, vdr, var, rfl, hRr⟩ := hF
  have hS4 := hS4.le l12
  have hS5 := hS5.le l12
  have hRZ := hRZ.up l12
  have hRT := hRT.up l12
  refine Qa (Qo 3 rfl (Qx (AG rfl call27 rfl (Ga hRT hRr hs1 _)) rfl (Qa (An 4 22 (by kernel_rfl) rfl (by assumption) rfl (CP rfl rfl) (An 5 23 (by kernel_rfl) rfl (by assumption) rfl (As rfl rfl) (A2 [6, 8] (by kernel_rfl) rfl ?_))))))
  refine Az rfl ?_ ?_
  ·refine Qg (oG rfl underlying30 Bz (Seg.any hS5)) rfl (Qa (A2 [7, 8] (by kernel_rfl) rfl ?_))
   refine Az rfl ?_ ?_
   ·refine Ce rfl rfl rfl rfl (Qc call26 rfl (G1 T vdt vat _ hRtT hRT) (fun rtt h13 ms13 l13 hF => ?_))
    obtain ⟨l13', vdu, vau, mdu, mau, mBu, Au, rfl, rfl, hOdu, hOau, hAu, hBu⟩ := hF
    refine A7 fun h14 l14 k14 => (A7 fun h15 l15 k15 => (A7 fun h16 l16 k16 => ?_))
    have hRU : RdZ h16 vdu vau ⟨T.p, T.dims.reverse, Au⟩ := I8 hOdu (Hp.le_trans k15 l16) hOau (Hp.le_trans k14 (Hp.le_trans l15 l16)) hBu k16
    have hs2 : (⟨T.p, T.dims.reverse, Au⟩ : Zz).Same Z := by have := hs1.rev; rw [Zz.rev_rev] at this; exact Zz.Same.trans (Z' := T.rev) ⟨rfl, rfl, hAu⟩ this
    have l1216 := Hp.le_trans l13 (Hp.le_trans l14 (Hp.le_trans l15 l16))
    have hcur := Hp.le_trans l12 l1216
    have hS4 := hS4.le l1216
    have hS5 := hS5.le l1216
    have hRZ := hRZ.up l1216
    refine Qa (Qo 8 rfl (Qg (oG rfl underlying30 Bz (Seg.any hS4)) rfl (Qa (Qo 9 rfl (Qg (AG rfl call27 rfl (Ga hRU hRZ hs2 _)) rfl (Qa (Qo 10 rfl (Qg (CP rfl rfl) rfl (Qa (Qo 11 rfl (Qm rfl (Qa (Qe (Ab (Bb rfl (Ai ?_))))))))))))))))
    exact AA _ ⟨rfl, Hp.le_trans l12 l1216, rfl⟩ Qs
   refine Az rfl ?_ ?_
   ·refine Qg (oG rfl underlying30 Bz (Seg.any hS4)) rfl (Qa (Qo 7 rfl (Ce rfl rfl rfl rfl (Qc call26 rfl (G1 T vdt vat _ hRtT hRT) (fun rtt h13 ms13 l13 hF => ?_)))))
    obtain ⟨l13', vdu, vau, mdu, mau, mBu, Au, rfl, rfl, hOdu, hOau, hAu, hBu⟩ := hF
    refine A7 fun h14 l14 k14 => (A7 fun h15 l15 k15 => (A7 fun h16 l16 k16 => ?_))
    have hRU : RdZ h16 vdu vau ⟨T.p, T.dims.reverse, Au⟩ := I8 hOdu (Hp.le_trans k15 l16) hOau (Hp.le_trans k14 (Hp.le_trans l15 l16)) hBu k16
    have hs2 : (⟨T.p, T.dims.reverse, Au⟩ : Zz).Same Z := by have := hs1.rev; rw [Zz.rev_rev] at this; exact Zz.Same.trans (Z' := T.rev) ⟨rfl, rfl, hAu⟩ this
    have l1216 := Hp.le_trans l13 (Hp.le_trans l14 (Hp.le_trans l15 l16))
    have hcur := Hp.le_trans l12 l1216
    have hS4 := hS4.le l1216
    have hS5 := hS5.le l1216
    have hRZ := hRZ.up l1216
    refine Qa (Qo 9 rfl (Qg (AG rfl call27 rfl (Ga hRU hRZ hs2 _)) rfl (Qa (Qo 10 rfl (Qg (CP rfl rfl) rfl (Qa (Qo 11 rfl (Qm rfl (Qa (Qe (Ab (Bb rfl (Ai ?_)))))))))))))
    exact AA _ ⟨rfl, Hp.le_trans l12 l1216, rfl⟩ Qs
   exact A3
  refine Az rfl ?_ ?_
  ·refine Qg (oG rfl underlying30 Bz (Seg.any hS4)) rfl (Qa (Qo 6 rfl (Qg (oG rfl underlying30 Bz (Seg.any hS5)) rfl (Qa (Qo 7 rfl (Ce rfl rfl rfl rfl (Qc call26 rfl (G1 T vdt vat _ hRtT hRT) (fun rtt h13 ms13 l13 hF => ?_))))))))
   obtain ⟨l13', vdu, vau, mdu, mau, mBu, Au, rfl, rfl, hOdu, hOau, hAu, hBu⟩ := hF
   refine A7 fun h14 l14 k14 => (A7 fun h15 l15 k15 => (A7 fun h16 l16 k16 => ?_))
   have hRU : RdZ h16 vdu vau ⟨T.p, T.dims.reverse, Au⟩ := I8 hOdu (Hp.le_trans k15 l16) hOau (Hp.le_trans k14 (Hp.le_trans l15 l16)) hBu k16
   have hs2 : (⟨T.p, T.dims.reverse, Au⟩ : Zz).Same Z := by have := hs1.rev; rw [Zz.rev_rev] at this; exact Zz.Same.trans (Z' := T.rev) ⟨rfl, rfl, hAu⟩ this
   have l1216 := Hp.le_trans l13 (Hp.le_trans l14 (Hp.le_trans l15 l16))
   have hcur := Hp.le_trans l12 l1216
   have hS4 := hS4.le l1216
   have hS5 := hS5.le l1216
   have hRZ := hRZ.up l1216
   refine Qa (Qo 9 rfl (Qg (AG rfl call27 rfl (Ga hRU hRZ hs2 _)) rfl (Qa (Qo 10 rfl (Qg (CP rfl rfl) rfl (Qa (Qo 11 rfl (Qm rfl (Qa (Qe (Ab (Bb rfl (Ai ?_)))))))))))))
   exact AA _ ⟨rfl, Hp.le_trans l12 l1216, rfl⟩ Qs
  exact A3
 ·obtain ⟨rfl, l11', rfl⟩ := hI
  have hRZ := hRZ.up l11'
  have hRT := hRT.up l11'
  have hS4 := hS4.le l11'
  have hS5 := hS5.le l11'
  have hA4 := Seg.all hS4
  refine Ax (Qf Bn rfl (Ql rfl underlying24 (hA4 _ _ rfl _) (Qx (AJ hRZ.d.rd.any rfl underlying24 rfl) rfl (Qx (oS rfl) rfl (Qm rfl (B3 (Gl (K := kP) (V := kI) (Ok := Mj) rfl rfl rfl rfl (fun gT mT0 OT0 => Qm rfl (Aq (Ac (Ax (Qx (oG rfl underlying30 Bz (Seg.any hS4)) rfl (Qc call17 rfl (Hn Z vdo vao _ hRt.ok hRZ) (fun rb h12 ms12 l12 hF => ?_))))))))))))))
  obtain ⟨l12', bl, mb, lst, rfl, hOb, hlb, hSp, hBs⟩ := hF
  have hIB := GH hSp hBs
  obtain ⟨hb1, hb2⟩ := KQ hlb hBs
  have hb3 := Na hRt hIB
  refine AH hOb fun h13 l13 hRb => ?_
  have l1113 := Hp.le_trans l12 l13
  have hRT := hRT.up l1113
  have hS5 := hS5.le l1113
  have hnd : ((Lw bl).map Prod.fst).Nodup := by
   obtain ⟨D, V, ks, rfl, q1, q2⟩ := hIB.2 hRt
   have := LF D.ct ks
   unfold KX at this
   rw [this]
   exact q1.imp fun {a b} h e => by
    subst e
    rw [Cm] at h
    omega
  refine Qx (AJ hRb.rd.any rfl underlying33 rfl) rfl (Qm rfl (Aq (Ag ?_)))
  refine AD (fun q sl hh ms' => ∃ (k : Nat) (mT : Hp) (bs : List Nat), q = bl.length - k ∧ sl = [(3, .bool true), (4, .pointer (some ⟨g4, 0, none⟩)), (5, .pointer (some ⟨g5, 0, none⟩)), (6, .int .i64 ((Z.dims.length : Int) - 1)), (7, .map (some gT)), (36, rb), (37, .int .i64 bl.length), (38, .int .i64 k)] ∧ h13 = hh ∧ ms' = [mT] ∧ k ≤ bl.length ∧ DI kP kI gT Mj mT (Lw (bl.take k)) bs)
   (bl.length - 0) _ ⟨0, _, _, rfl, rfl, rfl, rfl, by omega, OT0⟩ Qs ?_
  rintro q sl hh ms' ⟨k, mT, bs, rfl, rfl, rfl, rfl, hk, OT⟩
  refine Ax (Qm rfl (Aq (Ac ?_)))
  refine AF rfl (fun hlt => ?_) (fun hlt => ?_)
  ·have hkl : k < bl.length := Bx hlt
   have hyn := hb2 _ (List.getElem_mem hkl)
   have hyi := hb3 _ (List.getElem_mem hkl)
   have hseg : ∀ ms, Seg h13 ms ((Bl rb).add (k * 3)) (GO bl[k]) := fun ms => (hRb.any (ms := ms)).seg hkl
   refine Ai (Ab (Ac (Ag (Ax (Qx (Ah (k) hRb.rd.any rfl underlying33 DV rfl rfl (by omega) (by omega)) rfl (Qx (oG rfl underlying37 DV (hseg _)) rfl (BZ [.int .i64 0, .int .i64 0, .int .i64 0] rfl DV rfl rfl (fun g9 => ?_))))))))
   refine Sa 0 [_, _, _] DV rfl (by simp [Value.oneCell']) ?_
   refine IA (Qm rfl (Qf MB rfl (Ql rfl underlying3 (Cell.blk 0 rfl rfl) (Qf MM rfl (Ql rfl underlying3 (Cell.blk 0 rfl rfl) ?_)))))
   refine Qx (EO [.int .i64 0, .int .i64 0] [(0, [_]), (1, [_])] [_, _] rfl underlying53 Fx rfl A8 rfl (by repeat (first | exact trivial | refine ⟨⟨by rfl, rfl, rfl⟩, ?_⟩)) rfl) rfl ?_
   refine Qf M1 rfl (Ql rfl underlying3 (Cell.blk 0 rfl rfl) ?_)
   refine GN (z := undef) 1 (bl[k].fr, bl[k].to) bl[k].n Ee OT rfl rfl underlying51 rfl rfl rfl ⟨by unfold Dh; omega, by unfold Dh; omega⟩ rfl rfl (fun mT' bs' OT' => ?_)
   rw [PI hkl hnd] at OT'
   refine Ak (Aj (Ab (Ad (Qx (oA rfl) rfl (Qm rfl (Ak (A5 ?_)))))))
   exact Al (bl.length - (k + 1)) _ (by omega) ⟨k + 1, mT', bs', rfl, rfl, rfl, rfl, by omega, OT'⟩ Qs
  ·obtain rfl : k = bl.length := by omega
   rw [List.take_length] at OT
   refine Aw (Aa (Aa (Af (Ab (Ax (Qx (oG rfl underlying30 Bz (Seg.any hS5)) rfl (Qc call17 rfl (Hn T vdt vat _ hRtT.ok hRT) (fun rc h14 ms14 l14 hF => ?_))))))))
   obtain ⟨l14', bl', mb', lst', rfl, hOb', hlb', hSp', hBs'⟩ := hF
   obtain ⟨hc1, hc2⟩ := KQ hlb' hBs'
   have hIB' := GH hSp' hBs'
   have hc3 := Na hRtT hIB'
   obtain ⟨hm1, hm2, hm3⟩ := UM hRt hIB (hs1.bars hIB')
   have hTd : T.dims.length = Z.dims.length := by rw [← hT]; exact List.length_reverse
   rw [hTd] at hc3
   refine AH hOb' fun h15 l15 hRc => (Qm rfl (Aq (Ac (Ax (Qm rfl (Qx (AJ hRc.rd.any rfl underlying33 rfl) rfl (Qm rfl (Aq (Ag ?_)))))))))
   refine AD (fun q sl hh ms' => ∃ (k : Nat), q = bl'.length - k ∧ sl = [(3, .bool true), (6, .int .i64 ((Z.dims.length : Int) - 1)), (7, .map (some gT)), (10, rc), (53, rc), (54, .int .i64 bl'.length), (55, .int .i64 k)] ∧ h15.le hh ∧ ms' = [mT] ∧ k ≤ bl'.length)
    (bl'.length - 0) _ ⟨0, rfl, rfl, Hp.le_refl _, rfl, by omega⟩ Qs ?_
   rintro q sl hh ms' ⟨k, rfl, rfl, lh, rfl, hk⟩
   have hRc := hRc.up lh
   refine Ax (Qm rfl (Aq (Ac ?_)))
   refine AF rfl (fun hlt2 => ?_) (fun hlt2 => ?_)
   ·have hkl : k < bl'.length := Bx hlt2
    have hyn := hc2 _ (List.getElem_mem hkl)
    have hyi := hc3 _ (List.getElem_mem hkl)
    have hmk := hm3 _ (List.getElem_mem hkl)
    have hseg : ∀ ms, Seg hh ms ((Bl rc).add (k * 3)) (GO bl'[k]) := fun ms => (hRc.any (ms := ms)).seg hkl
    refine Ai (Ab (Ac (Ag (Ax (Qx (Ah (k) hRc.rd.any rfl underlying33 DV rfl rfl (by omega) (by omega)) rfl (Qx (oG rfl underlying37 DV (hseg _)) rfl (BZ [.int .i64 0, .int .i64 0, .int .i64 0] rfl DV rfl rfl (fun g12 => ?_))))))))
    refine Sa 0 [_, _, _] DV rfl (by simp [Value.oneCell']) ?_
    refine Aq (AL fun h16 l16 hS12 => ?_)
    have hA12 := Seg.all hS12
    refine Ac (AW (n := 14) (bs := [true, true, true, true, true, true, true, true, true, true, false, true, true, false]) [true, true, true, true, true, true, true, true, true, true, false, true, true] Cd (by kernel_rfl) (by kernel_rfl) rfl rfl (Qq rfl (Qq rfl (QF MM rfl (QL rfl underlying3 (hA12 _ _ rfl _) (Qp rfl (oS rfl) (Qq rfl (QF MB rfl (QL rfl underlying3 (hA12 _ _ rfl _) (Qp rfl (oS rfl) ?_))))))))))
    refine Qp rfl (EO [.int .i64 0, .int .i64 0] [(0, [_]), (1, [_])] [_, _] rfl underlying53 Fx rfl A8 rfl (by repeat (first | exact trivial | refine ⟨⟨by rfl, rfl, rfl⟩, ?_⟩)) rfl) ?_
    refine QF M1 rfl (QL rfl underlying3 (hA12 _ _ rfl _) ?_)
    unfold CD
    simp only [List.cons_append, List.nil_append]
    refine Qo 10 rfl ?_
    refine Qx (Gp (z := 0) ((Z.dims.length : Int) - 1 - bl'[k].to, (Z.dims.length : Int) - 1 - bl'[k].fr) bl'[k].n hmk Ee OT (by simp) rfl underlying51 Hr rfl rfl ⟨by unfold Dh; simp only; omega, by unfold Dh; simp only; omega⟩) rfl ?_
    refine Qw (An 13 72 (by kernel_rfl) rfl (Hp.le_refl _) rfl (B4 rfl rfl rfl) (Qe (Ab ?_)))
    refine AF rfl (fun hne => ?_) (fun hne => ?_)
    ·exact absurd rfl hne
    ·refine Ai (Aj (Ab (Ad (Qx (oA rfl) rfl (Qm rfl (Ak ?_))))))
     exact Al (bl'.length - (k + 1)) _ (by omega) ⟨k + 1, rfl, rfl, Hp.le_trans lh l16, rfl, by omega⟩ Qs
   ·refine Aw (Aa (Aa (Af (Ab (Ax (Qm rfl (Qm rfl (Qg (As rfl rfl) rfl (Qg (AJ hRc.rd.any rfl underlying33 rfl) rfl (Qg (As rfl rfl) rfl ?_))))))))))
    refine Qg (Go.Eng.SW OT (by simp) rfl underlying51 rfl) rfl ?_
    refine Qg (EJ rfl rfl rfl) rfl (Qm rfl (Qm rfl (Aq (Ao ?_))))
    have hlen : (bl'.length : Int) = ((Lw bl).length : Int) := by unfold Lw; rw [List.length_map, hm1]
    exact Am rfl rfl (by rw [decide_eq_true hlen])
end Go.Proofs.YtdnelknieikbaaaGreat
