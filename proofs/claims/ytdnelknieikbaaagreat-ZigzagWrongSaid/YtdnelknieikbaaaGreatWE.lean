/- A part of the proof. -/
import Derived.Test.YtdnelknieikbaaaGreatWD
import Derived.DeepKeys4
import Derived.Ground.SlsfProg
import Derived.Shelf.SlSortCmp.WholeK
import Derived.Shelf.SlSortCmp.NoneTotal
import Derived.Test.YtdnelknieikbaaaGreatProg
import Derived.Laws.StructEq
import Derived.ChangeKeysEq
import Derived.Test.YtdnelknieikbaaaGreatRows
import Derived.Test.YtdnelknieikbaaaGreatChecked
import Derived.WalkKit
import Derived.ProofKit
import Derived.ChangeOld
set_option linter.unusedSimpArgs false
set_option linter.unusedVariables false
set_option maxRecDepth 100000
set_option maxHeartbeats 4000000
namespace Go.Proofs.YtdnelknieikbaaaGreat
open Go.Proofs.Tryz
open Go.Eng Go.RowKit Go.Lin Go.Sort Go.Srt
def Vj (p : Int) (r c : Nat) (f : Nat → Nat → Int) (s : SV) (a b : Nat) : Prop := s.on a → ∀ i, i < r → ap f c (fun j => (s.at_ a).getD j 0) i % p = if s.on b then (s.at_ b).getD i 0 else 0
theorem Mv (p : Int) (r c : Nat) (f : Nat → Nat → Int) (ev : Value) (s : SV) (a b : Nat) (h : Hp) (R : RtM p r c f) (hM : RdL cI 1 h [] ev (mat r c f)) (hW : RdW h s) (hL : s.Long) (hv : s.on a → (s.at_ a).length = c ∧ ∀ x ∈ s.at_ a, 0 ≤ x ∧ x < p) (hw : s.on b → (s.at_ b).length = r) (ha : a ≤ 1000) (hb : b ≤ 1000) (ms : List Hp) :
  Dq Tryz.prog 62 #[.agg #[.int .i64 p, .int .i64 r, .int .i64 c, ev], .agg #[.int .i64 s.e.fr, .int .i64 s.e.to, s.e.v], .int .i64 a, .int .i64 b] h ms (.bool (bl (Vj p r c f s a b))) := by
 refine Ds ?_ ms
 have ov := s.e.one
 have o1 := hM.rd.one
 have hbd := R.bd
 have rl := R.rl
 have cl := R.cl
 have hrc : r * c ≤ 400 * 400 := Nat.mul_le_mul rl cl
 have el : (mat r c f).length = r * c := AY _ _ _
 have oa := hW.vv_one hL a
 have ob := hW.vv_one hL b
 refine Av func62 ntmps62 rfl rfl (fun w0 hw0 => ?_)
 simp only [A4]
 refine Ax ?_
 refine AS [_, _, _, _] rfl rfl (by rfl) rfl rfl rfl (fun g4 => ?_)
 refine AS [_, _, _] rfl rfl (by rfl) rfl rfl rfl (fun g5 => ?_)
 refine Qm rfl (Aq (AL fun h1 l1 hS5 => (AL fun h2 l2 hS4 => ?_)))
 have hS5 := hS5.le l2
 have hM := hM.up (Hp.le_trans l1 l2)
 have hW := hW.up (Hp.le_trans l1 l2)
 have hA := Seg.all hS4
 refine Ax (Qx (oG rfl underlying64 BP (Seg.any hS5)) rfl (Qm rfl (Qx (AG rfl call93 rfl (Hq s a h2 hW hL ha _)) rfl (Qm rfl (Qm rfl (Qm rfl (Qm rfl (Qm rfl (Aq (Ac (Ax (Qm rfl (Qm rfl (Aq ?_))))))))))))))
 refine BJ rfl (fun hc => ?_) (fun hc => ?_)
 ·have hc : ¬ s.on a := by simpa using hc
  refine Ax (Qm rfl (Aq (Ao (Ae ?_))))
  exact Am rfl rfl (by rw [Jf]; exact fun h => absurd h hc)
 ·have hc : s.on a := by simpa using hc
  obtain ⟨e1, e2⟩ := hv hc
  have hV := hW.vv hL hc
  have ew := I2 (s.at_ a)
  rw [e1] at ew
  rw [ew] at hV
  have hwb : ∀ j, j < c → 0 ≤ (s.at_ a).getD j 0 ∧ (s.at_ a).getD j 0 < p := fun j hj => by
   have hj' : j < (s.at_ a).length := by omega
   rw [Gw hj']
   exact e2 _ (List.getElem_mem hj')
  have evl := AQ c fun j => (s.at_ a).getD j 0
  have hM0 := hA 0 _ rfl
  refine Ai (Ab (Ax (Qx (oG rfl underlying64 BP (Seg.any hS5)) rfl (Qm rfl (Qx (AG rfl call93 rfl (Hq s b h2 hW hL hb _)) rfl (Qm rfl (Qm rfl (Qm rfl (Qm rfl (Qm rfl (Aq (Ac (Ax (Qm rfl (Aq (Ag ?_))))))))))))))))
  refine AD (fun q sl hh ms' => ∃ (i : Nat), q = r - i ∧ sl = [(4, .pointer (some ⟨g4, 0, none⟩)), (9, s.vv a), (11, s.vv b), (12, .bool (decide (s.on b))), (13, .int .i64 i)] ∧ h2 = hh ∧ ms' = [] ∧ i ≤ r ∧ ∀ i', i' < i → ap f c (fun j => (s.at_ a).getD j 0) i' % p = if s.on b then (s.at_ b).getD i' 0 else 0)
   (r - 0) _ ⟨0, rfl, rfl, rfl, rfl, by omega, fun i' h => by omega⟩ Qs ?_
  rintro q sl hh ms' ⟨i, rfl, rfl, rfl, rfl, hi, hno⟩
  refine Ac (Ax (Qm rfl (Qf Bh rfl (Ql rfl underlying3 (hA _ _ rfl _) (Qm rfl (Aq ?_))))))
  refine AF rfl (fun hlt => ?_) (fun hlt => ?_)
  ·have hir : i < r := by omega
   refine Ai (Ab (Ac (Ag (Ax (Qm rfl (Aq (Ac (Ax (Qm rfl (Aq (Ag ?_)))))))))))
   refine AD (fun q sl hh ms' => ∃ (j : Nat) (x : Int), q = c - j ∧ sl = [(4, .pointer (some ⟨g4, 0, none⟩)), (9, s.vv a), (11, s.vv b), (12, .bool (decide (s.on b))), (13, .int .i64 i), (14, .int .i64 x), (15, .int .i64 j)] ∧ h2 = hh ∧ ms' = [] ∧ j ≤ c ∧ x = sm j (fun t => f i t * (s.at_ a).getD t 0) % p)
    (c - 0) _ ⟨0, 0, rfl, rfl, rfl, rfl, by omega, (Int.zero_emod p).symm⟩ Qs ?_
   rintro q sl hh ms' ⟨j, x, rfl, rfl, rfl, rfl, hj, hx⟩
   have x0 : 0 ≤ x := by rw [hx]; exact Int.emod_nonneg _ (by omega)
   have x1 : x < p := by rw [hx]; exact Int.emod_lt_of_pos _ (by omega)
   refine Ac (Ax (Qm rfl (Qf A0 rfl (Ql rfl underlying3 (hA _ _ rfl _) (Qm rfl (Aq ?_))))))
   refine AF rfl (fun hlt2 => ?_) (fun hlt2 => ?_)
   ·have hjc : j < c := by omega
    have hix := Cp hir hjc
    have hbm := DF (R.en i hir j hjc) (hwb j hjc) hbd.2
    refine Ai (Ab (Ac (Ag (BB 19 Cd (by kernel_rfl) rfl (Wm rfl (Wf Bc rfl (Wl rfl underlying24 (hA _ _ rfl _) (Wm rfl (Wf A0 rfl (Wl rfl underlying3 (hA _ _ rfl _) (AV (oM rfl) rfl rfl (Wm rfl (AV (oA rfl) rfl rfl (AV (Ah (i * c + j) hM.rd.any rfl underlying24 A8 rfl rfl (by omega) (by omega)) rfl rfl (Wl rfl underlying3 (hM.any.ent hir hjc) (Wm rfl (Wm rfl (AV (Ah (j) hV.rd.any rfl underlying24 A8 rfl rfl (by omega) (by omega)) rfl rfl (Wl rfl underlying3 (hV.any.ev hjc) (AV (oM rfl) rfl rfl (AV (oA rfl) rfl rfl (Wf BE rfl (Wl rfl underlying3 (hM0 _) (BC (Qx (B0 rfl rfl rfl (by omega) (by omega)) rfl (Qm rfl (Ak (Aj (Ab (Ad (Qm rfl (Qx (oA rfl) rfl (Qm rfl (Ak ?_))))))))))))))))))))))))))))))))))
    refine Al (c - (j + 1)) _ (by omega) ⟨j + 1, (x + f i j * (s.at_ a).getD j 0) % p, rfl, rfl, rfl, rfl, by omega, ?_⟩ Qs
    rw [hx, Int.emod_add_emod]
    rfl
   ·obtain rfl : j = c := by omega
    have hx : ap f j (fun j => (s.at_ a).getD j 0) i % p = x := hx.symm
    by_cases hto : s.on b
    ·have hw' := hw hto
     have hV2 := hW.vv hL hto
     have ew2 := I2 (s.at_ b)
     rw [hw'] at ew2
     rw [ew2] at hV2
     have evl2 := AQ r fun j => (s.at_ b).getD j 0
     rw [decide_eq_true hto]
     refine Aw (Aa (Aa (Af (Ab (Ax (Qm rfl (Qm rfl (Qg (As rfl rfl) rfl (Qg (As rfl rfl) rfl (Qg (As rfl rfl) rfl (Qg (Ah (i) hV2.rd.any rfl underlying24 A8 rfl rfl (by omega) (by omega)) rfl (Qg (oL rfl underlying3 (hV2.any.ev hir)) rfl (Qg (B4 rfl rfl rfl) rfl (Qm rfl (Qm rfl ?_)))))))))))))))
     refine AR (t := 71) rfl (fun hne => ?_) (fun hne => ?_)
     ·refine Qk rfl (Qk rfl (Qk rfl (LQ rfl rfl rfl rfl rfl rfl (LQ rfl rfl rfl rfl rfl rfl (Qk rfl (Qm rfl (Aq (AU rfl (Ax (Qm rfl (Aq (Ao (Ap (Ae (Ae (Ap (Ae ?_)))))))))))))))))
      exact Am rfl rfl (by rw [E6]; intro h; have := h hc i hir; rw [if_pos hto, hx] at this; exact hne this)
     ·refine Qg (As rfl rfl) rfl (Qg (CP rfl rfl) rfl (Qg (As rfl rfl) rfl (Qk rfl (Qk rfl (Qg (JJ rfl rfl rfl) rfl (Qm rfl (Aq (Bb rfl (Ai (Aj (Ab (Ad (Qm rfl (Qx (oA rfl) rfl (Qm rfl (Ak ?_))))))))))))))))
      refine Al (r - (i + 1)) _ (by omega) ⟨i + 1, rfl, rfl, rfl, rfl, by omega, fun i' hi' => ?_⟩ Qs
      rcases (by omega : i' < i ∨ i' = i) with h | rfl
      ·exact hno i' h
      ·rw [if_pos hto, hx]; exact Decidable.not_not.1 hne
    ·rw [decide_eq_false hto]
     refine Aw (Aa (Aa (Af (Ab (Ax (Qm rfl (Qm rfl (Qk rfl (Qk rfl (Qk rfl (Qk rfl (Qk rfl (Qk rfl (Qm rfl (Qm rfl (Qg (As rfl rfl) rfl (Qg (CP rfl rfl) rfl (Qg (As rfl rfl) rfl (Qg (As rfl rfl) rfl (Qg (B4 rfl rfl rfl) rfl (Qg (Jv rfl rfl rfl) rfl (Qm rfl (Aq ?_)))))))))))))))))))))))
     refine AF rfl (fun hne => ?_) (fun hne => ?_)
     ·refine Ac (Ad (Qm rfl (Aq (Ao (Ap (Ae (Ae (Ap (Ae ?_)))))))))
      exact Am rfl rfl (by rw [E6]; intro h; have := h hc i hir; rw [if_neg hto, hx] at this; exact hne this)
     ·refine Ai (Aj (Ab (Ad (Qm rfl (Qx (oA rfl) rfl (Qm rfl (Ak ?_)))))))
      refine Al (r - (i + 1)) _ (by omega) ⟨i + 1, rfl, rfl, rfl, rfl, by omega, fun i' hi' => ?_⟩ Qs
      rcases (by omega : i' < i ∨ i' = i) with h | rfl
      ·exact hno i' h
      ·rw [if_neg hto, hx]; exact Decidable.not_not.1 hne
  ·refine Aw (Aa (Aa (Af (Ab (Ax (Qm rfl (Aq (Ao ?_))))))))
   exact Am rfl rfl (by rw [Jf]; exact fun _ i' hi' => hno i' (by omega))
def Vo (Z : Zz) (l : List SV) : Prop := Z.Rt ∧ (∀ s ∈ l, s.Shp Z) ∧ Valid Z.zg (Fj l)
def Ll (Z : Zz) (k : Nat) (s : SV) : Prop := Vj Z.p (Z.zg.d (Z.zg.tgt k)) (Z.zg.d (Z.zg.src k)) (Z.zg.mat k) s (Z.zg.src k) (Z.zg.tgt k)
theorem Nf {Z : Zz} (hRt : Z.Rt) {l : List SV} (hS : ∀ s ∈ l, s.Shp Z) {k t : Nat} (hk : k < Z.ars.length) (ht : t < l.length) : Ll Z k l[t] ↔ ((Fj l).on (Z.zg.src k) t = true → ∀ i, i < Z.zg.d (Z.zg.tgt k) → Cg Z.p (ap (Z.zg.mat k) (Z.zg.d (Z.zg.src k)) ((Fj l).vec t (Z.zg.src k)) i) (if (Fj l).on (Z.zg.tgt k) t then (Fj l).vec t (Z.zg.tgt k) i else 0)) := by
 have hsh := hS _ (List.getElem_mem ht)
 have hp := hRt.2.2.2.1.1
 have ev : ∀ k i, (Fj l).vec t k i = (l[t].at_ k).getD i 0 := fun k i => by
  show ((l.getD t default).at_ k).getD i 0 = _
  rw [Et ht]
 rw [IX hS ht, IX hS ht, decide_eq_true_iff]
 unfold Ll Vj
 refine forall_congr' fun ho => forall_congr' fun i => forall_congr' fun hi => ?_
 rw [Cg.iff_mod]
 have e1 : ap (Z.zg.mat k) (Z.zg.d (Z.zg.src k)) (fun j => (l[t].at_ (Z.zg.src k)).getD j 0) i = ap (Z.zg.mat k) (Z.zg.d (Z.zg.src k)) ((Fj l).vec t (Z.zg.src k)) i := AE fun j _ => by rw [ev]
 rw [e1]
 have e2 : (if decide (l[t].on (Z.zg.tgt k)) = true then (Fj l).vec t (Z.zg.tgt k) i else 0) % Z.p = if l[t].on (Z.zg.tgt k) then (l[t].at_ (Z.zg.tgt k)).getD i 0 else 0 := by
  by_cases h : l[t].on (Z.zg.tgt k)
  ·rw [if_pos (decide_eq_true h), if_pos h, ev]
   obtain ⟨h1, h2⟩ := hsh.row hRt h
   have hi' : i < (l[t].at_ (Z.zg.tgt k)).length := by omega
   rw [Gw hi']
   have := h2 _ (List.getElem_mem hi')
   exact Int.emod_eq_of_lt this.1 this.2
  ·rw [if_neg (by simpa using h), if_neg h, Int.zero_emod]
 rw [e2]
theorem HA {Z : Zz} (hRt : Z.Rt) {l : List SV} (hS : ∀ s ∈ l, s.Shp Z) : Valid Z.zg (Fj l) ↔ (∀ k, k < Z.dims.length → OK Z l k) ∧ ∀ k, k < Z.ars.length → ∀ t (ht : t < l.length), Ll Z k l[t] := by
 have hna := Z.nars hRt
 constructor
 ·exact fun V => ⟨fun k hk => ⟨V.cnt k hk, V.ind k hk⟩, fun k hk t ht => (Nf hRt hS hk ht).2 fun ho i hi => V.arr k (show k + 1 < Z.dims.length by omega) t ht ho i hi⟩
 ·rintro ⟨h1, h2⟩
  refine ⟨fun t ht => ?_, fun k hk => (h1 k hk).2, fun k hk => (h1 k hk).1, fun k hk t ht ho i hi => ?_⟩
  ·have ht' : t < l.length := ht
   have hsh := hS _ (List.getElem_mem ht')
   show (l.getD t default).e.fr.toNat ≤ (l.getD t default).e.to.toNat ∧ (l.getD t default).e.to.toNat < Z.dims.length
   rw [Et ht']
   have q1 := hsh.1
   have q2 := hsh.2.1
   have q3 := hsh.2.2.1
   omega
  ·have hk' : k + 1 < Z.dims.length := hk
   exact (Nf hRt hS (by omega) ht).1 (h2 k (by omega) t ht) ho i hi
theorem OF (Z : Zz) (vd va : Value) (l : List SV) (vl : Value) (h : Hp) (hO : Z.Ok) (hR : RdZ h vd va Z) (hL : RdSs h vl l) (hN : l.length ≤ 1000000) : FnT Tryz.prog 31 #[.agg #[.int .i64 Z.p, vd, va], vl] h [] (fun r _ _ => r = .bool (bl (Vo Z l))) := by
 have o1 := hR.d.rd.one
 have o2 := hR.a.rd.one
 refine Av func31 ntmps31 rfl rfl (fun w0 hw0 => ?_)
 simp only [A4]
 refine Ax ?_
 refine AS [_, _, _] rfl rfl (by rfl) rfl rfl rfl (fun g2 => ?_)
 refine Qm rfl (Aq (AL fun h1 l1 hS2 => ?_))
 have hR := hR.up l1
 have hL := hL.up l1
 have hA := Seg.all hS2
 refine Ax (Qx (oG rfl underlying30 Bz (Seg.any hS2)) rfl (Qx (AG rfl call22 rfl (Ds (Ff Z vd va _ hO hR) _)) rfl (Qm rfl (Aq (Ac (Ax (Qm rfl (Qm rfl (Aq ?_)))))))))
 refine BJ rfl (fun hb => ?_) (fun hb => ?_)
 ·have hb : ¬ Z.Rt := by simpa using hb
  refine Ax (Qm rfl (Aq (Ao (Ae ?_))))
  exact Am rfl rfl (by rw [E6]; exact fun h => hb h.1)
 ·have hRt : Z.Rt := by simpa using hb
  have n1 := hRt.1
  have n2 := hRt.2.1
  have hna := Z.nars hRt
  refine Ai (Ab (Ac (Ax (Qm rfl (Aq (Ag ?_))))))
  refine AD (fun q sl hh ms' => ∃ (i : Nat), q = l.length - i ∧ sl = [(1, vl), (2, .pointer (some ⟨g2, 0, none⟩)), (6, .int .i64 i)] ∧ h1 = hh ∧ ms' = [] ∧ i ≤ l.length ∧ ∀ i' (hi' : i' < l.length), i' < i → l[i'].Shp Z)
   (l.length - 0) _ ⟨0, rfl, rfl, rfl, rfl, by omega, fun i' _ h => by omega⟩ Qs ?_
  rintro q sl hh ms' ⟨i, rfl, rfl, rfl, rfl, hi, hno⟩
  refine Ac (Ax (Qm rfl (Qm rfl (Qx (AJ hL.q.rd.any rfl underlying60 rfl) rfl (Qm rfl (Aq ?_))))))
  refine AF rfl (fun hlt => ?_) (fun hlt => ?_)
  ·have hil : i < l.length := Bx hlt
   have hW := hL.w _ (List.getElem_mem hil)
   have hseg : ∀ ms, Seg h1 ms ((Bl vl).add (i * 3)) (VZ l[i]) := fun ms => (hL.q.any (ms := ms)).seg hil
   refine Ai (Ab (Ac (Ag (Ac (BB 5 Cd (by kernel_rfl) rfl (AV (oG rfl underlying30 Bz (Seg.any hS2)) rfl rfl (Wm rfl (Wm rfl (AV (Ah (i) hL.q.rd.any rfl underlying60 BP rfl rfl (by omega) (by omega)) rfl rfl (AV (oG rfl underlying64 BP (hseg _)) rfl rfl (BC (Qx (AG rfl call60 rfl (Ps Z vd va l[i] h1 hRt hR hW _)) rfl (Qm rfl (B3 (Qm rfl (Qm rfl (Aq ?_)))))))))))))))))
   refine BJ rfl (fun hb2 => ?_) (fun hb2 => ?_)
   ·refine Ac (Ad (Qm rfl (Aq (Ao (Ap (Ae (Ae (Ap (Ae ?_)))))))))
    exact Am rfl rfl (by rw [E6]; intro h; rw [Jf (h.2.1 _ (List.getElem_mem hil))] at hb2; simp at hb2)
   ·have hs : l[i].Shp Z := bl_iff.1 (by simpa using hb2)
    refine Ai (Aj (Ab (Ad (Qm rfl (Qx (oA rfl) rfl (Qm rfl (Ak ?_)))))))
    refine Al (l.length - (i + 1)) _ (by omega) ⟨i + 1, rfl, rfl, rfl, rfl, by omega, fun i' hi' h => ?_⟩ Qs
    rcases (by omega : i' < i ∨ i' = i) with h | rfl
    ·exact hno i' hi' h
    ·exact hs
  ·have hS : ∀ s ∈ l, s.Shp Z := fun s hs => by
    obtain ⟨t, ht, rfl⟩ := List.mem_iff_getElem.1 hs
    exact hno t ht (by omega)
   have hA0 := hA 0 _ rfl
   refine Aw (Aa (Aa (Af (Ab (Ac (Ax (Qm rfl (Aq (Ag ?_)))))))))
   refine AD (fun q sl hh ms' => ∃ (k : Nat), q = Z.dims.length - k ∧ sl = [(1, vl), (2, .pointer (some ⟨g2, 0, none⟩)), (8, .int .i64 k)] ∧ h1 = hh ∧ ms' = [] ∧ k ≤ Z.dims.length ∧ ∀ k', k' < k → OK Z l k')
    (Z.dims.length - 0) _ ⟨0, rfl, rfl, rfl, rfl, by omega, fun k' h => by omega⟩ Qs ?_
   rintro q sl hh ms' ⟨k, rfl, rfl, rfl, rfl, hk, hbas⟩
   refine Ac (Ax (Qm rfl (Qf Bn rfl (Ql rfl underlying24 (hA _ _ rfl _) (Qx (AJ hR.d.rd.any rfl underlying24 rfl) rfl (Qm rfl (Aq ?_)))))))
   refine AF rfl (fun hlt2 => ?_) (fun hlt2 => ?_)
   ·have hkl : k < Z.dims.length := by omega
    refine Ai (Ab (Ac (Ag (Ax (Qx (oG rfl underlying30 Bz (Seg.any hS2)) rfl (Qm rfl (Qm rfl (Qx (AG rfl call61 rfl (Ds (ON Z vd va l vl k h1 hRt hR hL hS hkl hN) _)) rfl (Qm rfl (B3 (Qm rfl (Qm rfl (Aq ?_)))))))))))))
    refine BJ rfl (fun hb3 => ?_) (fun hb3 => ?_)
    ·refine Ac (Ad (Qm rfl (Aq (Ao (Ap (Ae (Ae (Ap (Ae ?_)))))))))
     exact Am rfl rfl (by rw [E6]; intro h; rw [Jf (((HA hRt hS).1 h.2.2).1 k hkl)] at hb3; simp at hb3)
    ·have hs : OK Z l k := bl_iff.1 (by simpa using hb3)
     refine Ai (Aj (Ab (Ad (Qm rfl (Qx (oA rfl) rfl (Qm rfl (Ak ?_)))))))
     refine Al (Z.dims.length - (k + 1)) _ (by omega) ⟨k + 1, rfl, rfl, rfl, rfl, by omega, fun k' h => ?_⟩ Qs
     rcases (by omega : k' < k ∨ k' = k) with h | rfl
     ·exact hbas k' h
     ·exact hs
   ·have hB : ∀ k, k < Z.dims.length → OK Z l k := fun k' h => hbas k' (by omega)
    refine Aw (Aa (Aa (Af (Ab (Ac (Ax (Qm rfl (Aq (Ag ?_)))))))))
    refine AD (fun q sl hh ms' => ∃ (k : Nat), q = Z.ars.length - k ∧ sl = [(1, vl), (2, .pointer (some ⟨g2, 0, none⟩)), (10, .int .i64 k)] ∧ h1 = hh ∧ ms' = [] ∧ k ≤ Z.ars.length ∧ ∀ k', k' < k → ∀ t (ht : t < l.length), Ll Z k' l[t])
     (Z.ars.length - 0) _ ⟨0, rfl, rfl, rfl, rfl, by omega, fun k' h => by omega⟩ Qs ?_
    rintro q sl hh ms' ⟨k, rfl, rfl, rfl, rfl, hk, harr⟩
    refine Ac (Ax (Qm rfl (Qf BQ rfl (Ql rfl underlying28 (hA _ _ rfl _) (Qx (AJ hR.a.rd.any rfl underlying28 rfl) rfl (Qm rfl (Aq ?_)))))))
    refine AF rfl (fun hlt3 => ?_) (fun hlt3 => ?_)
    ·have hka : k < Z.ars.length := by omega
     refine Ai (Ab (Ac (Ag (Ax (Qm rfl (Aq (Ag ?_)))))))
     refine AD (fun q sl hh ms' => ∃ (t : Nat), q = l.length - t ∧ sl = [(1, vl), (2, .pointer (some ⟨g2, 0, none⟩)), (10, .int .i64 k), (11, .int .i64 t)] ∧ h1 = hh ∧ ms' = [] ∧ t ≤ l.length ∧ ∀ t' (ht : t' < l.length), t' < t → Ll Z k l[t'])
      (l.length - 0) _ ⟨0, rfl, rfl, rfl, rfl, by omega, fun t' _ h => by omega⟩ Qs ?_
     rintro q sl hh ms' ⟨t, rfl, rfl, rfl, rfl, ht, harr2⟩
     refine Ac (Ax (Qm rfl (Qm rfl (Qx (AJ hL.q.rd.any rfl underlying60 rfl) rfl (Qm rfl (Aq ?_))))))
     refine AF rfl (fun hlt4 => ?_) (fun hlt4 => ?_)
     ·have htl : t < l.length := Bx hlt4
      have hmem := List.getElem_mem htl
      have hW := hL.w _ hmem
      have hsh := hS _ hmem
      have hseg : ∀ ms, Seg h1 ms ((Bl vl).add (t * 3)) (VZ l[t]) := fun ms => (hL.q.any (ms := ms)).seg htl
      obtain ⟨f1, f2, f3, f4, f5⟩ := Z.arrow hRt hka
      have ho := hR.e _ (List.getElem_mem hka)
      have oav := ho.rd.one
      obtain ⟨es, et⟩ := Z.zg_src hka
      have hb4 := Z.zg_back hka
      refine Ai (Ab ?_)
      refine Bv (fun sl hh ms' => sl = [(1, vl), (2, .pointer (some ⟨g2, 0, none⟩)), (10, .int .i64 k), (11, .int .i64 t)] ∧ h1 = hh ∧ ms' = [] ∧ Ll Z k l[t]) ?_ (fun s h ms hI => ?_)
      ·refine Ag (Ax (Qm rfl (Qm rfl (B3 (Qm rfl (Qx (oA rfl) rfl (Qm rfl (Aq ?_))))))))
       refine Bv (fun sl hh ms' => ∃ a b : Int, sl = [(1, vl), (2, .pointer (some ⟨g2, 0, none⟩)), (10, .int .i64 k), (11, .int .i64 t), (12, .int .i64 a), (13, .int .i64 b)] ∧ h1 = hh ∧ ms' = [] ∧ a = Z.zg.src k ∧ b = Z.zg.tgt k) ?_ (fun s h ms hI => ?_)
       ·refine Ac (Ad (Qf BQ rfl (Ql rfl underlying28 (hA _ _ rfl _) (Qm rfl (Qx (Ah (k) hR.a.rd.any rfl underlying28 Cr rfl rfl (by omega) (by omega)) rfl (Qf EK rfl (Ql rfl underlying4 (hR.a.any.cell hka rfl) (Aq ?_))))))))
        refine BJ rfl (fun hb5 => ?_) (fun hb5 => ?_)
        ·refine Ac (Ad (Qm rfl (Qx (oA rfl) rfl (Qm rfl (IA (Qm rfl (Qm rfl (Ak ?_))))))))
         exact AA _ ⟨(k : Int) + 1, (k : Int), rfl, rfl, rfl, by rw [es]; unfold Ar.src; rw [hb5]; rfl, by rw [et]; unfold Ar.tgt; rw [hb5]; rfl⟩ Qs
        ·refine Ai ?_
         exact AA _ ⟨(k : Int), (k : Int) + 1, rfl, rfl, rfl, by rw [es]; unfold Ar.src; rw [hb5]; rfl, by rw [et]; unfold Ar.tgt; rw [hb5]; rfl⟩ Qs
       ·obtain ⟨a, b, rfl, rfl, rfl, rfl, rfl⟩ := hI
        have hsrc : Z.zg.src k ≤ 1000 := by rcases Z.zg.src_tgt k with ⟨e, _, _⟩ | ⟨e, _, _⟩ <;> omega
        have htgt : Z.zg.tgt k ≤ 1000 := by rcases Z.zg.src_tgt k with ⟨_, e, _⟩ | ⟨_, e, _⟩ <;> omega
        have hcar : ∀ ms, Dq Tryz.prog 62 #[.agg #[.int .i64 Z.ars[k].M.p, .int .i64 Z.ars[k].M.rows, .int .i64 Z.ars[k].M.cols, Z.ars[k].v], .agg #[.int .i64 l[t].e.fr, .int .i64 l[t].e.to, l[t].e.v], .int .i64 (Z.zg.src k), .int .i64 (Z.zg.tgt k)] h1 ms (.bool (bl (Ll Z k l[t]))) := fun ms => by
         rw [f1, f2, f3]
         rw [f4] at ho
         exact Mv Z.p _ _ _ _ l[t] _ _ h1 f5 ho hW hsh.long (fun h => hsh.row hRt h) (fun h => (hsh.row hRt h).1) hsrc htgt ms
        refine Ac (BB 12 Cd (by kernel_rfl) rfl (Wf BQ rfl (Wl rfl underlying28 (hA _ _ rfl _) (Wm rfl (AV (Ah (k) hR.a.rd.any rfl underlying28 Cr rfl rfl (by omega) (by omega)) rfl rfl (Wf Ca rfl (AV (oG rfl underlying42 AI (FQ hR hka)) rfl rfl (Wm rfl (Wm rfl (AV (Ah (t) hL.q.rd.any rfl underlying60 BP rfl rfl (by omega) (by omega)) rfl rfl (AV (oG rfl underlying64 BP (hseg _)) rfl rfl (Wm rfl (Wm rfl (BC (Qx (AG rfl call62 rfl (hcar _)) rfl (Qm rfl (B3 (Qm rfl (Qm rfl (Aq ?_))))))))))))))))))))
        refine BJ rfl (fun hb6 => ?_) (fun hb6 => ?_)
        ·refine Ac (Ad (Qm rfl (Aq (Ao (Ap (Ae (Ae (Ap (Ap (Ae (Ae (Ap (Ae ?_)))))))))))))
         exact Am rfl rfl (by rw [E6]; intro h; rw [Jf (((HA hRt hS).1 h.2.2).2 k hka t htl)] at hb6; simp at hb6)
        ·have hs : Ll Z k l[t] := bl_iff.1 (by simpa using hb6)
         refine Ai (Aj ?_)
         exact AA _ ⟨rfl, rfl, rfl, hs⟩ Qs
      ·obtain ⟨rfl, rfl, rfl, hs⟩ := hI
       refine Ad (Qm rfl (Qx (oA rfl) rfl (Qm rfl (Ak ?_))))
       refine Al (l.length - (t + 1)) _ (by omega) ⟨t + 1, rfl, rfl, rfl, rfl, by omega, fun t' ht' h => ?_⟩ Qs
       rcases (by omega : t' < t ∨ t' = t) with h | rfl
       ·exact harr2 t' ht' h
       ·exact hs
     ·refine Aw (Aa (Aa (Af (Aj (Ab (Ad (Qm rfl (Qx (oA rfl) rfl (Qm rfl (Ak ?_))))))))))
      refine Al (Z.ars.length - (k + 1)) _ (by omega) ⟨k + 1, rfl, rfl, rfl, rfl, by omega, fun k' h t' ht' => ?_⟩ Qs
      rcases (by omega : k' < k ∨ k' = k) with h | rfl
      ·exact harr k' h t' ht'
      ·exact harr2 t' ht' (by omega)
    ·refine Aw (Aa (Aa (Af (Ab (Ax (Qm rfl (Aq (Ao ?_))))))))
     exact Am rfl rfl (by rw [Jf]; exact ⟨hRt, hS, (HA hRt hS).2 ⟨hB, fun k' hk' t ht => harr k' (by omega) t ht⟩⟩)
end Go.Proofs.YtdnelknieikbaaaGreat
namespace Go.Proofs.YtdnelknieikbaaaGreat
open Go.Proofs.Tryz
open Go.Eng Go.RowKit Go.Lin Go.Sort Go.Srt
def Mc : Value := .func (.func 59) #[] #[]
theorem Ng (d : Array StE) (v : Value) (m : Hp) (hO : OS m v d) (a b : Nat) (hab : a ≤ b) (hb : b ≤ d.size) (hsz : d.size ≤ 1000000) (h : Hp) {a' b' : Int} (ea : a' = a) (eb : b' = b) :
  FnT Tryz.prog 117 #[v, .int .i64 a', .int .i64 b', Mc] h [m] (fun _ h' ms' => h = h' ∧ ∃ m' d', ms' = [m'] ∧ OS m' v d' ∧ PermIn a b d d' ∧ SortedIn Ep a b d') := by
 subst ea eb
 have hfin := insertionSort_holds (lt := Ep) Ik d a b hab hb
 refine Av func117 ntmps117 rfl rfl (fun w0 hw0 => ?_)
 simp only [A4]
 refine Ax (Qm rfl (Qx (oA rfl) rfl (Qm rfl (Aq (Ag ?_)))))
 refine AD (fun n s h' ms' => ∃ (i : Nat) (z : Int) (d' : Array StE) (m : Hp), n = b - i ∧ s = [(0, v), (1, .int .i64 a), (2, .int .i64 b), (3, Mc), (8, .int .i64 z)] ∧ h = h' ∧ ms' = [m] ∧ z = i ∧ a < i ∧ i ≤ 4611686018427387905 ∧ OS m v d' ∧ d'.size = d.size ∧ insOuter Ep a b i d' = insertionSort Ep d a b)
  _ _ ⟨a + 1, (a : Int) + 1, d, m, rfl, rfl, rfl, rfl, by omega, by omega, by omega, hO, rfl, rfl⟩ Qs ?_
 rintro n s h' ms' ⟨i, z, d', m, rfl, rfl, rfl, rfl, hz, hai, hi, hO, hds, hR⟩
 refine Ac (Ax (Qm rfl (Qm rfl (Qm rfl (Aq ?_)))))
 refine AF rfl (fun hlt => ?_) (fun hlt => ?_)
 ·refine Ai (Ab (Ac (Ag (Ax (Qm rfl (Qm rfl (Aq (Ag ?_))))))))
  refine AD (fun n s h' ms' => ∃ (j : Nat) (y : Int) (d' : Array StE) (m : Hp), j = n ∧ s = [(0, v), (1, .int .i64 a), (2, .int .i64 b), (3, Mc), (8, .int .i64 z), (9, .int .i64 y)] ∧ h = h' ∧ ms' = [m] ∧ y = j ∧ j ≤ i ∧ OS m v d' ∧ d'.size = d.size ∧ insOuter Ep a b (i + 1) (insInner Ep a j d') = insertionSort Ep d a b)
   _ _ ⟨i, z, d', m, rfl, rfl, rfl, rfl, hz, by omega, hO, hds, by rw [← hR]; conv => rhs; unfold insOuter; rw [if_pos (by omega)]⟩ Qs ?_
  rintro n s h' ms' ⟨j, y, d1, m1, rfl, rfl, rfl, rfl, hy, hji, hO1, hds1, hR1⟩
  refine Ac (Ac (BB 14 Cd (by kernel_rfl) rfl (Wm rfl (Wm rfl (Wm rfl (Wm rfl ?_))))))
  refine DR (t := 21) rfl (fun hja => ?_) (fun hja => ?_)
  ·refine Bp (As rfl rfl) rfl rfl rfl rfl (Bp (As rfl rfl) rfl rfl rfl rfl (Bp (As rfl rfl) rfl rfl rfl rfl (Bp (Ah (j) (hO1.rd (.head _)) rfl underlying60 BP rfl rfl (by omega) (by omega)) rfl rfl rfl rfl (Bp (oG rfl underlying64 BP (hO1.get (.head _) (by omega))) rfl rfl rfl rfl (Bp (As rfl rfl) rfl rfl rfl rfl (Bp (As rfl rfl) rfl rfl rfl rfl (Bp (oS rfl) rfl rfl rfl rfl (Bp (Ah (j - 1) (hO1.rd (.head _)) rfl underlying60 BP rfl rfl (by omega) (by omega)) rfl rfl rfl rfl (Bp (oG rfl underlying64 BP (hO1.get (.head _) (by omega))) rfl rfl rfl rfl (BC (Qg (En rfl rfl call59 rfl (Kp _ _ _ _)) rfl (Qg (Dy rfl rfl rfl) rfl (Qm rfl (Aq ?_))))))))))))))
   refine BJ rfl (fun hl => ?_) (fun hl => ?_)
   ·refine Ai (Ab (Ac (Ag (Hd 14 [false, false, true, true, true] Cd (by kernel_rfl) (by kernel_rfl) (by kernel_rfl) (HK rfl rfl rfl rfl (D4 rfl rfl) (HK rfl rfl rfl rfl (D4 rfl rfl) (HK rfl rfl rfl rfl (RI rfl rfl rfl (by omega)) ?_)))))))
    refine ⟨rfl, ?_⟩
    simp only [EH, zap, List.cons_append, List.nil_append, List.take_succ_cons, List.take_zero, List.drop_succ_cons, List.drop_zero, List.take_nil, List.drop_nil]
    refine Wm rfl (Wm rfl (HL rfl rfl rfl (HL rfl rfl rfl (HL rfl rfl rfl (Wm rfl (Wm rfl (AV (oS rfl) rfl rfl (AV (Ah (j - 1) (hO1.rd (.head _)) rfl underlying60 BP rfl rfl (by omega) (by omega)) rfl rfl (AV (oG rfl underlying64 BP (hO1.get (.head _) (by omega))) rfl rfl (Wm rfl (Wm rfl (AV (Ah (j) (hO1.rd (.head _)) rfl underlying60 BP rfl rfl (by omega) (by omega)) rfl rfl (AV (oG rfl underlying64 BP (hO1.get (.head _) (by omega))) rfl rfl (BC (Qx (Ah (j) (hO1.rd (.head _)) rfl underlying60 BP rfl rfl (by omega) (by omega)) rfl (Dn 0 _ hO1 rfl BP rfl rfl rfl (by omega) rfl rfl (fun mhO2 hzhO2 hO2 => Qx (Ah (j - 1) (hO2.rd (.head _)) rfl underlying60 BP rfl rfl (by omega) (by omega)) rfl (Dn 0 _ hO2 rfl BP rfl rfl rfl (by omega) rfl rfl (fun mhO3 hzhO3 hO3 => Ak (NQ (Aj (Ab (Ad (Qm rfl (Qx (oS rfl) rfl (Qm rfl (Ak ?_)))))))))))))))))))))))))))
    obtain ⟨j', rfl⟩ : ∃ j', j = j' + 1 := ⟨j - 1, by omega⟩
    refine Al j' _ (by omega) ⟨j', y - 1, _, mhO3, rfl, rfl, rfl, rfl, by omega, by omega, hO3, by simp [hds1], ?_⟩ Qs
    rw [← hR1]
    conv => rhs; unfold insInner
    rw [if_pos (by rw [Bool.and_eq_true]; exact ⟨decide_eq_true (by omega), hl⟩)]
    rfl
   ·refine Aw (Aa (Aa (Af (Aj (Ab (Ad (Qm rfl (Qx (oA rfl) rfl (Qm rfl (Ak ?_))))))))))
    refine Al (b - (i + 1)) _ (by omega) ⟨i + 1, z + 1, d1, m1, rfl, rfl, rfl, rfl, by omega, by omega, by omega, hO1, hds1, ?_⟩ Qs
    rw [← hR1]
    obtain ⟨j', rfl⟩ : ∃ j', j = j' + 1 := ⟨j - 1, by omega⟩
    conv => rhs; unfold insInner
    rw [if_neg (by rw [Bool.and_eq_true]; rintro ⟨_, h2⟩; exact absurd (hl.symm.trans h2) (by decide))]
  ·refine AN rfl rfl rfl rfl rfl (AN rfl rfl rfl rfl rfl (AN rfl rfl rfl rfl rfl (AN rfl rfl rfl rfl rfl (AN rfl rfl rfl rfl rfl (AN rfl rfl rfl rfl rfl (AN rfl rfl rfl rfl rfl (AN rfl rfl rfl rfl rfl (AN rfl rfl rfl rfl rfl (AN rfl rfl rfl rfl rfl (BC (Qk rfl (Qk rfl (Qm rfl (Aq (Bb rfl (Aw (Aa (Aa (Af (Aj (Ab (Ad (Qm rfl (Qx (oA rfl) rfl (Qm rfl (Ak ?_))))))))))))))))))))))))))
   refine Al (b - (i + 1)) _ (by omega) ⟨i + 1, z + 1, d1, m1, rfl, rfl, rfl, rfl, by omega, by omega, by omega, hO1, hds1, ?_⟩ Qs
   rw [← hR1]
   cases j with
   | zero => rfl
   | succ j' =>
    conv => rhs; unfold insInner
    rw [if_neg (by simp; intro h'; omega)]
 ·refine Aw (Aa (Aa (Af ?_)))
  exact B6 rfl (⟨rfl, m, insertionSort Ep d a b, rfl, by rw [← hR]; unfold insOuter; rw [if_neg (by omega)]; exact hO, hfin.1, hfin.2⟩)
end Go.Proofs.YtdnelknieikbaaaGreat
namespace Go.Proofs.YtdnelknieikbaaaGreat
open Go.Proofs.Tryz
open Go.Eng Go.RowKit Go.Lin Go.Sort Go.Srt
theorem J2 (i j : Nat) (h : i + j < 4611686018427387904) : IntKind.i64.wrap (((i + j) % ((2 : Int) ^ IntKind.u64.bits).natAbs / 2 ^ 1 : Nat) : Int) = (((i + j) / 2 : Nat) : Int) := by
 have e1 : (2 ^ IntKind.u64.bits : Int).natAbs = 18446744073709551616 := by decide
 rw [e1, Nat.mod_eq_of_lt (by omega)]
 show IntKind.i64.wrap (((i + j) / 2 : Nat) : Int) = _
 unfold IntKind.wrap
 simp [IntKind.bits, IntKind.signed]
 omega
theorem HX : ∀ (N : Nat) (d : Array StE) (v : Value) (m : Hp) (hO : OS m v d) (a t b : Nat) (hN : b - a ≤ N) (hat : a < t) (htb : t < b) (hb : b ≤ d.size) (hsz : d.size ≤ 1000000) (hA : SortedIn Ep a t d) (hB : SortedIn Ep t b d) (h : Hp) {a' t' b' : Int} (ea : a' = a) (et : t' = t) (eb : b' = b),
  FnT Tryz.prog 118 #[v, .int .i64 a', .int .i64 t', .int .i64 b', Mc] h [m] (fun _ h' ms' => h = h' ∧ ∃ m' d', ms' = [m'] ∧ OS m' v d' ∧ PermIn a b d d' ∧ SortedIn Ep a b d') := by
 intro N
 induction N with
 | zero => intro d v m hO a t b hN hat htb; omega
 | succ N ih =>
 intro d v m hO a t b hN hat htb hb hsz hA hB h a' t' b' ea et eb
 subst ea et eb
 refine Av func118 ntmps118 rfl rfl (fun w0 hw0 => ?_)
 simp only [A4]
 refine Ac (Ax (Qm rfl (Qm rfl (Qx (oS rfl) rfl (Qm rfl (Aq ?_))))))
 refine AF rfl (fun h1 => ?_) (fun h1 => ?_)
 ·-- one element on the left
  obtain rfl : t = a + 1 := by omega
  refine Ax (Qm rfl (Qm rfl (B3 (Qm rfl (Qm rfl (Aq (Ac (Ag ?_))))))))
  refine AD (fun n s h' ms' => ∃ (i j : Nat), n = j - i ∧ s = [(0, v), (1, .int .i64 a), (4, Mc), (10, .int .i64 i), (11, .int .i64 j)] ∧ h = h' ∧ ms' = [m] ∧ a + 1 ≤ i ∧ i ≤ j ∧ j ≤ b ∧ (i = a + 1 ∨ Ep d[i - 1]! d[a]! = true) ∧ (j = b ∨ Ep d[j]! d[a]! = false))
   (b - (a + 1)) _ ⟨a + 1, b, rfl, rfl, rfl, rfl, by omega, by omega, by omega, .inl rfl, .inl rfl⟩ Qs ?_
  rintro n s h' ms' ⟨i, j, rfl, rfl, rfl, rfl, hi, hij, hj, c1, c2⟩
  refine Ac (Ax (Qm rfl (Qm rfl (Qm rfl (Aq ?_)))))
  refine AF rfl (fun hlt => ?_) (fun hlt => ?_)
  ·refine Ai (Ab (Ag (Ax (Qm rfl (Qm rfl (Qx (oA rfl) rfl (Qx (DQ rfl underlying3 underlying143 rfl) rfl (Qx (Ie (n := 1) rfl rfl rfl (by omega)) rfl (Qx (DQ rfl underlying143 underlying3 rfl) rfl (Qm rfl (Aq ?_)))))))))))
   rw [J2 i j (by omega)]
   refine Ac (BB 9 Cd (by kernel_rfl) rfl (Wm rfl (Wm rfl (Wm rfl (AV (Ah ((i + j) / 2) (hO.rd (.head _)) rfl underlying60 BP rfl rfl (by omega) (by omega)) rfl rfl (AV (oG rfl underlying64 BP (hO.get (.head _) (by omega))) rfl rfl (Wm rfl (Wm rfl (AV (Ah (a) (hO.rd (.head _)) rfl underlying60 BP rfl rfl (by omega) (by omega)) rfl rfl (AV (oG rfl underlying64 BP (hO.get (.head _) (by omega))) rfl rfl (BC (Qx (En rfl rfl call59 rfl (Kp _ _ _ _)) rfl (Qm rfl (Aq ?_))))))))))))))
   refine BJ rfl (fun hl => ?_) (fun hl => ?_)
   ·refine Ad (Qm rfl (Qx (oA rfl) rfl (Qm rfl (Ak (Aj ?_)))))
    exact Al (j - ((i + j) / 2 + 1)) _ (by omega) ⟨(i + j) / 2 + 1, j, rfl, rfl, rfl, rfl, by omega, by omega, by omega, .inr (by rw [Nat.add_sub_cancel]; exact hl), c2⟩ Qs
   ·refine Ad (Qm rfl (Qm rfl (Ak (Aj ?_))))
    exact Al ((i + j) / 2 - i) _ (by omega) ⟨i, (i + j) / 2, rfl, rfl, rfl, rfl, by omega, by omega, by omega, c1, .inr hl⟩ Qs
  ·obtain rfl : i = j := by omega
   refine Aw (Aa (Aa (Af (Ab (Ac (Ax (Qm rfl (Qm rfl (Aq (Ag ?_))))))))))
   refine AD (fun n s h' ms' => ∃ (k : Nat) (d0 : Array StE) (m : Hp), n = i - 1 - k ∧ s = [(0, v), (10, .int .i64 i), (13, .int .i64 k)] ∧ h = h' ∧ ms' = [m] ∧ a ≤ k ∧ k ≤ i - 1 ∧ OS m v d0 ∧ InsR d d0 a k ∧ PermIn a b d d0)
    (i - 1 - a) _ ⟨a, d, m, rfl, rfl, rfl, rfl, by omega, by omega, hO, InsR.start d a, permIn_refl d a b⟩ Qs ?_
   rintro n s h' ms' ⟨k, d0, m0, rfl, rfl, rfl, rfl, hak, hki, hO0, R, P⟩
   have hds := R.1
   refine Ac (Ax (Qm rfl (Qm rfl (Qx (oS rfl) rfl (Qm rfl (Aq ?_))))))
   refine AF rfl (fun hltk => ?_) (fun hltk => ?_)
   ·refine Ai (Ab (Ac (Ag (Hd 14 [false, false, true, true, true] Cd (by kernel_rfl) (by kernel_rfl) (by kernel_rfl) (HK rfl rfl rfl rfl (D4 rfl rfl) (HK rfl rfl rfl rfl (D4 rfl rfl) (HK rfl rfl rfl rfl (QY rfl rfl rfl (by omega)) ?_)))))))
    refine ⟨rfl, ?_⟩
    simp only [EH, zap, List.cons_append, List.nil_append, List.take_succ_cons, List.take_zero, List.drop_succ_cons, List.drop_zero, List.take_nil, List.drop_nil]
    refine Wm rfl (Wm rfl (HL rfl rfl rfl (HL rfl rfl rfl (HL rfl rfl rfl (Wm rfl (Wm rfl (AV (oA rfl) rfl rfl (AV (Ah (k + 1) (hO0.rd (.head _)) rfl underlying60 BP rfl rfl (by omega) (by omega)) rfl rfl (AV (oG rfl underlying64 BP (hO0.get (.head _) (by omega))) rfl rfl (Wm rfl (Wm rfl (AV (Ah (k) (hO0.rd (.head _)) rfl underlying60 BP rfl rfl (by omega) (by omega)) rfl rfl (AV (oG rfl underlying64 BP (hO0.get (.head _) (by omega))) rfl rfl (BC (Qx (Ah (k) (hO0.rd (.head _)) rfl underlying60 BP rfl rfl (by omega) (by omega)) rfl (Dn 0 _ hO0 rfl BP rfl rfl rfl (by omega) rfl rfl (fun mhO1 hzhO1 hO1 => Qx (Ah (k + 1) (hO1.rd (.head _)) rfl underlying60 BP rfl rfl (by omega) (by omega)) rfl (Dn 0 _ hO1 rfl BP rfl rfl rfl (by omega) rfl rfl (fun mhO2 hzhO2 hO2 => Ak (NQ (Aj (Ab (Ad (Qm rfl (Qx (oA rfl) rfl (Qm rfl (Ak ?_)))))))))))))))))))))))))))
    exact Al (i - 1 - (k + 1)) _ (by omega) ⟨k + 1, _, mhO2, rfl, rfl, rfl, rfl, by omega, by omega, hO2, R.step hak (by omega), permIn_trans _ _ _ _ _ P (swp_permIn d0 a b k (k + 1) (by omega) (by omega) (by omega) (by omega) (by omega))⟩ Qs
   ·obtain rfl : k = i - 1 := by omega
    refine Aw (Aa (Aa (Af (Ab (Ao (Ae ?_))))))
    exact NT rfl (⟨rfl, m0, d0, rfl, hO0, P, Mg Ik hB ⟨hi, hj⟩ c1 c2 R⟩)
 ·refine Ai (Ab (Ac (Ax (Qm rfl (Qm rfl (Qx (oS rfl) rfl (Qm rfl (Aq ?_))))))))
  refine AF rfl (fun h2 => ?_) (fun h2 => ?_)
  ·-- one element on the right
   obtain rfl : b = t + 1 := by omega
   refine Ax (Qm rfl (Qm rfl (B3 (Qm rfl (Qm rfl (Aq (Ac (Ag ?_))))))))
   refine AD (fun n s h' ms' => ∃ (i j : Nat), n = j - i ∧ s = [(0, v), (1, .int .i64 a), (2, .int .i64 t), (4, Mc), (14, .int .i64 i), (15, .int .i64 j)] ∧ h = h' ∧ ms' = [m] ∧ a ≤ i ∧ i ≤ j ∧ j ≤ t ∧ (i = a ∨ Ep d[t]! d[i - 1]! = false) ∧ (j = t ∨ Ep d[t]! d[j]! = true))
    (t - a) _ ⟨a, t, rfl, rfl, rfl, rfl, by omega, by omega, by omega, .inl rfl, .inl rfl⟩ Qs ?_
   rintro n s h' ms' ⟨i, j, rfl, rfl, rfl, rfl, hi, hij, hj, c1, c2⟩
   refine Ac (Ax (Qm rfl (Qm rfl (Qm rfl (Aq ?_)))))
   refine AF rfl (fun hlt => ?_) (fun hlt => ?_)
   ·refine Ai (Ab (Ag (Ax (Qm rfl (Qm rfl (Qx (oA rfl) rfl (Qx (DQ rfl underlying3 underlying143 rfl) rfl (Qx (Ie (n := 1) rfl rfl rfl (by omega)) rfl (Qx (DQ rfl underlying143 underlying3 rfl) rfl (Qm rfl (Aq ?_)))))))))))
    rw [J2 i j (by omega)]
    refine Ac (BB 9 Cd (by kernel_rfl) rfl (Wm rfl (Wm rfl (Wm rfl (AV (Ah (t) (hO.rd (.head _)) rfl underlying60 BP rfl rfl (by omega) (by omega)) rfl rfl (AV (oG rfl underlying64 BP (hO.get (.head _) (by omega))) rfl rfl (Wm rfl (Wm rfl (AV (Ah ((i + j) / 2) (hO.rd (.head _)) rfl underlying60 BP rfl rfl (by omega) (by omega)) rfl rfl (AV (oG rfl underlying64 BP (hO.get (.head _) (by omega))) rfl rfl (BC (Qx (En rfl rfl call59 rfl (Kp _ _ _ _)) rfl (Qm rfl (Qm rfl (Aq ?_)))))))))))))))
    refine BJ rfl (fun hl => ?_) (fun hl => ?_)
    ·have hl : Ep d[t]! d[(i + j) / 2]! = false := by unfold Ep; simpa using hl
     refine Ad (Qm rfl (Qx (oA rfl) rfl (Qm rfl (Ak (Aj ?_)))))
     exact Al (j - ((i + j) / 2 + 1)) _ (by omega) ⟨(i + j) / 2 + 1, j, rfl, rfl, rfl, rfl, by omega, by omega, by omega, .inr (by rw [Nat.add_sub_cancel]; exact hl), c2⟩ Qs
    ·have hl : Ep d[t]! d[(i + j) / 2]! = true := by unfold Ep; simpa using hl
     refine Ad (Qm rfl (Qm rfl (Ak (Aj ?_))))
     exact Al ((i + j) / 2 - i) _ (by omega) ⟨i, (i + j) / 2, rfl, rfl, rfl, rfl, by omega, by omega, by omega, c1, .inr hl⟩ Qs
   ·obtain rfl : i = j := by omega
    refine Aw (Aa (Aa (Af (Ab (Ac (Ax (Qm rfl (Qm rfl (Aq (Ag ?_))))))))))
    refine AD (fun n s h' ms' => ∃ (k : Nat) (d0 : Array StE) (m : Hp), n = k - i ∧ s = [(0, v), (14, .int .i64 i), (17, .int .i64 k)] ∧ h = h' ∧ ms' = [m] ∧ i ≤ k ∧ k ≤ t ∧ OS m v d0 ∧ ShR d d0 t k ∧ PermIn a (t + 1) d d0)
     (t - i) _ ⟨t, d, m, rfl, rfl, rfl, rfl, by omega, by omega, hO, ShR.start d t, permIn_refl d a (t + 1)⟩ Qs ?_
    rintro n s h' ms' ⟨k, d0, m0, rfl, rfl, rfl, rfl, hik, hkt, hO0, R, P⟩
    have hds := R.1
    refine Ac (Ax (Qm rfl (Qm rfl (Qm rfl (Aq ?_)))))
    refine AF rfl (fun hltk => ?_) (fun hltk => ?_)
    ·have st : ShR d (Go.Sort.swp d0 k (k - 1)) t (k - 1) := by
      obtain ⟨k', rfl⟩ : ∃ k', k = k' + 1 := ⟨k - 1, by omega⟩
      exact R.step (by omega) (by omega)
     have e : (k : Int) - 1 = ((k - 1 : Nat) : Int) := by omega
     refine Ai (Ab (Ac (Ag (Hd 14 [false, false, true, true, true] Cd (by kernel_rfl) (by kernel_rfl) (by kernel_rfl) (HK rfl rfl rfl rfl (D4 rfl rfl) (HK rfl rfl rfl rfl (D4 rfl rfl) (HK rfl rfl rfl rfl (RI rfl rfl rfl (by omega)) ?_)))))))
     refine ⟨rfl, ?_⟩
     simp only [EH, zap, List.cons_append, List.nil_append, List.take_succ_cons, List.take_zero, List.drop_succ_cons, List.drop_zero, List.take_nil, List.drop_nil]
     refine Wm rfl (Wm rfl (HL rfl rfl rfl (HL rfl rfl rfl (HL rfl rfl rfl (Wm rfl (Wm rfl (AV (oS rfl) rfl rfl (AV (Ah (k - 1) (hO0.rd (.head _)) rfl underlying60 BP rfl rfl (by omega) (by omega)) rfl rfl (AV (oG rfl underlying64 BP (hO0.get (.head _) (by omega))) rfl rfl (Wm rfl (Wm rfl (AV (Ah (k) (hO0.rd (.head _)) rfl underlying60 BP rfl rfl (by omega) (by omega)) rfl rfl (AV (oG rfl underlying64 BP (hO0.get (.head _) (by omega))) rfl rfl (BC (Qx (Ah (k) (hO0.rd (.head _)) rfl underlying60 BP rfl rfl (by omega) (by omega)) rfl (Dn 0 _ hO0 rfl BP rfl rfl rfl (by omega) rfl rfl (fun mhO1 hzhO1 hO1 => Qx (Ah (k - 1) (hO1.rd (.head _)) rfl underlying60 BP rfl rfl (by omega) (by omega)) rfl (Dn 0 _ hO1 rfl BP rfl rfl rfl (by omega) rfl rfl (fun mhO2 hzhO2 hO2 => Ak (NQ (Aj (Ab (Ad (Qm rfl (Qx (oS rfl) rfl (Qm rfl (Ak ?_)))))))))))))))))))))))))))
     rw [e]
     exact Al (k - 1 - i) _ (by omega) ⟨k - 1, _, mhO2, rfl, rfl, rfl, rfl, by omega, by omega, hO2, st, permIn_trans _ _ _ _ _ P (swp_permIn d0 a (t + 1) k (k - 1) (by omega) (by omega) (by omega) (by omega) (by omega))⟩ Qs
    ·obtain rfl : k = i := by omega
     refine Aw (Aa (Aa (Af (Ab (Ao (Ae ?_))))))
     exact NT rfl (⟨rfl, m0, d0, rfl, hO0, P, OH Ik hA ⟨hi, hj⟩ c1 c2 R⟩)
  ·refine Ai (Ab (Ax (Qm rfl (Qm rfl (Qx (oA rfl) rfl (Qx (DQ rfl underlying3 underlying143 rfl) rfl (Qx (Ie (n := 1) rfl rfl rfl (by omega)) rfl (Qx (DQ rfl underlying143 underlying3 rfl) rfl (Qm rfl (Aq ?_))))))))))
   rw [J2 a b (by omega)]
   obtain ⟨mid, hmid⟩ : ∃ mid, mid = (a + b) / 2 := ⟨_, rfl⟩
   rw [← hmid]
   refine Ax (Qm rfl (Qm rfl (Qx (oA rfl) rfl (Qm rfl (B3 (Qm rfl (Qm rfl (Aq ?_))))))))
   refine Bv (fun s h' ms' => ∃ (s0 r0 : Nat), s = [(0, v), (1, .int .i64 a), (2, .int .i64 t), (3, .int .i64 b), (4, Mc), (18, .int .i64 mid), (19, .int .i64 ((mid : Int) + t)), (20, .int .i64 s0), (21, .int .i64 r0)] ∧ h = h' ∧ ms' = [m] ∧ ((mid < t ∧ s0 + b = mid + t ∧ r0 = mid) ∨ (t ≤ mid ∧ s0 = a ∧ r0 = t))) ?_ (fun s h ms hI => ?_)
   ·refine Ac (Ad (Qm rfl (Qm rfl (Qm rfl (Aq ?_)))))
    refine AF rfl (fun hgt => ?_) (fun hgt => ?_)
    ·refine Ac (Ad (Qm rfl (Qm rfl (Qx (oS rfl) rfl (Qm rfl (IA (Qm rfl (Qm rfl (Ak ?_)))))))))
     have e : (mid : Int) + t - b = ((mid + t - b : Nat) : Int) := by omega
     rw [e]
     exact AA _ ⟨mid + t - b, mid, rfl, rfl, rfl, .inl ⟨by omega, by omega, rfl⟩⟩ Qs
    ·refine Ac (Ad (Qm rfl (Qm rfl (IA (Qm rfl (Qm rfl (Ak ?_)))))))
     exact AA _ ⟨a, t, rfl, rfl, rfl, .inr ⟨by omega, rfl, rfl⟩⟩ Qs
   ·obtain ⟨s0, r0, rfl, rfl, rfl, hc⟩ := hI
    refine Ax (Qm rfl (Qx (oS rfl) rfl (Qm rfl (Aq (Ac (Ag ?_))))))
    refine AD (fun n s h' ms' => ∃ (i j : Nat), n = j - i ∧ s = [(0, v), (1, .int .i64 a), (2, .int .i64 t), (3, .int .i64 b), (4, Mc), (18, .int .i64 mid), (19, .int .i64 ((mid : Int) + t)), (20, .int .i64 i), (21, .int .i64 j), (22, .int .i64 ((mid : Int) + t - 1))] ∧ h = h' ∧ ms' = [m] ∧ s0 ≤ i ∧ i ≤ j ∧ j ≤ r0 ∧ (i = s0 ∨ Ep d[mid + t - i]! d[i - 1]! = false) ∧ (j = r0 ∨ Ep d[mid + t - 1 - j]! d[j]! = true))
     (r0 - s0) _ ⟨s0, r0, rfl, rfl, rfl, rfl, by omega, by omega, by omega, .inl rfl, .inl rfl⟩ Qs ?_
    rintro n s h' ms' ⟨i, j, rfl, rfl, rfl, rfl, hi, hij, hj, c1, c2⟩
    refine Ac (Ax (Qm rfl (Qm rfl (Qm rfl (Aq ?_)))))
    refine AF rfl (fun hlt => ?_) (fun hlt => ?_)
    ·refine Ai (Ab (Ag (Ax (Qm rfl (Qm rfl (Qx (oA rfl) rfl (Qx (DQ rfl underlying3 underlying143 rfl) rfl (Qx (Ie (n := 1) rfl rfl rfl (by omega)) rfl (Qx (DQ rfl underlying143 underlying3 rfl) rfl (Qm rfl (Aq ?_)))))))))))
     rw [J2 i j (by omega)]
     refine Ac (BB 11 Cd (by kernel_rfl) rfl (Wm rfl (Wm rfl (Wm rfl (Wm rfl (AV (oS rfl) rfl rfl (AV (Ah (mid + t - 1 - (i + j) / 2) (hO.rd (.head _)) rfl underlying60 BP rfl rfl (by omega) (by omega)) rfl rfl (AV (oG rfl underlying64 BP (hO.get (.head _) (by omega))) rfl rfl (Wm rfl (Wm rfl (AV (Ah ((i + j) / 2) (hO.rd (.head _)) rfl underlying60 BP rfl rfl (by omega) (by omega)) rfl rfl (AV (oG rfl underlying64 BP (hO.get (.head _) (by omega))) rfl rfl (BC (Qx (En rfl rfl call59 rfl (Kp _ _ _ _)) rfl (Qm rfl (Qm rfl (Aq ?_)))))))))))))))))
     refine BJ rfl (fun hl => ?_) (fun hl => ?_)
     ·have hl : Ep d[mid + t - 1 - (i + j) / 2]! d[(i + j) / 2]! = false := by unfold Ep; simpa using hl
      refine Ad (Qm rfl (Qx (oA rfl) rfl (Qm rfl (Ak (Aj ?_)))))
      exact Al (j - ((i + j) / 2 + 1)) _ (by omega) ⟨(i + j) / 2 + 1, j, rfl, rfl, rfl, rfl, by omega, by omega, by omega, .inr (by rw [Nat.add_sub_cancel, show mid + t - ((i + j) / 2 + 1) = mid + t - 1 - (i + j) / 2 by omega]; exact hl), c2⟩ Qs
     ·have hl : Ep d[mid + t - 1 - (i + j) / 2]! d[(i + j) / 2]! = true := by unfold Ep; simpa using hl
      refine Ad (Qm rfl (Qm rfl (Ak (Aj ?_))))
      exact Al ((i + j) / 2 - i) _ (by omega) ⟨i, (i + j) / 2, rfl, rfl, rfl, rfl, by omega, by omega, by omega, c1, .inr hl⟩ Qs
    ·obtain rfl : i = j := by omega
     obtain ⟨e, he⟩ : ∃ e, e = mid + t - i := ⟨_, rfl⟩
     have he2 : (mid : Int) + t - i = (e : Int) := by omega
     refine Aw (Aa (Aa (Af (Ab (Ax (Qm rfl (Qm rfl (Qx (oS rfl) rfl (Qm rfl (Aq ?_))))))))))
     rw [he2]
     have k1 : i = a ∨ e = b ∨ Ep d[e]! d[i - 1]! = false := by
      rcases c1 with c | c
      ·rcases hc with hc | hc
       ·right; left; omega
       ·left; omega
      ·right; right; rw [he]; exact c
     have k2 : i = t ∨ e = t ∨ Ep d[e - 1]! d[i]! = true := by
      rcases c2 with c | c
      ·rcases hc with hc | hc
       ·right; left; omega
       ·left; omega
      ·right; right; rw [show e - 1 = mid + t - 1 - i by omega]; exact c
     have hg : a ≤ i ∧ i ≤ t ∧ i ≤ mid ∧ t ≤ e ∧ e ≤ b := by rcases hc with hc | hc <;> omega
     have hs2 : i + e = mid + t := by omega
     refine Bv (fun s h' ms' => ∃ (d1 : Array StE) (m1 : Hp), s = [(0, v), (1, .int .i64 a), (3, .int .i64 b), (4, Mc), (18, .int .i64 mid), (20, .int .i64 i), (24, .int .i64 e)] ∧ h = h' ∧ ms' = [m1] ∧ OS m1 v d1 ∧ (∀ k, d1[k]! = EZ d i t e k) ∧ PermIn a b d d1) ?_ (fun s h ms hI => ?_)
     ·refine Ac (Ad (Qm rfl (Qm rfl (Qm rfl (Qm rfl ?_)))))
      refine AR (t := 181) rfl (fun q1 => ?_) (fun q1 => ?_)
      ·refine Qg (As rfl rfl) rfl (Qg (As rfl rfl) rfl (Qg (Dy rfl rfl rfl) rfl (Qm rfl (Aq ?_))))
       refine AF rfl (fun q2 => ?_) (fun q2 => ?_)
       ·refine Ad (Qm rfl (Qm rfl (Qm rfl (Qm rfl (Qm rfl (Bs (pre := [m]) rfl call139 rfl (Ot d v Mc m hO i t e a b (by omega) (by omega) (by omega) (by omega) (by omega) (by omega) (by omega) h rfl rfl rfl) rfl rfl rfl rfl (fun r h1 ms1 l1 hF => ?_)))))))
        obtain ⟨rfl, m1, d1, rfl, hO1, hr, P⟩ := hF
        refine Ak ?_
        exact AA _ ⟨d1, m1, rfl, rfl, rfl, hO1, hr, P⟩ Qs
       ·refine Ai ?_
        exact AA _ ⟨d, m, rfl, rfl, rfl, hO, fun k => (Js (by omega) k).symm, permIn_refl d a b⟩ Qs
      ·refine Qk rfl (Qk rfl (Qk rfl (Qm rfl (Aq (Bb rfl (Ai ?_))))))
       exact AA _ ⟨d, m, rfl, rfl, rfl, hO, fun k => (Js (by omega) k).symm, permIn_refl d a b⟩ Qs
     ·obtain ⟨d1, m1, rfl, rfl, rfl, hO1, hr, P⟩ := hI
      have C := Vx Ik hA hB hg hs2 hr k1 k2
      have hd1 := P.1
      refine Bv (fun s h' ms' => ∃ (d2 : Array StE) (m2 : Hp), s = [(0, v), (3, .int .i64 b), (4, Mc), (18, .int .i64 mid), (24, .int .i64 e)] ∧ h = h' ∧ ms' = [m2] ∧ OS m2 v d2 ∧ PermIn a mid d1 d2 ∧ SortedIn Ep a mid d2) ?_ (fun s h ms hI => ?_)
      ·refine Ac (Ad (Qm rfl (Qm rfl (Qm rfl (Qm rfl ?_)))))
       refine AR (t := 195) rfl (fun q1 => ?_) (fun q1 => ?_)
       ·refine Qg (As rfl rfl) rfl (Qg (As rfl rfl) rfl (Qg (Dy rfl rfl rfl) rfl (Qm rfl (Aq ?_))))
        refine AF rfl (fun q2 => ?_) (fun q2 => ?_)
        ·refine Ad (Qm rfl (Qm rfl (Qm rfl (Qm rfl (Qm rfl (Bs (pre := [m1]) rfl call118 rfl (ih d1 v m1 hO1 a i mid (by omega) (by omega) (by omega) (by omega) (by omega) C.lo C.lo2 h rfl rfl rfl) rfl rfl rfl rfl (fun r h1 ms1 l1 hF => ?_)))))))
         obtain ⟨rfl, m2, d2, rfl, hO2, P2, S2⟩ := hF
         refine Ak ?_
         exact AA _ ⟨d2, m2, rfl, rfl, rfl, hO2, P2, S2⟩ Qs
        ·obtain rfl : i = mid := by omega
         refine Ai ?_
         exact AA _ ⟨d1, m1, rfl, rfl, rfl, hO1, permIn_refl d1 a _, C.lo⟩ Qs
       ·obtain rfl : i = a := by omega
        refine Qk rfl (Qk rfl (Qk rfl (Qm rfl (Aq (Bb rfl (Ai ?_))))))
        exact AA _ ⟨d1, m1, rfl, rfl, rfl, hO1, permIn_refl d1 _ _, C.lo2⟩ Qs
      ·obtain ⟨d2, m2, rfl, rfl, rfl, hO2, P2, S2⟩ := hI
       have hd2 := P2.1
       have f1 : SortedIn Ep mid e d2 := CI C.hi fun k h1 h2 => P2.2.1 k (.inr h1)
       have f2 : SortedIn Ep e b d2 := CI C.hi2 fun k h1 h2 => P2.2.1 k (.inr (by omega))
       have fin : ∀ d3, PermIn mid b d2 d3 → SortedIn Ep mid b d3 → PermIn a b d d3 ∧ SortedIn Ep a b d3 := fun d3 P3 S3 =>
        ⟨permIn_trans _ _ _ _ _ P (permIn_trans _ _ _ _ _ (permIn_mono d1 d2 a mid a b (by omega) (by omega) (by omega) P2) (permIn_mono d2 d3 mid b a b (by omega) (by omega) (by omega) P3)), Q3 C (by omega) (by omega) P2 S2 P3 S3⟩
       refine Ax (Qm rfl (Qm rfl (Qm rfl (Qm rfl ?_))))
       refine AR (t := 209) rfl (fun q1 => ?_) (fun q1 => ?_)
       ·refine Qg (As rfl rfl) rfl (Qg (As rfl rfl) rfl (Qg (Dy rfl rfl rfl) rfl (Qm rfl (Aq ?_))))
        refine AF rfl (fun q2 => ?_) (fun q2 => ?_)
        ·refine Ad (Qm rfl (Qm rfl (Qm rfl (Qm rfl (Qm rfl (Bs (pre := [m2]) rfl call118 rfl (ih d2 v m2 hO2 mid e b (by omega) (by omega) (by omega) (by omega) (by omega) f1 f2 h rfl rfl rfl) rfl rfl rfl rfl (fun r h1 ms1 l1 hF => ?_)))))))
         obtain ⟨rfl, m3, d3, rfl, hO3, P3, S3⟩ := hF
         refine Ak ?_
         exact B6 rfl (⟨rfl, m3, d3, rfl, hO3, (fin d3 P3 S3).1, (fin d3 P3 S3).2⟩)
        ·obtain rfl : e = b := by omega
         refine Ai ?_
         exact B6 rfl (⟨rfl, m2, d2, rfl, hO2, (fin d2 (permIn_refl d2 _ _) f1).1, (fin d2 (permIn_refl d2 _ _) f1).2⟩)
       ·obtain rfl : e = mid := by omega
        refine Qk rfl (Qk rfl (Qk rfl (Qm rfl (Aq (Bb rfl (Ai ?_))))))
        exact B6 rfl (⟨rfl, m2, d2, rfl, hO2, (fin d2 (permIn_refl d2 _ _) f2).1, (fin d2 (permIn_refl d2 _ _) f2).2⟩)
end Go.Proofs.YtdnelknieikbaaaGreat
namespace Go.Proofs.YtdnelknieikbaaaGreat
open Go.Proofs.Tryz
open Go.Eng Go.RowKit Go.Lin Go.Sort Go.Srt
variable {a : Nat}
theorem Hw {k x : Nat} (hx : k ∣ x) (ha : k ∣ a) (h : x < a) : x + k ≤ a := by
 obtain ⟨p, rfl⟩ := hx
 obtain ⟨q, rfl⟩ := ha
 have : p < q := Nat.lt_of_mul_lt_mul_left h
 calc k * p + k = k * (p + 1) := by rw [Nat.mul_add, Nat.mul_one]
  _ ≤ k * q := Nat.mul_le_mul_left k this
def Bk (d : Array StE) (s n : Nat) : Prop := ∀ x, s ∣ x → SortedIn Ep x (min (x + s) n) d
theorem D5 {d : Array StE} {b b' : Nat} (h : SortedIn Ep a b d) (hb : b' ≤ b) : SortedIn Ep a b' d := fun i j h1 h2 h3 => h i j h1 h2 (by omega)
theorem H4 {d : Array StE} {b : Nat} (hb : b ≤ a) : SortedIn Ep a b d := fun i j h1 h2 h3 => by omega
theorem OL (d : Array StE) (v : Value) (m : Hp) (hO : OS m v d) (hsz : d.size ≤ 1000000) (h : Hp) {n' : Int} (en : n' = d.size) :
  FnT Tryz.prog 92 #[v, .int .i64 n', Mc] h [m] (fun _ h' ms' => h = h' ∧ ∃ m' d', ms' = [m'] ∧ OS m' v d' ∧ PermIn 0 d.size d d' ∧ SortedIn Ep 0 d.size d') := by
 subst en
 obtain ⟨n, hn⟩ : ∃ n, n = d.size := ⟨_, rfl⟩
 rw [← hn]
 refine Av func92 ntmps92 rfl rfl (fun w0 hw0 => ?_)
 simp only [A4]
 refine Ax (Qm rfl (B3 (Qm rfl (Qm rfl (Qm rfl (Aq (Ac (Ag ?_))))))))
 refine AD (fun q s h' ms' => ∃ (a : Nat) (d0 : Array StE) (m : Hp), q = n - a ∧ s = [(0, v), (1, .int .i64 n), (2, Mc), (6, .int .i64 20), (7, .int .i64 a), (8, .int .i64 ((a : Int) + 20))] ∧ h = h' ∧ ms' = [m] ∧ a ≤ n ∧ 20 ∣ a ∧ OS m v d0 ∧ PermIn 0 n d d0 ∧ ∀ x, 20 ∣ x → x + 20 ≤ a → SortedIn Ep x (x + 20) d0)
  (n - 0) _ ⟨0, d, m, rfl, rfl, rfl, rfl, by omega, ⟨0, rfl⟩, hO, permIn_refl d 0 n, fun x _ h => by omega⟩ Qs ?_
 rintro q s h' ms' ⟨a, d0, m0, rfl, rfl, rfl, rfl, han, hda, hO0, P, hB⟩
 have hds := P.1
 refine Ac (Ax (Qm rfl (Qm rfl (Qm rfl (Aq ?_)))))
 refine AF rfl (fun hle => ?_) (fun hle => ?_)
 ·refine Ai (Ab (Ag (Ax (Qm rfl (Qm rfl (Qm rfl (Qm rfl (Bs (pre := [m0]) rfl call117 rfl (Ng d0 v m0 hO0 a (a + 20) (by omega) (by omega) (by omega) h rfl (by omega)) rfl rfl rfl rfl (fun r h1 ms1 l1 hF => ?_)))))))))
  obtain ⟨rfl, m1, d1, rfl, hO1, P1, S1⟩ := hF
  refine B3 (Qm rfl (Qm rfl (IA (Qm rfl (Qm rfl (Qx (oA rfl) rfl (Qm rfl (Ak (Aj ?_)))))))))
  exact Al (n - (a + 20)) _ (by omega) ⟨a + 20, d1, m1, rfl, rfl, rfl, rfl, by omega, Nat.dvd_add hda ⟨1, rfl⟩, hO1, permIn_trans _ _ _ _ _ P (permIn_mono d0 d1 a (a + 20) 0 n (by omega) (by omega) (by omega) P1), fun x hx hx2 => by
   rcases Nat.lt_or_ge x a with h1 | h1
   ·have := Hw hx hda h1
    exact CI (hB x hx this) fun k h2 h3 => P1.2.1 k (.inl (by omega))
   ·obtain rfl : x = a := by omega
    exact S1⟩ Qs
 ·refine Aw (Aa (Aa (Af (Ab (Ax (Qm rfl (Qm rfl (Qm rfl (Qm rfl (Bs (pre := [m0]) rfl call117 rfl (Ng d0 v m0 hO0 a n (by omega) (by omega) (by omega) h rfl rfl) rfl rfl rfl rfl (fun r h1 ms1 l1 hF => ?_)))))))))))
  obtain ⟨rfl, m1, d1, rfl, hO1, P1, S1⟩ := hF
  have PB : PermIn 0 n d d1 := permIn_trans _ _ _ _ _ P (permIn_mono d0 d1 a n 0 n (by omega) (by omega) (by omega) P1)
  have B1 : Bk d1 20 n := fun x hx => by
   rcases Nat.lt_trichotomy x a with h1 | rfl | h1
   ·have := Hw hx hda h1
    exact D5 (CI (hB x hx this) fun k h2 h3 => P1.2.1 k (.inl (by omega))) (by omega)
   ·exact D5 S1 (by omega)
   ·have := Hw hda hx h1
    exact H4 (by omega)
  refine Aq (Ag ?_)
  refine AD (fun q s h' ms' => ∃ (w : Nat) (d0 : Array StE) (m : Hp), q = n - w ∧ s = [(0, v), (1, .int .i64 n), (2, Mc), (6, .int .i64 w)] ∧ h = h' ∧ ms' = [m] ∧ 1 ≤ w ∧ w ≤ 4000000 ∧ OS m v d0 ∧ PermIn 0 n d d0 ∧ Bk d0 w n)
   (n - 20) _ ⟨20, d1, m1, rfl, rfl, rfl, rfl, by omega, by omega, hO1, PB, B1⟩ Qs ?_
  rintro q s h' ms' ⟨w, d2, m2, rfl, rfl, rfl, rfl, hw1, hw2, hO2, P2, B2⟩
  have hd2 := P2.1
  refine Ac (Ax (Qm rfl (Qm rfl (Qm rfl (Aq ?_)))))
  refine AF rfl (fun hlt => ?_) (fun hlt => ?_)
  ·refine Ai (Ab (Ag (Ax (Qm rfl (Qx (oM rfl) rfl (Qm rfl (Qm rfl (Aq (Ac (Ag ?_))))))))))
   refine AD (fun q s h' ms' => ∃ (a : Nat) (z : Int) (d0 : Array StE) (m : Hp), q = n - a ∧ s = [(0, v), (1, .int .i64 n), (2, Mc), (6, .int .i64 w), (7, .int .i64 a), (8, .int .i64 z)] ∧ h = h' ∧ ms' = [m] ∧ z = a + 2 * w ∧ a ≤ n ∧ 2 * w ∣ a ∧ OS m v d0 ∧ PermIn 0 n d d0 ∧ (∀ x, 2 * w ∣ x → x + 2 * w ≤ a → SortedIn Ep x (x + 2 * w) d0) ∧ ∀ x, w ∣ x → a ≤ x → SortedIn Ep x (min (x + w) n) d0)
    (n - 0) _ ⟨0, 2 * (w : Int), d2, m2, rfl, rfl, rfl, rfl, by omega, by omega, ⟨0, rfl⟩, hO2, P2, fun x _ h => by omega, fun x hx _ => B2 x hx⟩ Qs ?_
   rintro q s h' ms' ⟨a, z, d3, m3, rfl, rfl, rfl, rfl, rfl, han, hda, hO3, P3, hL, hR⟩
   have hd3 := P3.1
   have hwa : w ∣ a := Nat.dvd_trans ⟨2, Nat.mul_comm 2 w⟩ hda
   have hwa2 : w ∣ a + w := Nat.dvd_add hwa (Nat.dvd_refl w)
   have hwa3 : 2 * w ∣ a + 2 * w := Nat.dvd_add hda (Nat.dvd_refl _)
   have s1 := hR a hwa (Nat.le_refl _)
   have s2 := hR (a + w) hwa2 (by omega)
   refine Ac (Ax (Qm rfl (Qm rfl (Qm rfl (Aq ?_)))))
   refine AF rfl (fun hle2 => ?_) (fun hle2 => ?_)
   ·rw [show min (a + w) n = a + w by omega] at s1
    rw [show min (a + w + w) n = a + 2 * w by omega] at s2
    refine Ai (Ab (Ag (Ax (Qm rfl (Qm rfl (Qm rfl (Qm rfl (Qx (oA rfl) rfl (Qm rfl (Qm rfl (Bs (pre := [m3]) rfl call118 rfl (HX (2 * w) d3 v m3 hO3 a (a + w) (a + 2 * w) (by omega) (by omega) (by omega) (by omega) (by omega) s1 s2 h rfl (by omega) (by omega)) rfl rfl rfl rfl (fun r h1 ms1 l1 hF => ?_))))))))))))
    obtain ⟨rfl, m4, d4, rfl, hO4, P4, S4⟩ := hF
    refine B3 (Qm rfl (Qm rfl (IA (Qm rfl (Qm rfl (Qx (oM rfl) rfl (Qx (oA rfl) rfl (Qm rfl (Ak (Aj ?_))))))))))
    exact Al (n - (a + 2 * w)) _ (by omega) ⟨a + 2 * w, (a : Int) + 2 * w + 2 * w, d4, m4, rfl, rfl, rfl, rfl, by omega, by omega, hwa3, hO4, permIn_trans _ _ _ _ _ P3 (permIn_mono d3 d4 a (a + 2 * w) 0 n (by omega) (by omega) (by omega) P4), fun x hx hx2 => by
     rcases Nat.lt_or_ge x a with h1 | h1
     ·have := Hw hx hda h1
      exact CI (hL x hx this) fun k h2 h3 => P4.2.1 k (.inl (by omega))
     ·obtain rfl : x = a := by omega
      exact S4, fun x hx hx2 => CI (hR x hx (by omega)) fun k h2 h3 => P4.2.1 k (.inr (by omega))⟩ Qs
   ·have fin : ∀ d4, PermIn a n d3 d4 → SortedIn Ep a n d4 → PermIn 0 n d d4 ∧ Bk d4 (w * 2) n := fun d4 P4 S4 => ⟨permIn_trans _ _ _ _ _ P3 (permIn_mono d3 d4 a n 0 n (by omega) (by omega) (by omega) P4), fun x hx => by
     rw [Nat.mul_comm] at hx ⊢
     rcases Nat.lt_trichotomy x a with h1 | rfl | h1
     ·have := Hw hx hda h1
      exact D5 (CI (hL x hx this) fun k h2 h3 => P4.2.1 k (.inl (by omega))) (by omega)
     ·exact D5 S4 (by omega)
     ·have := Hw hda hx h1
      exact H4 (by omega)⟩
    refine Aw (Aa (Aa (Af (Ab (Ac (Ax (Qm rfl (Qm rfl (Qx (oA rfl) rfl (Qm rfl (B3 (Qm rfl (Qm rfl (Qm rfl (Aq ?_)))))))))))))))
    refine AF rfl (fun hm => ?_) (fun hm => ?_)
    ·rw [show min (a + w) n = a + w by omega] at s1
     rw [show min (a + w + w) n = n by omega] at s2
     refine Ad (Qm rfl (Qm rfl (Qm rfl (Qm rfl (Qm rfl (Bs (pre := [m3]) rfl call118 rfl (HX (2 * w) d3 v m3 hO3 a (a + w) n (by omega) (by omega) (by omega) (by omega) (by omega) s1 s2 h rfl (by omega) rfl) rfl rfl rfl rfl (fun r h1 ms1 l1 hF => ?_)))))))
     obtain ⟨rfl, m4, d4, rfl, hO4, P4, S4⟩ := hF
     have := fin d4 P4 S4
     refine IA (Qm rfl (Qx (oM rfl) rfl (Qm rfl (Ak (Aj ?_)))))
     exact Al (n - w * 2) _ (by omega) ⟨w * 2, d4, m4, rfl, rfl, rfl, rfl, by omega, by omega, hO4, this.1, this.2⟩ Qs
    ·rw [show min (a + w) n = n by omega] at s1
     have := fin d3 (permIn_refl d3 a n) s1
     refine Ai (Ab (Ad (Qm rfl (Qx (oM rfl) rfl (Qm rfl (Ak (Aj ?_)))))))
     exact Al (n - w * 2) _ (by omega) ⟨w * 2, d3, m3, rfl, rfl, rfl, rfl, by omega, by omega, hO3, this.1, this.2⟩ Qs
  ·refine Aw (Aa (Aa (Af ?_)))
   exact B6 rfl (⟨rfl, m2, d2, rfl, hO2, P2, by have := B2 0 ⟨0, rfl⟩; rwa [show min (0 + w) n = n by omega] at this⟩)
theorem Jb (d : Array StE) (v : Value) (m : Hp) (hO : OS m v d) (hsz : d.size ≤ 1000000) (h : Hp) :
  FnT Tryz.prog 58 #[v, Mc] h [m] (fun _ h' ms' => h = h' ∧ ∃ m' d', ms' = [m'] ∧ OS m' v d' ∧ PermIn 0 d.size d d' ∧ SortedIn Ep 0 d.size d') := by
 refine Av func58 ntmps58 rfl rfl (fun w0 hw0 => ?_)
 simp only [A4]
 refine Ad (Qm rfl (Qm rfl (Qx (AJ (hO.rd (.head _)) rfl underlying60 rfl) rfl (Qm rfl (Bs (pre := [m]) rfl call92 rfl (OL d v m hO hsz h rfl) rfl rfl rfl rfl (fun r h1 ms1 l1 hF => ?_))))))
 obtain ⟨rfl, m4, d4, rfl, hO4, P4, S4⟩ := hF
 refine Ak ?_
 exact B6 rfl (⟨rfl, m4, d4, rfl, hO4, P4, S4⟩)
end Go.Proofs.YtdnelknieikbaaaGreat
namespace Go.Proofs.YtdnelknieikbaaaGreat
open Go.Proofs.Tryz
open Go.Eng Go.RowKit Go.Lin Go.Sort Go.Srt
variable {m : Hp}
def StV (d : Nat → Nat) (g : Nat) (e : StE) (fr to : Nat) (v : Nat → Nat → Int) (m : Hp) : Prop :=
 e.fr = fr ∧ e.to = to ∧ ∃ (es : List Value) (ma mb : Hp), fr ≤ to ∧ m = (AX g 110 (cS e)).join (ma.join mb) ∧ (AX g 110 (cS e)).disj (ma.join mb) ∧ ma.disj mb ∧ OwnL cV 1 24 ma e.v es ∧ es.length = to + 1 - fr ∧ VecB d fr es.length es v mb
theorem StO.out {d : Nat → Nat} {g fr to : Nat} {v : Nat → Nat → Int} (S : StO d g fr to v m) : ∃ e, StV d g e fr to v m := by
 obtain ⟨vv, es, ma, mb, h0, h1, h2, h3, h4, h5, h6⟩ := S
 exact ⟨⟨fr, to, vv, (h4.rd (h := Hp.emp) (ms := [ma]) (List.Mem.head _)).rd.one⟩, rfl, rfl, es, ma, mb, h0, h1, h2, h3, h4, h5, h6⟩
theorem Me {β : Type} [Inhabited β] {N : Nat} {R : Nat → β → Hp → Prop} (B : Bag N (fun l x => ∃ e, R l e x) m) : ∃ e : Nat → β, Bag N (fun l x => R l (e l) x) m := by
 classical
 obtain ⟨f, h1, h2, h3⟩ := B
 refine ⟨fun l => if hl : l < N then Classical.choose (h3 l hl) else default, f, h1, h2, fun l hl => ?_⟩
 show R l (if hl : l < N then Classical.choose (h3 l hl) else default) (f l)
 rw [dif_pos hl]
 exact Classical.choose_spec (h3 l hl)
theorem Rn {α β : Type} {f : α → β} {M l : List β} (h : M.Perm l) : ∀ L : List α, M = L.map f → ∃ L', L.Perm L' ∧ l = L'.map f := by
 induction h with
 | nil => intro L hM; exact ⟨[], by rw [List.map_eq_nil_iff.1 hM.symm], rfl⟩
 | cons x p ih =>
  intro L hM
  obtain ⟨a, L1, rfl, rfl, rfl⟩ := List.map_eq_cons_iff.1 hM.symm
  obtain ⟨L', h1, rfl⟩ := ih L1 rfl
  exact ⟨a :: L', h1.cons a, rfl⟩
 | swap x y l =>
  intro L hM
  obtain ⟨a, L1, rfl, rfl, h2⟩ := List.map_eq_cons_iff.1 hM.symm
  obtain ⟨b, L2, rfl, rfl, rfl⟩ := List.map_eq_cons_iff.1 h2
  exact ⟨b :: a :: L2, .swap b a L2, rfl⟩
 | trans p q ih1 ih2 =>
  intro L hM
  obtain ⟨L1, h1, e1⟩ := ih1 L hM
  obtain ⟨L2, h2, e2⟩ := ih2 L1 e1
  exact ⟨L2, h1.trans h2, e2⟩
theorem StV.seg {d : Nat → Nat} {g : Nat} {e : StE} {fr to : Nat} {v : Nat → Nat → Int} {h : Hp} (S : StV d g e fr to v m) (hl : m.le h) : Seg h [] ⟨g, 0, none⟩ (cS e) := by
 obtain ⟨_, _, es, ma, mb, h0, rfl, _⟩ := S
 exact Seg.ofLe (Hp.le_trans Hp.le_joinl hl)
theorem K0 {d d' : Array StE} (P : PermIn 0 d.size d d') : d'.toList.Perm d.toList := by
 have h := P.2.2
 have e1 : d'.extract 0 d.size = d' := by rw [← P.1]; simp
 have e2 : d.extract 0 d.size = d := by simp
 rwa [e1, e2] at h
theorem strands_not (Z : Zz) (vd va : Value) (h : Hp) (hO : Z.Ok) (hRt : ¬ Z.Rt) (hR : RdZ h vd va Z) :
  FnT Tryz.prog 30 #[.agg #[.int .i64 Z.p, vd, va]] h [] (fun r h' ms' => r = .slice none 0 0 ∧ ms' = []) := by
 have o1 := hR.d.rd.one
 have o2 := hR.a.rd.one
 refine Av func30 ntmps30 rfl rfl (fun w0 hw0 => ?_)
 simp only [A4]
 refine Ax ?_
 refine AS [_, _, _] rfl rfl (by rfl) rfl rfl rfl (fun g1 => ?_)
 refine Qm rfl (Aq (AL fun h1 l1 hG1 => ?_))
 have hR := hR.up l1
 refine Ac (Ax (Qx (oG rfl underlying30 Bz (Seg.any hG1)) rfl (Qx (AG rfl call35 rfl (Ds (FT Z vd va _ hO hR) _)) rfl (Qm rfl (Aq ?_)))))
 refine BJ rfl (fun hb => ?_) (fun hb => ?_)
 ·refine Ac (Ad (Qm rfl (Aq (Ao (Ae ?_)))))
  exact Am rfl rfl (⟨rfl, rfl⟩)
 ·exact absurd (by simpa using hb) hRt
theorem strands_ok (Z : Zz) (vd va : Value) (h : Hp) (hO : Z.Ok) (hRt : Z.Rt) (hR : RdZ h vd va Z) :
  FnT Tryz.prog 30 #[.agg #[.int .i64 Z.p, vd, va]] h [] (fun r h' ms' => h.le h' ∧ ∃ (N : Nat) (S : Nat → SM) (e : Nat → StE) (L : List Nat) (m mB : Hp), ms' = [m, mB] ∧ N ≤ 20400 ∧ OwnL cS 3 64 m r (L.map e) ∧ Bag N (fun l x => StV Z.zg.d (S l).g (e l) (S l).fr (S l).to (S l).v x) mB ∧ L.Perm (List.range N) ∧ Valid Z.zg (Dr N S) ∧ (∀ l, l < N → (S l).Bd Z.p Z.zg.d) ∧ (L.map fun l => (e l).key).Pairwise fun a b => ¬ D3 b a < 0) := by
 have o1 := hR.d.rd.one
 have o2 := hR.a.rd.one
 refine Av func30 ntmps30 rfl rfl (fun w0 hw0 => ?_)
 simp only [A4]
 refine Ax ?_
 refine AS [_, _, _] rfl rfl (by rfl) rfl rfl rfl (fun g1 => ?_)
 refine Qm rfl (Aq (AL fun h1 l1 hG1 => ?_))
 have hR := hR.up l1
 refine Ac (Ax (Qx (oG rfl underlying30 Bz (Seg.any hG1)) rfl (Qx (AG rfl call35 rfl (Ds (FT Z vd va _ hO hR) _)) rfl (Qm rfl (Aq ?_)))))
 refine BJ rfl (fun hb => ?_) (fun hb => ?_)
 ·exact absurd hRt (by simpa using hb)
 ·refine Ai (Ab (Ax (Qm rfl (Aq (Ac (Ax (Qx (oG rfl underlying30 Bz (Seg.any hG1)) rfl (Qc call57 rfl (Km Z vd va h1 hRt hR) (fun r h2 ms2 l2 hF => ?_)))))))))
  obtain ⟨l2', N, S, L0, me, mB, rfl, hN, hme, B, hperm, hV, hbd⟩ := hF
  have hlen := hperm.length_eq
  rw [List.length_range] at hlen
  have B1 : Bag N (fun l x => ∃ e, StV Z.zg.d (S l).g e (S l).fr (S l).to (S l).v x) mB := B.mono fun l hl x O => O.out
  obtain ⟨e, B2⟩ := Me B1
  have hrn : ∀ h' (ms : List Hp), me ∈ ms → Rd h' ms r 1 N ((L0.map (A1 S)).flatMap cV) := fun h' ms hm => by
   have := (hme.rd (h := h') hm).rd
   rwa [E8, hlen] at this
  refine Qx (AJ (hrn _ _ (List.Mem.tail _ (List.Mem.head _))) rfl underlying106 rfl) rfl (Qm rfl (Aq (Ag (Cu 1 rfl (Bg hme fun h3 l3 hRr => (CV fun h4 l4 lB dB LB => (BX ?_)))))))
  have hRr := hRr.up l4
  have hrn : ∀ (ms : List Hp), Rd h4 ms r 1 N ((L0.map (A1 S)).flatMap cV) := fun ms => by
   have := (hRr.any (ms := ms)).rd
   rwa [E8, hlen] at this
  refine AD (fun q s hh ms' => ∃ (i : Nat) (vo : Value) (mo : Hp), q = N - i ∧ s = [(3, vo), (10, r), (11, .int .i64 N), (12, .int .i64 i)] ∧ h4 = hh ∧ ms' = [mo] ∧ i ≤ N ∧ OwnL cS 3 64 mo vo ((L0.take i).map e))
   (N - 0) _ ⟨0, _, _, rfl, rfl, rfl, rfl, by omega, OwnL.nil ML⟩ Qs ?_
  rintro q s hh ms' ⟨i, vo, mo, rfl, rfl, rfl, rfl, hi, hO⟩
  refine Ax (Qm rfl (Aq (Ac ?_)))
  refine AF rfl (fun hlt => ?_) (fun hlt => ?_)
  ·have hil : i < L0.length := by omega
   have hiN : L0.getD i 0 < N := List.mem_range.1 (hperm.mem_iff.1 (BF hil))
   obtain ⟨x, hx, hSV⟩ := B2.all _ hiN
   have hsg := hSV.seg (Hp.le_trans hx lB)
   have hcs : ∀ ms, Cell h4 ms ((Bl r).add (i * 1)) (A1 S (L0.getD i 0)) := fun ms => Em hRr.any hil
   have hll : ((L0.take i).map e).length ≤ 20400 := by rw [List.length_map, List.length_take]; omega
   have hone := Mi (e (L0.getD i 0))
   have hsg' : ∀ ms, Seg h4 ms ((⟨(S (L0.getD i 0)).g, 0, none⟩ : Addr).add 0) (cS (e (L0.getD i 0))) := fun ms => by rw [Wu]; exact hsg.any
   refine Ai (Ab (Ac (Ag (Ax (Qx (Ah _ (hrn _) rfl underlying106 Cf rfl rfl rfl (by omega)) rfl (Ql rfl underlying108 (hcs _) (Qm rfl (IA (Qm rfl (Qm rfl (Qm rfl (Qf C7 rfl (Qx (oG rfl underlying64 BP (hsg' _)) rfl ?_)))))))))))))
   refine AB [_, _, _] rfl underlying60 BP rfl (by rfl) rfl rfl (by omega) rfl rfl rfl (fun g21 => ?_)
   refine Bm 1 hO (RdL.one ML (x := e (L0.getD i 0)) (List.Mem.head _) rfl) rfl underlying60 BP rfl (by omega) rfl rfl rfl Mi (by simp only [List.length_singleton]; omega) (by simp only [List.length_singleton]; omega) rfl rfl rfl (fun vo2 mo2 hO2 => ?_)
   refine Qm rfl (Ak (Aj (Ab (Ad (Qx (oA rfl) rfl (Qm rfl (Ak (A5 ?_))))))))
   refine Al (N - (i + 1)) _ (by omega) ⟨i + 1, vo2, mo2, rfl, rfl, rfl, rfl, by omega, ?_⟩ Qs
   rw [BU hil, List.map_append]
   exact hO2
  ·obtain rfl : i = N := by omega
   rw [show L0.take i = L0 by rw [← hlen, List.take_length]] at hO
   refine Aw (Aa (Aa (Af (Ab (F6 LB lB fun h5 q5 b5 => (Di ?_))))))
   have hO' : OS mo vo (L0.map e).toArray := hO
   refine Ax (Qm rfl ?_)
   refine Bs (pre := [mo]) rfl call58 rfl (Jb (L0.map e).toArray vo mo hO' (by simp; omega) h5) rfl rfl rfl rfl (fun x h6 ms6 l6 hF => ?_)
   obtain ⟨rfl, m', d', rfl, hO6, P6, S6⟩ := hF
   have hp6 := K0 P6
   obtain ⟨L', hL, hd'⟩ := Rn hp6.symm L0 rfl
   have hsz : d'.size = L'.length := by rw [← Array.length_toList, hd', List.length_map]
   have hone : vo.oneCell' = true := (OwnL.rd hO6 (h := h) (ms := [m']) (List.Mem.head _)).rd.one
   refine B3 (Qm rfl (Qm rfl (Aq (Ao ?_))))
   have hkey : ∀ k (hk : k < L'.length), d'[k]! = e L'[k] := fun k hk => by
    have h1 : d'.toList[k]? = some (e L'[k]) := by rw [hd']; simp [hk]
    have h2 : d'[k]? = some (e L'[k]) := by rw [← Array.getElem?_toList]; exact h1
    rw [getElem!_def, h2]
   have hsrt : (L'.map fun l => (e l).key).Pairwise fun a b => ¬ D3 b a < 0 := by
    rw [List.pairwise_map, List.pairwise_iff_getElem]
    intro x y hx hy hxy
    have h1 := S6 x y (by omega) hxy (by rw [P6.1] at hsz; omega)
    rw [hkey x hx, hkey y hy] at h1
    exact of_decide_eq_false h1
   exact Am rfl rfl (⟨Hp.le_trans l1 (Hp.le_trans l2 (Hp.le_trans l3 (b5 _ l4 dB))), i, S, e, L', m', mB, rfl, hN, by rw [← hd']; exact hO6, B2, hL.symm.trans hperm, hV, hbd, hsrt⟩)
end Go.Proofs.YtdnelknieikbaaaGreat
namespace Go.Proofs.YtdnelknieikbaaaGreat
open Go.Proofs.Tryz
open Go.Eng Go.RowKit Go.Lin Go.Sort Go.Srt
def cP (a : Int × Int) : List Value := [.int .i64 a.1, .int .i64 a.2]
theorem EG : ∀ a, (cP a).length = 2 := fun _ => rfl
theorem Ss (a : Int × Int) : ∀ c ∈ cP a, c.oneCell' = true := fun c hc => by
 simp only [cP, List.mem_cons, List.not_mem_nil, or_false] at hc
 rcases hc with rfl | rfl <;> rfl
def kP (a : Int × Int) : Value := .agg #[.int .i64 a.1, .int .i64 a.2]
structure Mj (a : Int × Int) : Prop where
 k1 : Dh a.1
 k2 : Dh a.2
theorem RB : laidOutB Tryz.prog = true := by kernel_rfl
theorem Ee : LS Tryz.prog 53 kP Mj where
 law := Maps.Keyed.of_law (deep_law_laid RB (m := 9) (by decide) (of_decide_eq_true (by kernel_rfl)) (by kernel_rfl) (by rw [underlying53]))
 inj := fun a b h => by
  unfold kP at h
  simp at h
  exact Prod.ext h.1 h.2
 key := fun b h => by
  have w1 : (Lit.int .i64 b.1).wf = true := WalkArith.wf_i64 h.k1
  have w2 : (Lit.int .i64 b.2).wf = true := WalkArith.wf_i64 h.k2
  have hkt : Tryz.prog.keyType 53 = true := by kernel_rfl
  have hc53 : Tryz.prog.cellsOf 53 = 2 := by kernel_rfl
  have hfm : (kP b).formed Tryz.prog 53 = true := by
   unfold Value.formed kP
   simp only [underlying53]
   simp [hc53]
  have hc3 : Tryz.prog.cellsOf 3 = 1 := by kernel_rfl
  obtain ⟨n, hn⟩ : ∃ n, Tryz.prog.types.size = n + 1 := ⟨Tryz.prog.types.size - 1, by have : 0 < Tryz.prog.types.size := of_decide_eq_true (by kernel_rfl); omega⟩
  have hkl : ∃ ls, Tryz.prog.keyLits (Tryz.prog.types.size + 1) 53 (kP b).cells.toList = some ls := by
   rw [hn]
   refine ⟨[.int .i64 b.1, .int .i64 b.2], ?_⟩
   simp [Program.keyLits, underlying53, underlying3, kP, Value.cells, hc53, hc3, w1, w2, List.range, List.range.loop]
  obtain ⟨ls, hls⟩ := hkl
  unfold keyOf
  simp only [underlying53, hkt, hfm, Bool.and_self, if_true, hls, Option.map_some]
  exact ⟨_, rfl⟩
theorem Hr (w : World) : (zeroValue 3).run Tryz.prog w = .ok (kI 0) w := by rfl
def R4 (l : List StE) (k : Nat) : List Value := [.agg (cS (l.getD k default)).toArray]
theorem MY (g n : Nat) (v : Value) (l : List StE) (h : Hp) (hG : Seg h [] ⟨g, 0, none⟩ [v]) (hR : RdL cS 3 h [] v l) (hn : l.length = n) (hn2 : n ≤ 1000000) : Wh Tryz.prog 74 [.pointer (some ⟨g, 0, none⟩)] h n (R4 l) := by
 intro lp X h1 ms hl hY h0
 show FnT _ _ #[.func (.yield lp) #[] #[], .pointer (some ⟨g, 0, none⟩)] _ _ _
 have hG := hG.le hl
 have hR := hR.up hl
 have hRn : ∀ h', h1.le h' → Rd h' [] v 3 n (l.flatMap cS) := fun h' l => by
  have := (hR.up l).rd
  rwa [hn] at this
 refine Av func74 ntmps74 rfl rfl (fun w0 hw0 => ?_)
 simp only [A4]
 refine Ac (B8 (Ct (oL rfl underlying60 ((hG.at0 rfl).any)) rfl rfl rfl (Ct (AJ (hRn _ (Hp.le_refl _)).any rfl underlying60 rfl) rfl rfl rfl (Ct (As rfl rfl) rfl rfl rfl (DD (Ab (Ag ?_)))))))
 refine AD (fun q s hh ms' => ∃ (k : Nat), q = n - k ∧ s = [(0, .func (.yield lp) #[] #[]), (5, v), (6, .int .i64 n), (7, .int .i64 k)] ∧ h1.le hh ∧ k ≤ n ∧ X k hh ms')
  (n - 0) _ ⟨0, rfl, rfl, Hp.le_refl _, by omega, h0⟩ Qs ?_
 rintro q s hh ms' ⟨k, rfl, rfl, lh, hk, hX⟩
 refine Ac (B8 (Ct (Dy rfl rfl rfl) rfl rfl rfl (DD (Ab (Ac ?_)))))
 refine AF rfl (fun hlt => ?_) (fun hlt => ?_)
 ·have hkn : k < n := by omega
  have hi : k < l.length := by omega
  obtain ⟨x, hx⟩ : ∃ x, x = l.getD k default := ⟨_, rfl⟩
  have hone := x.one
  have he : R4 l k = [.agg (cS x).toArray] := by unfold R4; rw [hx]
  have hYk := hY k hh ms' hkn lh hX
  rw [he] at hYk
  have hseg : ∀ ms, Seg hh ms ((Bl v).add (k * 3)) (cS x) := fun ms => by
   rw [hx]
   have h1 := ((hR.up lh).any (ms := ms)).seg hi
   have e : l.getD k default = l[k] := by simp [List.getD, hi]
   rwa [e]
  refine Ai (Ab (Ac (Ag (Ax (Qx (Ah (k) (hRn _ lh).any rfl underlying60 BP rfl rfl (by omega) (by omega)) rfl (Qx (oG rfl underlying64 BP (hseg _)) rfl (BZ [.int .i64 0, .int .i64 0, .slice none 0 0] rfl BP rfl rfl (fun g4 => ?_))))))))
  refine Sa 0 [_, _, _] BP rfl (by simp [hone]) ?_
  refine Aq (Ac (B8 (Ct (As rfl rfl) rfl rfl rfl (Ct (oG rfl underlying64 BP (Seg.blk 0 rfl)) rfl rfl rfl (Ns (IF rfl rfl rfl (hYk) rfl rfl rfl (fun r h2 ms2 l2 hr => ?_)))))))
  obtain ⟨rfl, hX2⟩ := hr
  refine Ct (CP rfl rfl) rfl rfl rfl (DD (Ab (Bb rfl (Ai (Aj (Ab (B8 (Ct (oA rfl) rfl rfl rfl (Ct (As rfl rfl) rfl rfl rfl (DD ?_))))))))))
  exact Al (n - (k + 1)) _ (by omega) ⟨k + 1, rfl, rfl, Hp.le_trans lh l2, by omega, hX2⟩ Qs
 ·obtain rfl : k = n := by omega
  refine Aw (Aa (Aa (Af ?_)))
  exact B6 rfl (hX)
theorem K1 (v : Value) (n : Nat) (cs : List Value) (h : Hp) (hR : Rd h [] v 3 n cs) : FnT Tryz.prog 40 #[v] h [] (fun r h' ms' => h = h' ∧ ∃ g, r = .func (.func 74) #[] #[.pointer (some ⟨g, 0, none⟩)] ∧ ms' = [AX g 60 [v]]) := by
 refine Av func40 ntmps40 rfl rfl (fun w0 hw0 => ?_)
 simp only [A4]
 refine Ax (AS [_] rfl rfl (Rd.cells ‹_›) rfl rfl rfl (fun g1 => Qm rfl (B3 (Qx (CE rfl rfl rfl) rfl (Qm rfl (Aq (Ao ?_)))))))
 exact Am rfl rfl (⟨rfl, _, rfl, rfl⟩)
end Go.Proofs.YtdnelknieikbaaaGreat
namespace Go.Proofs.YtdnelknieikbaaaGreat
open Go.Proofs.Tryz
open Go.Eng Go.RowKit Go.Lin Go.Sort Go.Srt
structure TC (T : List ((Int × Int) × Int)) (ks : List (Int × Int)) : Prop where
 cnt : ∀ a, (Dg T a).getD 0 = (ks.count a : Nat)
 has : ∀ a x, Dg T a = some x → a ∈ ks
theorem TC.step {T : List ((Int × Int) × Int)} {ks : List (Int × Int)} (h : TC T ks) (b : Int × Int) (x : Int) (hx : (Dg T b).getD 0 = x) : TC (Dt (Dt T b x) b (x + 1)) (ks ++ [b]) := by
 have key : ∀ a, Dg (Dt (Dt T b x) b (x + 1)) a = if a = b then some (x + 1) else Dg T a := fun a => by
  rw [F3, F3]
  by_cases e : a = b <;> simp [e]
 refine ⟨fun a => ?_, fun a y hy => ?_⟩
 ·rw [key, List.count_append]
  by_cases e : a = b
  ·subst e
   rw [if_pos rfl]
   have := h.cnt a
   rw [hx] at this
   simp [this]
  ·rw [if_neg e, h.cnt a]
   have : [b].count a = 0 := List.count_eq_zero.2 (by simpa using e)
   rw [this]; rfl
 ·rw [key] at hy
  by_cases e : a = b
  ·exact List.mem_append_right _ (by simp [e])
  ·rw [if_neg e] at hy
   exact List.mem_append_left _ (h.has a y hy)
theorem L9 (T : List ((Int × Int) × Int)) (b : Int × Int) (x : Int) : (Dg (Dt T b x) b).getD 0 = x := by rw [F3]; simp
theorem Gp {P : Program} {o : Oper} {s : Ay} {h : Hp} {ms : List Hp} {K : Int × Int → Value} {kt et t : TypeId} {g : Nat} {m : Hp} {T : List ((Int × Int) × Int)} {bs : List Nat} {Ok : Int × Int → Prop} {x y : Operand} {z : Int} (a : Int × Int) (v : Int) (hv : (Dg T a).getD z = v) (L : LS P kt K Ok) (O : DI K kI g Ok m T bs) (hm : m ∈ ms) (ho : o.op = .lookup t x y false) (ht : P.underlying t = some (.map kt et)) (hz : ∀ w, (zeroValue et).run P w = .ok (kI z) w) (hx : ev s x = some (.map (some g))) (hy : ev s y = some (K a)) (ha : Ok a) :
  OX P o s h ms (kI v) := by rw [← hv]; exact Jr a L O hm ho ht hz hx hy ha
theorem JG (g n : Nat) (v : Value) (l : List StE) (h : Hp) (hG : Seg h [] ⟨g, 0, none⟩ [v]) (hR : RdL cS 3 h [] v l) (hn : l.length = n) (hn2 : n ≤ 1000000) (hk : ∀ s ∈ l, Mj s.key) :
  FnT Tryz.prog 39 #[.func (.func 74) #[] #[.pointer (some ⟨g, 0, none⟩)]] h [] (fun r h' ms' => h.le h' ∧ ∃ gT m T bs, r = .map (some gT) ∧ ms' = [m] ∧ DI kP kI gT Mj m T bs ∧ TC T (l.map StE.key)) := by
 refine Gd func39 ntmps39 rfl rfl (fun w0 hw0 => ?_)
 simp only [A4]
 refine Ax (Qm rfl (B3 (Gl (K := kP) (V := kI) (Ok := Mj) rfl rfl rfl rfl (fun gT mT0 OT0 => BZ [.map none] rfl VG rfl rfl (fun g3 => ?_)))))
 refine AK 0 0 rfl VG rfl rfl (by rfl) rfl rfl (by decide) rfl rfl ?_
 refine Aq (AL fun h1 l1 hG3 => ?_)
 have hI := MY g n v l h1 (hG.le l1) (hR.up l1) hn hn2
 refine Ac (Ax (Qm rfl (Aq (Ag ?_))))
 refine Fk (fun k hh ms => ∃ m T bs, ms = [m] ∧ DI kP kI gT Mj m T bs ∧ TC T ((l.take k).map StE.key)) (fun k s1 hh ms => ∃ g4 m T bs, s1 = [(3, .pointer (some ⟨g3, 0, none⟩)), (4, .pointer (some ⟨g4, 0, none⟩))] ∧ ms = [AX g4 64 (cS (l.getD k default)), m] ∧ DI kP kI gT Mj m T bs ∧ TC T ((l.take k).map StE.key)) rfl call74 hI (fun k => rfl) rfl ?_ ?_ ?_ ?_
 ·exact ⟨mT0, [], [], rfl, OT0, ⟨fun a => rfl, fun a x h => by cases h⟩⟩
 ·rintro w1 k hh ms1 hkn lh ⟨m, T, bs, rfl, O, C⟩
  obtain ⟨x, hx⟩ : ∃ x, x = l.getD k default := ⟨_, rfl⟩
  have he : R4 l k = [.agg (cS x).toArray] := by unfold R4; rw [hx]
  rw [he, ← hx]
  have hone := x.one
  refine BV (by kernel_rfl) (BZ [.int .i64 0, .int .i64 0, .slice none 0 0] rfl BP rfl rfl (fun g4 => ?_))
  refine Sa 0 [_, _, _] BP rfl (by simp [hone]) ?_
  refine Ak ?_
  exact AA _ ⟨g4, m, T, bs, rfl, rfl, O, C⟩ Qs
 ·rintro w1 k s1 hh ms1 hkn lh ⟨g4, m, T, bs, rfl, rfl, O, C⟩
  have hkl : k < l.length := by omega
  obtain ⟨x, hx⟩ : ∃ x, x = l.getD k default := ⟨_, rfl⟩
  have hxl : x = l[k] := by rw [hx]; simp [List.getD, hkl]
  rw [← hx]
  have hpk := hk x (by rw [hxl]; exact List.getElem_mem hkl)
  have hcnt : ((l.take k).map StE.key).count x.key ≤ 1000000 := Nat.le_trans List.count_le_length (by simp; omega)
  obtain ⟨v0, hv0⟩ : ∃ v0, (Dg T x.key).getD 0 = v0 := ⟨_, rfl⟩
  have hb0 : 0 ≤ v0 ∧ v0 ≤ 1000000 := by
   have h1 := C.cnt x.key
   rw [hv0] at h1
   omega
  have hst := C.step x.key v0 hv0
  have hst' : TC (Dt (Dt T x.key v0) x.key (v0 + 1)) ((l.take (k + 1)).map StE.key) := by
   rw [List.take_succ_eq_append_getElem hkl, List.map_append, ← hxl]
   exact hst
  have hv1 := L9 T x.key v0
  refine J5 fun h2 l2 lg4 _ _ => ?_
  have hG4 := Seg.ofLe lg4
  have hA4 := Seg.all hG4
  have hG3 := hG3.le (Hp.le_trans lh l2)
  refine EV (KD (n := 11) (bs := [true, true, true, true, true, true, false, false, false, false, false]) [true, true, true, true, true, true] Cd (by kernel_rfl) (by kernel_rfl) rfl rfl (by kernel_rfl) (QL rfl underlying51 ((hG3.at0 rfl).any) (QF E0 rfl (QL rfl underlying3 (hA4 0 _ rfl _) (QF Fd rfl (QL rfl underlying3 (hA4 1 _ rfl _) ?_))))))
  refine Qp rfl (EO [.int .i64 0, .int .i64 0] [(0, [_]), (1, [_])] [_, _] rfl underlying53 Fx rfl A8 rfl (by repeat (first | exact trivial | refine ⟨⟨by rfl, rfl, rfl⟩, ?_⟩)) rfl) ?_
  unfold CD
  simp only [List.cons_append, List.nil_append]
  refine A2 [6, 8] (by kernel_rfl) rfl ?_
  refine Az rfl ?_ ?_
  ·refine Qx (Gp (z := 0) x.key v0 hv0 Ee O (by simp) rfl underlying51 Hr rfl rfl hpk) rfl ?_
   refine Qw (An 7 15 (by kernel_rfl) rfl (Hp.le_refl _) rfl (oA rfl) (Qo 8 rfl (H2 (V := kI) (z := (0 : Int)) 0 x.key Ee O rfl rfl underlying51 Hr rfl rfl hpk rfl rfl rfl (fun m2 bs2 j2 b2 O2 hj2 hb2 => Qw ?_))))
   rw [hv0] at O2 hj2
   refine An 9 17 (by kernel_rfl) rfl (Hp.le_refl _) rfl (AC rfl rfl rfl) (Qo 10 rfl (Gi 0 (v0 + 1) O2 hj2 hb2 rfl rfl rfl rfl rfl rfl rfl (fun m3 O3 => Qw (Qe ?_))))
   exact Aj (AA [] ⟨m3, _, bs2, rfl, O3, hst'⟩ trivial)
  refine Az rfl ?_ ?_
  ·refine H2 (V := kI) (z := (0 : Int)) 0 x.key Ee O rfl rfl underlying51 Hr rfl rfl hpk rfl rfl rfl (fun m2 bs2 j2 b2 O2 hj2 hb2 => Qw ?_)
   rw [hv0] at O2 hj2
   refine An 9 17 (by kernel_rfl) rfl (Hp.le_refl _) rfl (AC rfl rfl rfl) (Qo 6 rfl ?_)
   refine Qx (Gp (z := 0) x.key v0 hv1 Ee O2 (by simp) rfl underlying51 Hr rfl rfl hpk) rfl ?_
   refine Qw (An 7 15 (by kernel_rfl) rfl (Hp.le_refl _) rfl (oA rfl) (Qo 10 rfl (Gi 0 (v0 + 1) O2 hj2 hb2 rfl rfl rfl rfl rfl rfl rfl (fun m3 O3 => Qw (Qe ?_)))))
   exact Aj (AA [] ⟨m3, _, bs2, rfl, O3, hst'⟩ trivial)
  exact A3
 ·intro D hh ms1 lh ⟨m, T, bs, e, O, C⟩
  subst e
  rw [← hn, List.take_length] at C
  have hG3 := hG3.le lh
  refine Aj (Ab (Ax (Ql rfl underlying51 ((hG3.at0 rfl).any) (Qm rfl (Aq (Ao (In 1 (.inr rfl) rfl ?_)))))))
  exact Am rfl rfl (⟨Hp.le_trans l1 lh, gT, m, T, bs, rfl, rfl, O, C⟩)
end Go.Proofs.YtdnelknieikbaaaGreat
namespace Go.Proofs.YtdnelknieikbaaaGreat
open Go.Proofs.Tryz
open Go.Eng Go.RowKit Go.Lin Go.Sort Go.Srt
def VV (T : List ((Int × Int) × Int)) (vis : List Nat) (vs : List Value) (vis' : List Nat) : Prop := ∃ (j : Nat) (hj : j < T.length), j ∉ vis ∧ vs = [kP T[j].1] ∧ vis' = vis ++ [j]
theorem RF (g1 gT : Nat) (m : Hp) (T : List ((Int × Int) × Int)) (bs : List Nat) (h : Hp) (hG : Seg h [] ⟨g1, 0, none⟩ [.map (some gT)]) (O : DI kP kI gT Mj m T bs) (hm : m.le h) :
  VY Tryz.prog 77 [.pointer (some ⟨g1, 0, none⟩)] h (VV T) [] (fun vis => vis.Perm (List.range T.length)) := by
 intro lp X h1 ms hl hY h0
 show FnT _ _ #[.func (.yield lp) #[] #[], .pointer (some ⟨g1, 0, none⟩)] _ _ _
 have hG := hG.le hl
 have hm := Hp.le_trans hm hl
 refine Av func77 ntmps77 rfl rfl (fun w0 hw0 => ?_)
 simp only [A4]
 refine Ax (Ql rfl underlying51 ((hG.at0 rfl).any) (Pu O hm rfl underlying51 rfl rfl rfl rfl (fun gi mi I0 => Aq (Ag ?_))))
 refine AD (fun q s hh ms' => ∃ (vis : List Nat) (mi : Hp) (ms0 : List Hp), q = T.length - vis.length ∧ s = [(0, .func (.yield lp) #[] #[]), (5, .pointer (some ⟨gi, 0, none⟩))] ∧ h1.le hh ∧ ms' = mi :: ms0 ∧ IW gi gT m mi bs vis ∧ X vis hh ms0)
  (T.length - 0) _ ⟨[], mi, ms, rfl, rfl, Hp.le_refl _, rfl, I0, h0⟩ Qs ?_
 rintro q s hh ms' ⟨vis, mi, ms0, rfl, rfl, lh, rfl, I, hX⟩
 have hm := Hp.le_trans hm lh
 refine Ax ?_
 refine RG 0 O I hm rfl rfl rfl rfl rfl rfl (fun hall => ?_) (fun j hj mi' hjv I' => ?_)
 ·refine Qm rfl (Aq (Ac (Bb rfl (Aw (Aa (Aa (Af (A5 ?_))))))))
  exact B6 rfl (⟨vis, (List.perm_ext_iff_of_nodup I.nodup List.nodup_range).2 fun j => ⟨fun hj => List.mem_range.2 (by have := I.lt j hj; rw [O.len] at this; exact this), fun hj => hall j (List.mem_range.1 hj)⟩, hX⟩)
 ·refine Qm rfl (Aq (Ac ?_))
  have hlen : (vis ++ [j]).length ≤ T.length := by
   have := I'.nodup.length_le_of_subset (l₂ := List.range T.length) fun x hx => List.mem_range.2 (by have := I'.lt x hx; rw [O.len] at this; exact this)
   simpa using this
  rw [List.length_append, List.length_singleton] at hlen
  refine AU rfl (Ai (Ab (Ag (Ax (Qx (OZ O I' hm (List.Mem.head _) hj rfl rfl) rfl (Qm rfl (BZ [.int .i64 0, .int .i64 0] rfl Fx rfl rfl (fun g3 => ?_))))))))
  refine Sa 0 [_, _] Fx rfl (by simp [Value.oneCell']) ?_
  refine Aq (Ac (B8 (Ct (As rfl rfl) rfl rfl rfl (Ct (oG rfl underlying53 Fx (Seg.blk 0 rfl)) rfl rfl rfl (Ns (Ph (pre := ms0) (fr := [mi']) (List.perm_append_comm (l₁ := [mi'])) rfl rfl rfl (hY vis [kP T[j].1] (vis ++ [j]) hh ms0 ⟨j, hj, hjv, rfl, rfl⟩ lh hX) rfl rfl rfl (fun r h2 ms2 l2 hr => ?_)))))))
  obtain ⟨rfl, hX2⟩ := hr
  refine Ct (CP rfl rfl) rfl rfl rfl (DD (Ab (Bb rfl (Ai (Aj (CF (List.perm_append_comm (l₂ := [mi'])) ?_))))))
  exact Al (T.length - (vis ++ [j]).length) _ (by rw [List.length_append, List.length_singleton]; omega) ⟨vis ++ [j], mi', ms2, rfl, rfl, Hp.le_trans lh l2, rfl, I', hX2⟩ Qs
theorem Vp (v : Option Nat) (h : Hp) : FnT Tryz.prog 42 #[.map v] h [] (fun r h' ms' => h = h' ∧ ∃ g, r = .func (.func 77) #[] #[.pointer (some ⟨g, 0, none⟩)] ∧ ms' = [AX g 51 [.map v]]) := by
 refine Av func42 ntmps42 rfl rfl (fun w0 hw0 => ?_)
 simp only [A4]
 refine Ax ?_
 refine AS [_] rfl rfl (by rfl) rfl rfl rfl (fun g1 => ?_)
 refine Qm rfl (B3 (Qx (CE rfl rfl rfl) rfl (Qm rfl (Aq (Ao ?_)))))
 exact Am rfl rfl (⟨rfl, _, rfl, rfl⟩)
end Go.Proofs.YtdnelknieikbaaaGreat
namespace Go.Proofs.YtdnelknieikbaaaGreat
open Go.Proofs.Tryz
open Go.Eng Go.RowKit Go.Lin Go.Sort Go.Srt
def Fu (T : List ((Int × Int) × Int)) (j : Nat) : Int × Int := (T.getD j ((0, 0), 0)).1
theorem LR {T : List ((Int × Int) × Int)} {j : Nat} (hj : j < T.length) : T[j].1 = Fu T j := by simp [Fu, List.getD, hj]
theorem OE (T : List ((Int × Int) × Int)) : (List.range T.length).map (Fu T) = T.map Prod.fst := by
 refine List.ext_getElem (by simp) fun i h1 h2 => ?_
 have hi : i < T.length := by simpa using h2
 simp [← LR hi]
theorem Kl (g1 gT : Nat) (m : Hp) (T : List ((Int × Int) × Int)) (bs : List Nat) (h : Hp) (hG : Seg h [] ⟨g1, 0, none⟩ [.map (some gT)]) (O : DI kP kI gT Mj m T bs) (hm : m.le h) (hT : T.length ≤ 1000000) :
  FnT Tryz.prog 102 #[.slice none 0 0, .func (.func 77) #[] #[.pointer (some ⟨g1, 0, none⟩)]] h [] (fun r h' ms' => h.le h' ∧ ∃ (vis : List Nat) (mo : Hp), ms' = [mo] ∧ vis.Perm (List.range T.length) ∧ OwnL cP 2 53 mo r (vis.map (Fu T))) := by
 have hI := RF g1 gT m T bs h hG O hm
 refine Gd func102 ntmps102 rfl rfl (fun w0 hw0 => ?_)
 simp only [A4]
 refine Ax ?_
 refine AS [_] rfl rfl (by rfl) rfl rfl rfl (fun g2 => ?_)
 refine Qm rfl (Aq (Ac (Ax (Qm rfl (Aq (Ag (BX (Di ?_))))))))
 refine Jc (R := VV T) (fun (vis : List Nat) hh ms => vis.Nodup ∧ (∀ x ∈ vis, x < T.length) ∧ ∃ v mo, ms = [AX g2 81 [v], mo] ∧ OwnL cP 2 53 mo v (vis.map (Fu T))) (fun (vis : List Nat) vs vis' s1 hh ms => vis.Nodup ∧ (∀ x ∈ vis, x < T.length) ∧ ∃ g5 v mo j, j < T.length ∧ j ∉ vis ∧ vis' = vis ++ [j] ∧ s1 = [(2, .pointer (some ⟨g2, 0, none⟩)), (5, .pointer (some ⟨g5, 0, none⟩))] ∧ ms = [AX g5 53 (cP (Fu T j)), AX g2 81 [v], mo] ∧ OwnL cP 2 53 mo v (vis.map (Fu T))) rfl call77 hI ?_ rfl ?_ ?_ ?_ ?_
 ·rintro k vs k' ⟨j, hj, _, rfl, _⟩; rfl
 ·exact ⟨List.Pairwise.nil, by simp, _, _, rfl, OwnL.nil EG⟩
 ·rintro w1 vis vs vis' hh ms1 ⟨j, hj, hjv, rfl, rfl⟩ lh ⟨hn, hlt, v, mo, rfl, hO⟩
  rw [LR hj]
  refine BV (by kernel_rfl) (BZ [.int .i64 0, .int .i64 0] rfl Fx rfl rfl (fun g5 => ?_))
  refine Sa 0 [_, _] Fx rfl (by simp [Value.oneCell']) ?_
  refine Ak ?_
  exact AA _ ⟨hn, hlt, g5, v, mo, j, hj, hjv, rfl, rfl, rfl, hO⟩ Qs
 ·rintro w1 vis vs vis' s1 hh ms1 hR lh ⟨hn, hlt, g5, v, mo, j, hj, hjv, rfl, rfl, rfl, hO⟩
  have hn' : (vis ++ [j]).Nodup := List.nodup_append.2 ⟨hn, by simp, fun a ha b hb e => by simp at hb; subst hb; subst e; exact hjv ha⟩
  have hlt' : ∀ x ∈ vis ++ [j], x < T.length := fun x hx => by
   rcases List.mem_append.1 hx with h1 | h1
   ·exact hlt x h1
   ·simp at h1; omega
  have hlen : (vis.map (Fu T)).length ≤ 1000000 := by
   have := hn.length_le_of_subset (l₂ := List.range T.length) fun x hx => List.mem_range.2 (hlt x hx)
   simp at this ⊢; omega
  have ov : v.oneCell' = true := (hO.rd (h := h) (ms := [mo]) (List.Mem.head _)).rd.one
  refine EV (BV (by kernel_rfl) (Ql rfl underlying81 (Cell.blk0 1 rfl rfl) (Qx (oG rfl underlying53 Fx (Seg.blk 0 rfl)) rfl ?_)))
  refine AB [_, _] rfl underlying81 Fx rfl (by rfl) rfl rfl (by omega) rfl rfl rfl (fun g10 => ?_)
  refine Bm 3 hO (RdL.one EG (x := Fu T j) (List.Mem.head _) rfl) rfl underlying81 Fx rfl (by omega) rfl rfl rfl Ss (by simp only [List.length_singleton]; omega) (by simp only [List.length_singleton]; omega) rfl rfl rfl (fun v2 mo2 hO2 => ?_)
  have ov2 : v2.oneCell' = true := (hO2.rd (h := h) (ms := [mo2]) (List.Mem.head _)).rd.one
  refine AK 2 0 rfl Ww rfl rfl (by assumption) rfl rfl (by (simp; done)) rfl rfl ?_
  refine Ak (Aj (A5 (A5 ?_)))
  refine AA [] ⟨hn', hlt', v2, mo2, rfl, ?_⟩ trivial
  rw [List.map_append]
  exact hO2
 ·intro D vis hh ms1 hfin lh ⟨hn, hlt, v, mo, e, hO⟩
  subst e
  have ov : v.oneCell' = true := (hO.rd (h := h) (ms := [mo]) (List.Mem.head _)).rd.one
  refine Aj (Ab (Ax (Ql rfl underlying81 (Cell.blk0 0 rfl rfl) (Qm rfl (Aq (Ao (A5 (In 1 (.inr rfl) rfl ?_))))))))
  exact Am rfl rfl (⟨lh, vis, mo, rfl, hfin, hO⟩)
theorem MC (g1 gT : Nat) (m : Hp) (T : List ((Int × Int) × Int)) (bs : List Nat) (h : Hp) (hG : Seg h [] ⟨g1, 0, none⟩ [.map (some gT)]) (O : DI kP kI gT Mj m T bs) (hm : m.le h) (hT : T.length ≤ 1000000) :
  FnT Tryz.prog 75 #[.func (.func 77) #[] #[.pointer (some ⟨g1, 0, none⟩)]] h [] (fun r h' ms' => h.le h' ∧ ∃ (vis : List Nat) (mo : Hp), ms' = [mo] ∧ vis.Perm (List.range T.length) ∧ OwnL cP 2 53 mo r (vis.map (Fu T))) := by
 refine Av func75 ntmps75 rfl rfl (fun w0 hw0 => ?_)
 simp only [A4]
 refine Ax (Qm rfl (B3 (Qm rfl (Qc call102 rfl (Kl g1 gT m T bs h hG O hm hT) (fun x h2 ms2 l2 hF => ?_)))))
 obtain ⟨l2', vis, mo, rfl, hp, hO⟩ := hF
 have ov : x.oneCell' = true := (hO.rd (h := h) (ms := [mo]) (List.Mem.head _)).rd.one
 refine Qm rfl (Aq (Ao ?_))
 exact Am rfl rfl (⟨l2, vis, mo, rfl, hp, hO⟩)
end Go.Proofs.YtdnelknieikbaaaGreat
namespace Go.Proofs.YtdnelknieikbaaaGreat
open Go.Eng Go.RowKit Go.Lin Go.Sort Go.Srt
structure Iv where
 fr : Int
 to : Int
 n : Int
deriving DecidableEq
def GO (x : Iv) : List Value := [.int .i64 x.fr, .int .i64 x.to, .int .i64 x.n]
theorem FS : ∀ x, (GO x).length = 3 := fun _ => rfl
theorem Kk (x : Iv) : ∀ c ∈ GO x, c.oneCell' = true := fun c hc => by
 simp only [GO, List.mem_cons, List.not_mem_nil, or_false] at hc
 rcases hc with rfl | rfl | rfl <;> rfl
def DE (c : Int × Int → Nat) (bl : List Iv) : Prop := ∃ ks : List (Int × Int), bl = ks.map (fun a => ⟨a.1, a.2, (c a : Nat)⟩) ∧ ks.Pairwise (fun a b => D3 a b < 0) ∧ ∀ a, a ∈ ks ↔ 0 < c a
theorem HN : ∀ (l l' : List (Int × Int)), l.Pairwise (fun a b => D3 a b < 0) → l'.Pairwise (fun a b => D3 a b < 0) → (∀ a, a ∈ l ↔ a ∈ l') → l = l'
 | [], [], _, _, _ => rfl
 | [], b :: l', _, _, h => absurd ((h b).2 (by simp)) (by simp)
 | a :: l, [], _, _, h => absurd ((h a).1 (by simp)) (by simp)
 | a :: l, b :: l', h1, h2, h => by
  have p1 := List.pairwise_cons.1 h1
  have p2 := List.pairwise_cons.1 h2
  have hab : a = b := by
   rcases List.mem_cons.1 ((h a).1 (by simp)) with e | e
   ·exact e
   ·rcases List.mem_cons.1 ((h b).2 (by simp)) with e' | e'
    ·exact e'.symm
    ·have q1 := p2.1 a e
     have q2 := p1.1 b e'
     rw [Cm] at q1 q2
     omega
  subst hab
  rw [HN l l' p1.2 p2.2 fun x => by
   have hx := h x
   have n1 : a ∉ l := fun hm => by have := p1.1 a hm; rw [Cm] at this; omega
   have n2 : a ∉ l' := fun hm => by have := p2.1 a hm; rw [Cm] at this; omega
   constructor
   ·intro hm
    rcases List.mem_cons.1 (hx.1 (List.mem_cons_of_mem _ hm)) with e | e
    ·subst e; exact absurd hm n1
    ·exact e
   ·intro hm
    rcases List.mem_cons.1 (hx.2 (List.mem_cons_of_mem _ hm)) with e | e
    ·subst e; exact absurd hm n2
    ·exact e]
theorem Jn {c c' : Int × Int → Nat} {l l' : List Iv} (h : DE c l) (h' : DE c' l') (e : ∀ a, c a = c' a) : l = l' := by
 obtain ⟨ks, rfl, h1, h2⟩ := h
 obtain ⟨ks', rfl, h1', h2'⟩ := h'
 obtain rfl := HN ks ks' h1 h1' fun a => by rw [h2, h2', e]
 exact List.map_congr_left fun a _ => by rw [e]
def Si (Z : Zz) (l : List StE) : Prop := (¬ Z.Rt → l = []) ∧ (Z.Rt → ∃ (N : Nat) (S : Nat → SM) (e : Nat → StE) (L : List Nat), l = L.map e ∧ L.Perm (List.range N) ∧ Valid Z.zg (Dr N S) ∧ ∀ k, k < N → (e k).fr = (S k).fr ∧ (e k).to = (S k).to)
theorem U3 {Z : Zz} {N : Nat} {S : Nat → SM} {e : Nat → StE} {L : List Nat} (hV : Valid Z.zg (Dr N S)) (hRt : Z.Rt) (hp : L.Perm (List.range N)) (he : ∀ k, k < N → (e k).fr = (S k).fr ∧ (e k).to = (S k).to) : ∀ s ∈ L.map e, Mj s.key := fun s hs => by
 obtain ⟨k, hk, rfl⟩ := List.mem_map.1 hs
 have hkN := List.mem_range.1 (hp.mem_iff.1 hk)
 obtain ⟨h1, h2⟩ := he k hkN
 have h3 := hV.ends k hkN
 have h4 : (S k).fr ≤ (S k).to := h3.1
 have h5 : (S k).to < Z.dims.length := h3.2
 have h6 := hRt.2.1
 constructor
 ·show Dh (e k).fr
  rw [h1]; unfold Dh; omega
 ·show Dh (e k).to
  rw [h2]; unfold Dh; omega
theorem UC {T : List ((Int × Int) × Int)} {ks : List (Int × Int)} (C : TC T ks) (hn : (T.map Prod.fst).Nodup) : (∀ a, a ∈ T.map Prod.fst ↔ 0 < ks.count a) ∧ T.length ≤ ks.length := by
 have h1 : ∀ a, a ∈ T.map Prod.fst ↔ a ∈ ks := fun a => by
  constructor
  ·intro h
   obtain ⟨p, hp, rfl⟩ := List.mem_map.1 h
   obtain ⟨j, hj⟩ := List.getElem?_of_mem hp
   exact C.has p.1 p.2 (G7 hn (j := j) hj)
  ·intro h
   refine Classical.byContradiction fun hno => ?_
   have h2 := C.cnt a
   rw [Ec hno] at h2
   have := List.count_pos_iff.2 h
   simp at h2
   omega
 refine ⟨fun a => by rw [h1, List.count_pos_iff], ?_⟩
 have := hn.length_le_of_subset fun a ha => (h1 a).1 ha
 simpa using this
end Go.Proofs.YtdnelknieikbaaaGreat
namespace Go.Proofs.YtdnelknieikbaaaGreat
open Go.Eng Go.RowKit Go.Lin Go.Sort Go.Srt
variable {h : Hp} {Z : Zz} {bl : List Iv}
def RdE (h : Hp) (d : Nat → Nat) (e : StE) (s : SM) (es : List Value) : Prop := e.fr = s.fr ∧ e.to = s.to ∧ s.fr ≤ s.to ∧ RdL cV 1 h [] e.v es ∧ es.length = s.to + 1 - s.fr ∧ ∀ k (hk : k < es.length), RdL cI 1 h [] es[k] (vec (d (s.fr + k)) (s.v (s.fr + k)))
theorem StV.rde {d : Nat → Nat} {e : StE} {s : SM} {m : Hp} (S : StV d s.g e s.fr s.to s.v m) (hl : m.le h) : ∃ es, RdE h d e s es := by
 obtain ⟨e1, e2, es, ma, mb, h0, rfl, h1, h2, h3, h4, h5⟩ := S
 have l1 : ma.le h := Hp.le_trans (Hp.le_trans Hp.le_joinl (Hp.le_joinr h1)) hl
 have l2 : mb.le h := Hp.le_trans (Hp.le_trans (Hp.le_joinr h2) (Hp.le_joinr h1)) hl
 exact ⟨es, e1, e2, h0, h3.rdh l1, h4, h5.rd l2 rfl⟩
def Gs (d : Nat → Nat) (e : StE) (s : SM) (es : List Value) : SV := ⟨e, es, (List.range (s.to + 1 - s.fr)).map fun k => vec (d (s.fr + k)) (s.v (s.fr + k))⟩
theorem JS (d : Nat → Nat) (e : StE) (s : SM) (es : List Value) {k : Nat} (hk : k < s.to + 1 - s.fr) : (Gs d e s es).vs.getD k [] = vec (d (s.fr + k)) (s.v (s.fr + k)) := by
 simp [Gs, List.getD, hk]
theorem Hb (d : Nat → Nat) (e : StE) (s : SM) (es : List Value) : (Gs d e s es).vs.length = s.to + 1 - s.fr := by simp [Gs]
theorem RdE.rdw {d : Nat → Nat} {e : StE} {s : SM} {es : List Value} (R : RdE h d e s es) : RdW h (Gs d e s es) := by
 obtain ⟨e1, e2, h0, h1, h2, h3⟩ := R
 refine ⟨by rw [Hb]; exact h2, h1, fun j hj => ?_⟩
 rw [Hb] at hj
 have hj' : j < es.length := by omega
 rw [JS d e s es hj]
 show RdL cI 1 h [] (es.getD j undef) _
 rw [Ev hj']
 exact h3 j hj'
theorem strands_sv (hRt : Z.Rt) {N : Nat} {S : Nat → SM} {e : Nat → StE} {L : List Nat} {m mB : Hp} {r : Value} (hO : OwnL cS 3 64 m r (L.map e)) (hm : m.le h) (B : Bag N (fun l x => StV Z.zg.d (S l).g (e l) (S l).fr (S l).to (S l).v x) mB) (hmB : mB.le h) (hp : L.Perm (List.range N)) (V : Valid Z.zg (Dr N S)) (hb : ∀ l, l < N → (S l).Bd Z.p Z.zg.d) :
  ∃ l : List SV, l.map SV.e = L.map e ∧ RdSs h r l ∧ Vo Z l := by
 have hex : ∀ k, ∃ es, k < N → RdE h Z.zg.d (e k) (S k) es := fun k => by
  by_cases hk : k < N
  ·obtain ⟨x, hx, hS⟩ := B.all k hk
   obtain ⟨es, he⟩ := hS.rde (Hp.le_trans hx hmB)
   exact ⟨es, fun _ => he⟩
  ·exact ⟨[], fun h => absurd h hk⟩
 obtain ⟨es, hes⟩ := Classical.axiomOfChoice hex
 have hLN : ∀ k ∈ L, k < N := fun k hk => List.mem_range.1 (hp.mem_iff.1 hk)
 have hat : ∀ t, t < L.length → L.getD t 0 < N := fun t ht => hLN _ (by simp [List.getD, ht])
 have hget : ∀ t, t < L.length → (L.map fun k => Gs Z.zg.d (e k) (S k) (es k)).getD t default = Gs Z.zg.d (e (L.getD t 0)) (S (L.getD t 0)) (es (L.getD t 0)) := fun t ht => by
  have e1 : L.getD t 0 = L[t] := by simp [List.getD, ht]
  rw [Et (by rw [List.length_map]; exact ht), List.getElem_map, e1]
 refine ⟨L.map fun k => Gs Z.zg.d (e k) (S k) (es k), by rw [List.map_map]; rfl, ⟨?_, fun s hs => ?_⟩, hRt, fun s hs => ?_, ?_⟩
 ·have h1 := (hO.rdh (ms := []) hm).rd
  refine ⟨?_, Ts⟩
  rw [List.length_map] at h1 ⊢
  rw [List.flatMap_map] at h1 ⊢
  exact h1
 ·obtain ⟨k, hk, rfl⟩ := List.mem_map.1 hs
  exact (hes k (hLN k hk)).rdw
 ·obtain ⟨k, hk, rfl⟩ := List.mem_map.1 hs
  have hkN := hLN k hk
  obtain ⟨e1, e2, h0, h1, h2, h3⟩ := hes k hkN
  have h4 := V.ends k hkN
  have h5 : (S k).to < Z.dims.length := h4.2
  refine ⟨?_, ?_, ?_, ?_, fun j hj => ?_⟩
  ·show 0 ≤ (e k).fr; omega
  ·show (e k).fr ≤ (e k).to; omega
  ·show (e k).to < _; omega
  ·rw [Hb]; show _ = (e k).to - (e k).fr + 1; omega
  ·rw [Hb] at hj
   rw [JS _ _ _ _ hj, AQ]
   have e3 : (Gs Z.zg.d (e k) (S k) (es k)).e.fr.toNat = (S k).fr := by show (e k).fr.toNat = _; omega
   rw [e3]
   refine ⟨Z.zg_d hRt _, fun x hx => ?_⟩
   obtain ⟨i, hi, rfl⟩ := mem_vec.1 hx
   exact hb k hkN _ (by omega) (by omega) i hi
 ·refine Mp V hp (by show (L.map _).length = _; rw [List.length_map]) (fun t ht => ?_) fun t ht k ho i hi => ?_
  ·obtain ⟨e1, e2, _⟩ := hes _ (hat t ht)
   show ((L.map fun k => Gs Z.zg.d (e k) (S k) (es k)).getD t default).e.fr.toNat = (S (L.getD t 0)).fr ∧ ((L.map fun k => Gs Z.zg.d (e k) (S k) (es k)).getD t default).e.to.toNat = (S (L.getD t 0)).to
   rw [hget t ht]
   show (e (L.getD t 0)).fr.toNat = _ ∧ (e (L.getD t 0)).to.toNat = _
   omega
  ·obtain ⟨e1, e2, h0, _⟩ := hes _ (hat t ht)
   have ho := Dc.on_iff.1 ho
   have ho : ((L.map fun k => Gs Z.zg.d (e k) (S k) (es k)).getD t default).e.fr.toNat ≤ k ∧ k ≤ ((L.map fun k => Gs Z.zg.d (e k) (S k) (es k)).getD t default).e.to.toNat := ho
   show (((L.map fun k => Gs Z.zg.d (e k) (S k) (es k)).getD t default).at_ k).getD i 0 = _
   rw [hget t ht] at ho ⊢
   have ho : (e (L.getD t 0)).fr.toNat ≤ k ∧ k ≤ (e (L.getD t 0)).to.toNat := ho
   unfold SV.at_
   have e3 : (Gs Z.zg.d (e (L.getD t 0)) (S (L.getD t 0)) (es (L.getD t 0))).e.fr.toNat = (S (L.getD t 0)).fr := by show (e (L.getD t 0)).fr.toNat = _; omega
   rw [e3, JS _ _ _ _ (by omega), show (S (L.getD t 0)).fr + (k - (S (L.getD t 0)).fr) = k by omega, Gw (by rw [AQ]; exact hi), EE hi]
   rfl
def EI (Z : Zz) (bl : List Iv) : Prop := (¬ Z.Rt → bl = []) ∧ (Z.Rt → ∃ D, Valid Z.zg D ∧ DE D.ct bl)
theorem OR (h : DE (fun a => (([] : List StE).map StE.key).count a) bl) : bl = [] := by
 obtain ⟨ks, rfl, _, h2⟩ := h
 cases ks with
 | nil => rfl
 | cons a ks => exact absurd ((h2 a).1 (by simp)) (by simp)
theorem GH {l : List StE} (hS : Si Z l) (hB : DE (fun a => (l.map StE.key).count a) bl) : EI Z bl := by
 refine ⟨fun h => ?_, fun h => ?_⟩
 ·rw [hS.1 h] at hB; exact OR hB
 ·obtain ⟨N, S, e, L, rfl, hp, V, he⟩ := hS.2 h
  refine ⟨_, V, ?_⟩
  have e1 : (fun a => ((L.map e).map StE.key).count a) = (Dr N S).ct := funext fun a => by
   rw [List.map_map]
   exact Ma (D := Dr N S) hp (fun k hk => by
    obtain ⟨h1, h2⟩ := he k hk
    show ((e k).fr, (e k).to) = _
    rw [h1, h2]; rfl) a
  rw [← e1]; exact hB
theorem JU (hRt : Z.Rt) {D : Dc} (V : Valid Z.zg D) {bl' : List Iv} (h : EI Z bl) (h' : DE D.ct bl') : bl = bl' := by
 obtain ⟨D0, V0, h0⟩ := h.2 hRt
 exact Jn h0 h' fun a => Jt hRt.2.2.2.1.fld V0 V a
end Go.Proofs.YtdnelknieikbaaaGreat
namespace Go.Proofs.YtdnelknieikbaaaGreat
open Go.Proofs.Tryz
open Go.Eng Go.RowKit Go.Lin Go.Sort Go.Srt
def Ar.core (a : Ar) : Bool × FM := (a.b, a.M)
def MI (n : Int) : Bool × FM := (decide (n < 0), ⟨5, 1, 1, [max n (-n) % 9]⟩)
theorem Kc {x : Ar} (h : x.v.oneCell' = true) : ∀ a ∈ [x], ∀ c ∈ cA a, c.oneCell' = true := fun a ha c hc => by
 rw [List.mem_singleton.1 ha] at hc
 simp only [cA, List.mem_cons, List.not_mem_nil, or_false] at hc
 rcases hc with rfl | rfl | rfl | rfl | rfl
 ·rfl
 ·rfl
 ·rfl
 ·rfl
 ·exact h
theorem GD (l : List Int) (vl : Value) (h : Hp) (hL : RdL cI 1 h [] vl l) (hl : l.length ≤ 100) (hb : ∀ x ∈ l, -9 ≤ x ∧ x ≤ 9) : FnT Tryz.prog 37 #[vl] h [] (fun r h' ms' => h.le h' ∧ ms' = [] ∧ ∃ (Z : Zz) (vd va : Value), r = .agg #[.int .i64 Z.p, vd, va] ∧ RdZ h' vd va Z ∧ Z.p = 5 ∧ Z.dims = List.replicate (l.length + 1) 1 ∧ Z.ars.map Ar.core = l.map MI) := by
 refine Av func37 ntmps37 rfl rfl (fun w0 hw0 => ?_)
 simp only [A4]
 refine Ax (BZ [.int .i64 0, .slice none 0 0, .slice none 0 0] rfl Bz rfl rfl (fun g2 => B3 ?_))
 refine AB [_] rfl underlying24 A8 rfl (by rfl) rfl rfl (by omega) rfl rfl rfl (fun g7 => ?_)
 refine Qx (AT Sr [.int .i64 0, .slice none 0 0, .slice none 0 0] [(0, _), (1, _)] [_, _, _] rfl Bz rfl rfl (by repeat (first | exact trivial | refine ⟨⟨rfl, rfl, rfl⟩, ?_⟩)) rfl) rfl ?_
 refine BZ [.int .i64 0, .slice none 0 0, .slice none 0 0] rfl Bz rfl rfl (fun g3 => ?_)
 refine Sa 0 [_, _, _] Bz rfl (by simp [Value.oneCell']) ?_
 refine Aq (Ac (Ax (Qm rfl (Qx (AJ hL.rd.any rfl underlying24 rfl) rfl (Qm rfl (Aq (Ag (BX ?_))))))))
 refine AD (fun q sl hh ms' => ∃ (i : Nat) (vd va : Value) (ma md : Hp) (A : List Ar), q = l.length - i ∧ sl = [(2, .pointer (some ⟨g2, 0, none⟩)), (3, .pointer (some ⟨g3, 0, none⟩)), (9, vl), (10, .int .i64 l.length), (11, .int .i64 i)] ∧ h.le hh ∧ ms' = [ma, AX g3 30 [.int .i64 5, vd, va], md, AX g2 30 [.int .i64 0, .slice none 0 0, .slice none 0 0]] ∧ i ≤ l.length ∧ OwnL cA 5 45 ma va A ∧ OwnL cI 1 3 md vd (List.replicate (i + 1) 1) ∧ A.map Ar.core = (l.take i).map MI ∧ ∀ a ∈ A, RdL cI 1 hh [] a.v a.M.e)
  (l.length - 0) _ ⟨0, _, _, _, _, [], rfl, rfl, Hp.le_refl _, rfl, by omega, OwnL.nil Fm, OwnL.rep (g := g7) (el := 3) 1 1 (by omega), by simp, by simp⟩ Qs ?_
 rintro q sl hh ms' ⟨i, vd, va, ma, md, A, rfl, rfl, lh, rfl, hi, hOa, hOd, hA, hE⟩
 have hL := hL.up lh
 have hAl : A.length = i := by have := congrArg List.length hA; simp at this; omega
 refine Ax (Qm rfl (Aq (Ac ?_)))
 refine AF rfl (fun hlt => ?_) (fun hlt => ?_)
 ·have hil : i < l.length := Bx hlt
  have hbi := hb _ (List.getElem_mem hil)
  refine Ai (Ab (Ac (Ag (Ax (Qx (Ah (i) hL.rd.any rfl underlying24 A8 rfl rfl (by omega) (by omega)) rfl (Ql rfl underlying3 (hL.any.cell0 hil rfl) (Qm rfl (B3 (Qm rfl (Qm rfl ?_))))))))))
  refine Qx (AT Pa [.bool false, .int .i64 0, .int .i64 0, .int .i64 0, .slice none 0 0] [(0, _)] [_, _, _, _, _] rfl Cr rfl rfl (by repeat (first | exact trivial | refine ⟨⟨rfl, rfl, rfl⟩, ?_⟩)) rfl) rfl ?_
  refine BZ [.bool false, .int .i64 0, .int .i64 0, .int .i64 0, .slice none 0 0] rfl Cr rfl rfl (fun g6 => ?_)
  refine Sa 0 [_, _, _, _, _] Cr rfl (by simp [Value.oneCell']) ?_
  refine B3 (Qm rfl (Qm rfl (Qx (Vd rfl rfl (by omega)) rfl (Qx (JV rfl rfl rfl) rfl (Qx (B0 rfl rfl rfl (by omega) (by omega)) rfl ?_)))))
  refine AB [_] rfl underlying24 A8 rfl (by rfl) rfl rfl (by omega) rfl rfl rfl (fun g23 => ?_)
  refine Qx (AT Gh [.int .i64 0, .int .i64 0, .int .i64 0, .slice none 0 0] [(0, _), (1, _), (2, _), (3, _)] [_, _, _, _] rfl AI rfl rfl (by repeat (first | exact trivial | refine ⟨⟨rfl, rfl, rfl⟩, ?_⟩)) rfl) rfl ?_
  refine Qf Ca rfl ?_
  refine L7 1 1 [.int .i64 5, .int .i64 1, .int .i64 1, .slice (some ⟨g23, 0, none⟩) 1 1] rfl AI rfl rfl rfl rfl (by simp [Value.oneCell']) rfl (by simp) rfl rfl ?_
  refine Aq (Bg (OwnL.blk (g := g23) (el := 3) (l := [max l[i] (-l[i]) % 9]) 1 Br rfl (by omega)) fun h3 l3 hRe => ?_)
  have o1 : vd.oneCell' = true := (hOd.rd (h := h) (ms := [md]) (List.Mem.head _)).rd.one
  refine Ax (Qf Bn rfl (Ql rfl underlying24 (Cell.blk 2 rfl rfl) ?_))
  refine AB [_] rfl underlying24 A8 rfl (by rfl) rfl rfl (by omega) rfl rfl rfl (fun g28 => ?_)
  refine Bm 4 hOd (RdL.one Br (x := 1) (List.Mem.head _) rfl) rfl underlying24 A8 rfl (by omega) rfl rfl rfl Cv (by simp only [List.length_singleton, List.length_replicate]; omega) (by simp only [List.length_singleton, List.length_replicate]; omega) rfl rfl rfl (fun vd2 md2 hOd2 => ?_)
  have o1 : vd2.oneCell' = true := (hOd2.rd (h := h) (ms := [md2]) (List.Mem.head _)).rd.one
  have hXE : RdL cI 1 h3 [] (Ar.mk (decide (l[i] < 0)) ⟨5, 1, 1, [max l[i] (-l[i]) % 9]⟩ (.slice (some ⟨g23, 0, none⟩) 1 1)).v (Ar.mk (decide (l[i] < 0)) ⟨5, 1, 1, [max l[i] (-l[i]) % 9]⟩ (.slice (some ⟨g23, 0, none⟩) 1 1)).M.e := hRe
  have o2 : va.oneCell' = true := (hOa.rd (h := h) (ms := [ma]) (List.Mem.head _)).rd.one
  refine Qf Bn rfl ?_
  refine AK 3 _ rfl BN rfl rfl (by assumption) rfl rfl (by (simp; done)) rfl rfl ?_
  refine IA (Qf BQ rfl (Ql rfl underlying28 (Cell.blk 3 rfl rfl) (Qx (oG rfl underlying45 Cr (Seg.blk 1 rfl)) rfl ?_)))
  refine AB [_, _, _, _, _] rfl underlying28 Cr rfl (by rfl) rfl rfl (by omega) rfl rfl rfl (fun g34 => ?_)
  refine Ba 3 hOa (RdL.one Fm (x := ⟨decide (l[i] < 0), ⟨5, 1, 1, [max l[i] (-l[i]) % 9]⟩, .slice (some ⟨g23, 0, none⟩) 1 1⟩) (List.Mem.head _) rfl) rfl underlying28 Cr rfl (by omega) rfl rfl rfl (Kc rfl) (by simp only [List.length_singleton, List.length_replicate]; omega) (by simp only [List.length_singleton, List.length_replicate]; omega) rfl rfl rfl (fun va2 ma2 hOa2 => ?_)
  have o2 : va2.oneCell' = true := (hOa2.rd (h := h) (ms := [ma2]) (List.Mem.head _)).rd.one
  refine Qf BQ rfl ?_
  refine AK 4 _ rfl Tm rfl rfl (by assumption) rfl rfl (by (simp; done)) rfl rfl ?_
  refine Ak (Aj (Ab (Ad (Qx (oA rfl) rfl (Qm rfl (Ak (A5 (A5 (A5 ?_)))))))))
  refine Al (l.length - (i + 1)) _ (by omega) ⟨i + 1, vd2, va2, ma2, md2, _, rfl, rfl, Hp.le_trans lh l3, rfl, by omega, hOa2, by rw [List.replicate_succ']; exact hOd2, ?_, fun a ha => ?_⟩ Qs
  ·rw [List.map_append, hA, List.take_succ_eq_append_getElem hil, List.map_append]; rfl
  ·rcases List.mem_append.1 ha with ha | ha
   ·exact (hE a ha).up l3
   ·rw [List.mem_singleton.1 ha]; exact hXE
 ·obtain rfl : i = l.length := by omega
  have o1 : vd.oneCell' = true := (hOd.rd (h := h) (ms := [md]) (List.Mem.head _)).rd.one
  have o2 : va.oneCell' = true := (hOa.rd (h := h) (ms := [ma]) (List.Mem.head _)).rd.one
  refine Bg hOa fun h3 l3 hRa => (Cu 1 rfl (Bg hOd fun h4 l4 hRd => (Aw (Aa (Aa (Af (Ab (Ax (Qx (oG rfl underlying30 Bz (Seg.blk 0 rfl)) rfl ?_)))))))))
  refine Sa 1 [_, _, _] Bz rfl (by simp [o1, o2]) ?_
  refine Aq (Ao (AP 0 rfl ?_))
  exact Cl (vs := [_, _, _]) 0 rfl rfl underlying30 rfl Bz rfl rfl (⟨Hp.le_trans lh (Hp.le_trans l3 l4), rfl, ⟨5, List.replicate (l.length + 1) 1, A⟩, vd, va, rfl, ⟨hRd, hRa.up l4, fun a ha => (hE a ha).up (Hp.le_trans l3 l4)⟩, rfl, rfl, by rw [hA, List.take_length]⟩)
def QQ (n : Int) : List (Bool × FM) := [(false, ⟨5, 2, 1, [1, 1]⟩), (true, ⟨5, 2, 1, [max n 1, n]⟩)]
theorem NV (n : Int) (h : Hp) (hn : 0 ≤ n ∧ n ≤ 9) : FnT Tryz.prog 38 #[.int .i64 n] h [] (fun r h' ms' => h.le h' ∧ ms' = [] ∧ ∃ (Z : Zz) (vd va : Value), r = .agg #[.int .i64 Z.p, vd, va] ∧ RdZ h' vd va Z ∧ Z.p = 5 ∧ Z.dims = [1, 2, 1] ∧ Z.ars.map Ar.core = QQ n) := by
 refine Av func38 ntmps38 rfl rfl (fun w0 hw0 => ?_)
 simp only [A4]
 refine Ax (BZ [.int .i64 0, .slice none 0 0, .slice none 0 0] rfl Bz rfl rfl (fun g2 => B3 ?_))
 refine AZ [(0, _), (1, _), (2, _)] [.int .i64 0, .int .i64 0, .int .i64 0] [_, _, _] rfl underlying24 A8 rfl (by omega) (by kernel_rfl) (by repeat (first | exact trivial | refine ⟨⟨by rfl, rfl, rfl⟩, ?_⟩)) rfl rfl rfl rfl (fun g3 => ?_)
 refine AZ [(0, _), (1, _)] [.int .i64 0, .int .i64 0] [_, _] rfl underlying24 A8 rfl (by omega) (by kernel_rfl) (by repeat (first | exact trivial | refine ⟨⟨by rfl, rfl, rfl⟩, ?_⟩)) rfl rfl rfl rfl (fun g4 => ?_)
 refine Qx (AT Gh [.int .i64 0, .int .i64 0, .int .i64 0, .slice none 0 0] [(0, _), (1, _), (2, _), (3, _)] [_, _, _, _] rfl AI rfl rfl (by repeat (first | exact trivial | refine ⟨⟨rfl, rfl, rfl⟩, ?_⟩)) rfl) rfl ?_
 refine Qx (AT Pa [.bool false, .int .i64 0, .int .i64 0, .int .i64 0, .slice none 0 0] [(1, _)] [_, _, _, _, _] rfl Cr rfl rfl (by repeat (first | exact trivial | refine ⟨⟨rfl, rfl, rfl⟩, ?_⟩)) rfl) rfl ?_
 refine Qm rfl (Qx (JV rfl rfl rfl) rfl (Qm rfl ?_))
 refine AZ [(0, _), (1, _)] [.int .i64 0, .int .i64 0] [_, _] rfl underlying24 A8 rfl (by omega) (by kernel_rfl) (by repeat (first | exact trivial | refine ⟨⟨by rfl, rfl, rfl⟩, ?_⟩)) rfl rfl rfl rfl (fun g10 => ?_)
 refine Qx (AT Gh [.int .i64 0, .int .i64 0, .int .i64 0, .slice none 0 0] [(0, _), (1, _), (2, _), (3, _)] [_, _, _, _] rfl AI rfl rfl (by repeat (first | exact trivial | refine ⟨⟨rfl, rfl, rfl⟩, ?_⟩)) rfl) rfl ?_
 refine Qx (AT Pa [.bool false, .int .i64 0, .int .i64 0, .int .i64 0, .slice none 0 0] [(0, _), (1, _)] [_, _, _, _, _] rfl Cr rfl rfl (by repeat (first | exact trivial | refine ⟨⟨rfl, rfl, rfl⟩, ?_⟩)) rfl) rfl ?_
 refine AZ [(0, _), (5, _)] [.bool false, .int .i64 0, .int .i64 0, .int .i64 0, .slice none 0 0, .bool false, .int .i64 0, .int .i64 0, .int .i64 0, .slice none 0 0] [_, _, _, _, _, _, _, _, _, _] rfl underlying28 Cr rfl (by omega) (by kernel_rfl) (by repeat (first | exact trivial | refine ⟨⟨by rfl, rfl, rfl⟩, ?_⟩)) rfl rfl rfl rfl (fun g13 => ?_)
 refine Qx (AT Sr [.int .i64 0, .slice none 0 0, .slice none 0 0] [(0, _), (1, _), (2, _)] [_, _, _] rfl Bz rfl rfl (by repeat (first | exact trivial | refine ⟨⟨rfl, rfl, rfl⟩, ?_⟩)) rfl) rfl ?_
 refine AH (OwnL.blk (g := g13) (el := 45) (F := cA) (l := [⟨false, ⟨5, 2, 1, [1, 1]⟩, .slice (some ⟨g4, 0, none⟩) 2 2⟩, ⟨true, ⟨5, 2, 1, [max n 1, n]⟩, .slice (some ⟨g10, 0, none⟩) 2 2⟩]) 2 Fm rfl (by omega)) fun h1 l1 hRa => (AH (OwnL.blk (g := g10) (el := 3) (F := cI) (l := [max n 1, n]) 2 Br rfl (by omega)) fun h2 l2 hR2 => (AH (OwnL.blk (g := g4) (el := 3) (F := cI) (l := [1, 1]) 2 Br rfl (by omega)) fun h3 l3 hR1 => (AH (OwnL.blk (g := g3) (el := 3) (F := cI) (l := [1, 2, 1]) 3 Br rfl (by omega)) fun h4 l4 hRd => ?_)))
 have hE : ∀ a ∈ [(⟨false, ⟨5, 2, 1, [1, 1]⟩, .slice (some ⟨g4, 0, none⟩) 2 2⟩ : Ar), ⟨true, ⟨5, 2, 1, [max n 1, n]⟩, .slice (some ⟨g10, 0, none⟩) 2 2⟩], RdL cI 1 h4 [] a.v a.M.e := fun a ha => by
  simp only [List.mem_cons, List.not_mem_nil, or_false] at ha
  rcases ha with rfl | rfl
  ·exact hR1.up l4
  ·exact hR2.up (Hp.le_trans l3 l4)
 refine Sa 0 [_, _, _] Bz rfl (by simp [Value.oneCell']) ?_
 refine Aq (Ao ?_)
 exact Cl (vs := [_, _, _]) 0 rfl rfl underlying30 rfl Bz rfl rfl (⟨Hp.le_trans l1 (Hp.le_trans l2 (Hp.le_trans l3 l4)), rfl, ⟨5, [1, 2, 1], [⟨false, ⟨5, 2, 1, [1, 1]⟩, .slice (some ⟨g4, 0, none⟩) 2 2⟩, ⟨true, ⟨5, 2, 1, [max n 1, n]⟩, .slice (some ⟨g10, 0, none⟩) 2 2⟩]⟩, _, _, rfl, ⟨hRd, hRa.up (Hp.le_trans l2 (Hp.le_trans l3 l4)), hE⟩, rfl, rfl, rfl⟩)
end Go.Proofs.YtdnelknieikbaaaGreat
namespace Go.Proofs.YtdnelknieikbaaaGreat
open Go.Eng Go.RowKit Go.Lin Go.Sort Go.Srt
variable {Z : Zz} {c : List (Bool × FM)}
def Lu (p : Int) (dims : List Int) (c : List (Bool × FM)) : Zz := ⟨p, dims, c.map fun x => ⟨x.1, x.2, .slice none 0 0⟩⟩
theorem S5 (h : Z.ars.map Ar.core = c) : Z.zg = (Lu Z.p Z.dims c).zg := by
 subst h
 have e : ∀ k, ((Z.ars.map Ar.core).map fun x : Bool × FM => (⟨x.1, x.2, .slice none 0 0⟩ : Ar))[k]? = (Z.ars[k]?).map fun a : Ar => (⟨a.b, a.M, .slice none 0 0⟩ : Ar) := fun k => by rw [List.map_map, List.getElem?_map]; rfl
 unfold Zz.zg Lu
 simp only [e]
 congr 1
 ·funext k; cases Z.ars[k]? <;> rfl
 ·funext k; cases Z.ars[k]? <;> rfl
theorem N9 (h : Z.ars.map Ar.core = c) : Z.Rt ↔ (Lu Z.p Z.dims c).Rt := by
 subst h
 unfold Zz.Rt Lu
 simp only [List.length_map]
 refine and_congr_right fun _ => and_congr_right fun _ => and_congr_right fun _ => and_congr_right fun _ => and_congr_right fun _ => (forall_congr' fun k => forall_congr' fun hk => ?_)
 simp only [List.getElem_map]
 exact Iff.rfl
theorem Zz.Rt.ok (h : Z.Rt) : Z.Ok := by
 obtain ⟨h1, h2, h3, h4, h5, h6⟩ := h
 have hp1 := h4.1
 have hp2 := h4.2.1
 refine ⟨⟨by omega, by omega⟩, fun x hx => ?_, fun a ha => ?_⟩
 ·have := h5 x hx
  exact ⟨by omega, by omega⟩
 ·obtain ⟨k, hk, rfl⟩ := List.mem_iff_getElem.1 ha
  obtain ⟨⟨q1, ⟨q2, q3, q4, q5⟩, _⟩, _⟩ := h6 k hk
  have := q1.1
  have := q1.2.1
  exact ⟨⟨by omega, by omega⟩, ⟨by omega, by omega⟩, ⟨by omega, by omega⟩⟩
theorem Lg {D : Dc} {ks : List (Int × Int)} (h : (List.range D.N).map (fun l => ((D.fr l : Int), (D.to l : Int))) = ks) (hs : ks.Pairwise fun a b => D3 a b < 0) : DE D.ct (ks.map fun a => ⟨a.1, a.2, 1⟩) := by
 have hc : ∀ a, D.ct a = ks.count a := fun a => by rw [← h]; exact (Ma (List.Perm.refl _) (fun _ _ => rfl) a).symm
 have hn : ks.Nodup := hs.imp fun {a b} h e => by
  subst e
  rw [Cm] at h
  omega
 refine ⟨ks, List.map_congr_left fun a ha => ?_, hs, fun a => ?_⟩
 ·rw [hc, hn.count, if_pos ha]; rfl
 ·rw [hc, List.count_pos_iff]
def Ex (Z : Zz) (ks : List (Int × Int)) : Prop := Z.Rt ∧ ∃ D, Valid Z.zg D ∧ DE D.ct (ks.map fun a => ⟨a.1, a.2, 1⟩)
theorem IC {p : Int} {dims : List Int} {ks : List (Int × Int)} (h1 : Z.p = p) (h2 : Z.dims = dims) (h3 : Z.ars.map Ar.core = c) (D : Dc) (U : Nat → Nat → Nat → Int) (hr : decide (Lu p dims c).Rt = true) (hv : Mr (Lu p dims c).zg D U = true) (hk : (List.range D.N).map (fun l => ((D.fr l : Int), (D.to l : Int))) = ks) (hs : ks.Pairwise fun a b => D3 a b < 0) : Ex Z ks := by
 subst h1 h2
 refine ⟨(N9 h3).2 (of_decide_eq_true hr), D, ?_, Lg hk hs⟩
 rw [S5 h3]
 exact OD U hv
def two (l a b : Nat) : Nat := if l = 0 then a else b
theorem WV (h1 : Z.p = 5) (h2 : Z.dims = [1, 1, 1]) (h3 : Z.ars.map Ar.core = [1, 1].map MI) : Ex Z [(0, 2)] :=
 IC h1 h2 h3 ⟨1, fun _ => 0, fun _ => 2, fun _ _ _ => 1⟩ (fun _ _ _ => 1) (by decide) (by decide) rfl (by decide)
theorem WU (h1 : Z.p = 5) (h2 : Z.dims = [1, 1, 1]) (h3 : Z.ars.map Ar.core = [1, 9].map MI) : Ex Z [(0, 1), (2, 2)] :=
 IC h1 h2 h3 ⟨2, fun l => two l 0 2, fun l => two l 1 2, fun _ _ _ => 1⟩ (fun _ _ _ => 1) (by decide) (by decide) rfl (by decide)
theorem WP (h1 : Z.p = 5) (h2 : Z.dims = [1, 1, 1]) (h3 : Z.ars.map Ar.core = [1, -2].map MI) : Ex Z [(0, 2)] :=
 IC h1 h2 h3 ⟨1, fun _ => 0, fun _ => 2, fun _ k _ => if k = 2 then 3 else 1⟩ (fun k _ _ => if k = 2 then 2 else 1) (by decide) (by decide) rfl (by decide)
theorem WT (h1 : Z.p = 5) (h2 : Z.dims = [1, 1, 1]) (h3 : Z.ars.map Ar.core = [9, -1].map MI) : Ex Z [(0, 0), (1, 2)] :=
 IC h1 h2 h3 ⟨2, fun l => two l 0 1, fun l => two l 0 2, fun _ _ _ => 1⟩ (fun _ _ _ => 1) (by decide) (by decide) rfl (by decide)
theorem WQ (h1 : Z.p = 5) (h2 : Z.dims = [1, 1, 1]) (h3 : Z.ars.map Ar.core = [-9, 3].map MI) : Ex Z [(0, 0), (1, 2)] :=
 IC h1 h2 h3 ⟨2, fun l => two l 0 1, fun l => two l 0 2, fun _ k _ => if k = 2 then 3 else 1⟩ (fun k _ _ => if k = 2 then 2 else 1) (by decide) (by decide) rfl (by decide)
theorem WO (h1 : Z.p = 5) (h2 : Z.dims = [1, 2, 1]) (h3 : Z.ars.map Ar.core = QQ 0) : Ex Z [(0, 1), (1, 2)] :=
 IC h1 h2 h3 ⟨2, fun l => two l 0 1, fun l => two l 1 2, fun l k i => if k = 1 ∧ l = 1 ∧ i = 1 then 0 else 1⟩ (fun k l i => if k = 1 then (if l = 0 then (if i = 0 then 0 else 1) else (if i = 0 then 1 else 4)) else 1) (by decide) (by decide) rfl (by decide)
theorem WX (h1 : Z.p = 5) (h2 : Z.dims = [1, 2, 1]) (h3 : Z.ars.map Ar.core = QQ 2) : Ex Z [(0, 2), (1, 1)] :=
 IC h1 h2 h3 ⟨2, fun l => two l 0 1, fun l => two l 2 1, fun l k i => if k = 1 ∧ l = 1 ∧ i = 1 then 0 else if k = 2 then 3 else 1⟩ (fun k l i => if k = 1 then (if l = 0 then (if i = 0 then 0 else 1) else (if i = 0 then 1 else 4)) else if k = 2 then 2 else 1) (by decide) (by decide) rfl (by decide)
end Go.Proofs.YtdnelknieikbaaaGreat
namespace Go.Proofs
open Go.Shelf
def Tryz.laysSlF06_f76_ren : Go.Shelf.Ren := ⟨fun | 6 => 76 | 15 => 104 | 14 => 103 | 28 => 130 | 29 => 131 | 20 => 122 | 21 => 123 | 22 => 124 | 23 => 125 | 24 => 126 | 25 => 127 | 26 => 128 | 27 => 129 | 46 => 140 | 47 => 141 | 48 => 142 | 49 => 143 | 50 => 144 | 57 => 153 | n => n, fun | 22 => 81 | 24 => 53 | 25 => 86 | 3 => 3 | 39 => 143 | 0 => 0 | 53 => 167 | 55 => 169 | 4 => 4 | 46 => 160 | 45 => 159 | 50 => 164 | 5 => 5 | 9 => 9 | 66 => 174 | 70 => 178 | 76 => 191 | 77 => 116 | n => n, fun | n => n⟩
theorem Tryz.laysSlF06_f76 : Go.Proofs.SlLaysF0.n6 Tryz.prog Tryz.laysSlF06_f76_ren := {
  mixed := by kernel_rfl
  f6 := ⟨Tryz.f76.name, by decide, Tryz.func76.trans (congrArg some (by kernel_rfl))⟩
  f14 := ⟨Tryz.f103.name, by decide, Tryz.func103.trans (congrArg some (by kernel_rfl))⟩
  f15 := Tryz.func104.trans (congrArg some (by kernel_rfl))
  f20 := ⟨Tryz.f122.name, by decide, Tryz.func122.trans (congrArg some (by kernel_rfl))⟩
  f21 := ⟨Tryz.f123.name, by decide, Tryz.func123.trans (congrArg some (by kernel_rfl))⟩
  f22 := ⟨Tryz.f124.name, by decide, Tryz.func124.trans (congrArg some (by kernel_rfl))⟩
  f23 := ⟨Tryz.f125.name, by decide, Tryz.func125.trans (congrArg some (by kernel_rfl))⟩
  f24 := ⟨Tryz.f126.name, by decide, Tryz.func126.trans (congrArg some (by kernel_rfl))⟩
  f25 := ⟨Tryz.f127.name, by decide, Tryz.func127.trans (congrArg some (by kernel_rfl))⟩
  f26 := ⟨Tryz.f128.name, by decide, Tryz.func128.trans (congrArg some (by kernel_rfl))⟩
  f27 := ⟨Tryz.f129.name, by decide, Tryz.func129.trans (congrArg some (by kernel_rfl))⟩
  f28 := Tryz.func130.trans (congrArg some (by kernel_rfl))
  f29 := Tryz.func131.trans (congrArg some (by kernel_rfl))
  f46 := ⟨Tryz.f140.name, by decide, Tryz.func140.trans (congrArg some (by kernel_rfl))⟩
  f47 := Tryz.func141.trans (congrArg some (by kernel_rfl))
  f48 := Tryz.func142.trans (congrArg some (by kernel_rfl))
  f49 := ⟨Tryz.f143.name, by decide, Tryz.func143.trans (congrArg some (by kernel_rfl))⟩
  f50 := ⟨Tryz.f144.name, by decide, Tryz.func144.trans (congrArg some (by kernel_rfl))⟩
  f57 := ⟨Tryz.f153.name, by decide, Tryz.func153.trans (congrArg some (by kernel_rfl))⟩
  t0 := Tryz.underlying0
  a0 := Tryz.isAgg0
  z0 := Tryz.sizeOf0
  v0 := Tryz.zeroValue0
  t3 := Tryz.underlying3
  a3 := Tryz.isAgg3
  z3 := Tryz.sizeOf3
  v3 := Tryz.zeroValue3
  t4 := Tryz.underlying4
  a4 := Tryz.isAgg4
  z4 := Tryz.sizeOf4
  v4 := Tryz.zeroValue4
  t5 := Tryz.underlying5
  a5 := Tryz.isAgg5
  z5 := Tryz.sizeOf5
  v5 := Tryz.zeroValue5
  t9 := Tryz.underlying9
  a9 := Tryz.isAgg9
  z9 := Tryz.sizeOf9
  v9 := Tryz.zeroValue9
  t22 := Tryz.underlying81
  a22 := Tryz.isAgg81
  z22 := Tryz.sizeOf81
  v22 := Tryz.zeroValue81
  t25 := Tryz.underlying86
  a25 := Tryz.isAgg86
  z25 := Tryz.sizeOf86
  v25 := Tryz.zeroValue86
  t39 := Tryz.underlying143
  a39 := Tryz.isAgg143
  z39 := Tryz.sizeOf143
  v39 := Tryz.zeroValue143
  t45 := Tryz.underlying159
  a45 := Tryz.isAgg159
  z45 := Tryz.sizeOf159
  v45 := Tryz.zeroValue159
  t46 := Tryz.underlying160
  a46 := Tryz.isAgg160
  z46 := Tryz.sizeOf160
  v46 := Tryz.zeroValue160
  t50 := Tryz.underlying164
  a50 := Tryz.isAgg164
  z50 := Tryz.sizeOf164
  v50 := Tryz.zeroValue164
  t53 := Tryz.underlying167
  a53 := Tryz.isAgg167
  z53 := Tryz.sizeOf167
  v53 := Tryz.zeroValue167
  t55 := Tryz.underlying169
  a55 := Tryz.isAgg169
  z55 := Tryz.sizeOf169
  v55 := Tryz.zeroValue169
  t66 := Tryz.underlying174
  a66 := Tryz.isAgg174
  z66 := Tryz.sizeOf174
  v66 := Tryz.zeroValue174
  t70 := Tryz.underlying178
  a70 := Tryz.isAgg178
  z70 := Tryz.sizeOf178
  v70 := Tryz.zeroValue178
  t76 := Tryz.underlying191
  a76 := Tryz.isAgg191
  z76 := Tryz.sizeOf191
  v76 := Tryz.zeroValue191
  t77 := Tryz.underlying116
  a77 := Tryz.isAgg116
  z77 := Tryz.sizeOf116
  v77 := Tryz.zeroValue116 }
end Go.Proofs
namespace Go.Proofs.YtdnelknieikbaaaGreat
open Go.Proofs.Tryz
open Go.Eng Go.RowKit Go.Lin Go.Sort Go.Srt
instance : Inhabited (Int × Int) := ⟨(0, 0)⟩
theorem TJ : SWO (ltOf D3) := by
 refine ⟨fun x => ?_, fun x y z h1 h2 => ?_, fun x y z h1 h2 => ?_⟩
 ·unfold ltOf; rw [decide_eq_false_iff_not, Cm]; omega
 ·unfold ltOf at *; rw [decide_eq_true_iff, Cm] at *; omega
 ·unfold ltOf at *; rw [decide_eq_false_iff_not, Cm] at *; omega
theorem Vf (w : World) : St w Hp.emp [] := ⟨fun g o e => (by cases e), fun m hm => (by simp at hm), fun m hm => (by simp at hm), List.Pairwise.nil⟩
theorem Tb (blk off size : Nat) (w : World) : CmpLays Tryz.prog 43 #[] cP 2 D3 blk off size w := fun m os dk _ x y =>
 (Ds (Uj x y Hp.emp) [] _ (Vf _)).mono fun _ _ ⟨e, h⟩ => ⟨e, h.grown⟩
theorem LJ (l : List (Int × Int)) (v : Value) (m h : Hp) (O : OwnL cP 2 53 m v l) (hl : l.length ≤ 1000000) :
  FnT Tryz.prog 76 #[v, .func (.func 43) #[] #[]] h [m] (fun _ h' ms' => h = h' ∧ ∃ (l' : List (Int × Int)) (m' : Hp), ms' = [m'] ∧ OwnL cP 2 53 m' v l' ∧ l'.Perm l ∧ l'.Pairwise fun a b => ¬ D3 b a < 0) := by
 intro w hw
 obtain ⟨⟨h1, h2⟩, hF⟩ := O
 rcases h2 with ⟨rfl, h4, rfl⟩ | ⟨g, cap, spare, rfl, rfl, e1, e2, e3⟩
 ·obtain rfl : l = [] := List.length_eq_zero_iff.1 h4
  refine (AnyF.slices_SortFunc_none Tryz.laysSlF06_f76 none 0 (.func (.func 43) #[] #[]) w).mono fun x w' ⟨e, ew⟩ => ?_
  subst ew
  exact ⟨_, h, [Hp.emp], e, Ends.refl hw, rfl, [], Hp.emp, rfl, OwnL.nil EG, List.Perm.refl _, List.Pairwise.nil⟩
 ·have hg : w.heap[g]? = some (.cells (l.toArray.toList.flatMap cP ++ spare).toArray 53 (0, 0)) := hw.own _ (List.mem_singleton.2 rfl) g _ (Hp.one_self _ _)
  have hlt := (Array.getElem?_eq_some_iff.1 hg).1
  refine (AnyQ.slices_SortFunc Tryz.laysSlF06_f76 2 Tryz.isAgg53 Tryz.sizeOf53 cP EG Ss D3 TJ 43 #[] g 0 cap l.toArray w call43 (Tb _ _ _ _) (PE EG (by omega) l.toArray spare hg) hlt (by simp; omega)).mono fun x w' ⟨e, d', n, os, P, S, ew⟩ => ?_
  subst ew
  have hsz : d'.size = l.length := by have := P.1; simpa using this
  have hE := Ou (enc := cP) (n := n) (el := 53) EG (by omega) l.toArray d' (by simpa using hsz) spare os hw
  refine ⟨_, h, _, e, hE, rfl, d'.toList, _, rfl, ⟨⟨?_, .inr ⟨g, cap, spare, ?_, rfl, ?_, ?_, e3⟩⟩, EG⟩, ?_, ?_⟩
  ·exact BL EG _
  ·have : d'.toList.length = l.length := by rw [Array.length_toList, hsz]
   rw [this]
  ·rw [List.length_append, BL EG, Array.length_toList, hsz, ← BL EG l, ← List.length_append]; exact e1
  ·rw [Array.length_toList, hsz]; exact e2
  ·have h := P.2.2
   have q1 : d'.extract 0 l.toArray.size = d' := by rw [← P.1]; simp
   have q2 : l.toArray.extract 0 l.toArray.size = l.toArray := by simp
   rw [q1, q2] at h
   exact h
  ·rw [List.pairwise_iff_getElem]
   intro i j hi hj hij
   have hi' : i < d'.size := by simpa using hi
   have hj' : j < d'.size := by simpa using hj
   have h := S i j (by omega) hij (by simp; omega)
   have q1 : d'[i]! = d'[i] := by simp [hi']
   have q2 : d'[j]! = d'[j] := by simp [hj']
   rw [q1, q2] at h
   exact of_decide_eq_false h
theorem Ji (g1 gT : Nat) (m : Hp) (T : List ((Int × Int) × Int)) (bs : List Nat) (h : Hp) (hG : Seg h [] ⟨g1, 0, none⟩ [.map (some gT)]) (O : DI kP kI gT Mj m T bs) (hm : m.le h) (hT : T.length ≤ 1000000) :
  FnT Tryz.prog 41 #[.func (.func 77) #[] #[.pointer (some ⟨g1, 0, none⟩)], .func (.func 43) #[] #[]] h [] (fun r h' ms' => h.le h' ∧ ∃ (ks : List (Int × Int)) (mo : Hp), ms' = [mo] ∧ OwnL cP 2 53 mo r ks ∧ ks.Perm (T.map Prod.fst) ∧ ks.Pairwise fun a b => ¬ D3 b a < 0) := by
 refine Av func41 ntmps41 rfl rfl (fun w0 hw0 => ?_)
 simp only [A4]
 refine Ax (Qm rfl (B3 (Qm rfl (Qc call75 rfl (MC g1 gT m T bs h hG O hm hT) (fun x h2 ms2 l2 hF => ?_)))))
 obtain ⟨l2', vis, mo, rfl, hp, hO⟩ := hF
 have hlen : (vis.map (Fu T)).length ≤ 1000000 := by rw [List.length_map, hp.length_eq, List.length_range]; exact hT
 refine Qm rfl (B3 (Qm rfl (Qm rfl (Bs (pre := [mo]) rfl call76 rfl (LJ (vis.map (Fu T)) x mo h2 hO hlen) rfl rfl rfl rfl (fun y h3 ms3 l3 hF => ?_)))))
 obtain ⟨rfl, ks, mo2, rfl, hO2, hp2, hs⟩ := hF
 have ov : x.oneCell' = true := (hO2.rd (h := h) (ms := [mo2]) (List.Mem.head _)).rd.one
 refine B3 (Qm rfl (Qm rfl (Aq (Ao ?_))))
 exact Am rfl rfl (⟨l2, ks, mo2, rfl, hO2, hp2.trans (by rw [← OE]; exact hp.map _), hs⟩)
end Go.Proofs.YtdnelknieikbaaaGreat
namespace Go.Proofs.YtdnelknieikbaaaGreat
open Go.Proofs.Tryz
open Go.Eng Go.RowKit Go.Lin Go.Sort Go.Srt
theorem Hn (Z : Zz) (vd va : Value) (h : Hp) (hO : Z.Ok) (hR : RdZ h vd va Z) :
  FnT Tryz.prog 17 #[.agg #[.int .i64 Z.p, vd, va]] h [] (fun r h' ms' => h.le h' ∧ ∃ (bl : List Iv) (m : Hp) (l : List StE), ms' = [m] ∧ OwnL GO 3 37 m r bl ∧ l.length ≤ 20400 ∧ Si Z l ∧ DE (fun a => (l.map StE.key).count a) bl) := by
 have o1 := hR.d.rd.one
 have o2 := hR.a.rd.one
 refine Av func17 ntmps17 rfl rfl (fun w0 hw0 => ?_)
 simp only [A4]
 refine Ax ?_
 refine AS [_, _, _] rfl rfl (by rfl) rfl rfl rfl (fun g1 => ?_)
 refine Qm rfl (Aq (AL fun h1 l1 hG1 => ?_))
 have hR := hR.up l1
 refine Bv (fun s hh ms' => ∃ (l : List StE) (gT : Nat) (m : Hp) (T : List ((Int × Int) × Int)) (bs : List Nat), s = [(3, .map (some gT))] ∧ h1.le hh ∧ ms' = [m] ∧ Si Z l ∧ l.length ≤ 20400 ∧ DI kP kI gT Mj m T bs ∧ TC T (l.map StE.key)) ?_ (fun s h ms hI => ?_)
 ·refine Ad (Qx (oG rfl underlying30 Bz (Seg.any hG1)) rfl ?_)
  by_cases hRt : Z.Rt
  ·refine Qc call30 rfl (strands_ok Z vd va h1 hO hRt hR) (fun r h2 ms2 l2 hF => ?_)
   obtain ⟨l2', N, S, e, L, m0, mB, rfl, hN, hO0, B, hp, hV, hbd, hsrt⟩ := hF
   have he : ∀ k, k < N → (e k).fr = (S k).fr ∧ (e k).to = (S k).to := fun k hk => by
    obtain ⟨x, _, h1, h2, _⟩ := B.all k hk
    exact ⟨h1, h2⟩
   have hlen := hp.length_eq
   rw [List.length_range] at hlen
   refine AH hO0 fun h3 l3 hRr => ?_
   have hRd : Rd h3 [] r 3 N ((L.map e).flatMap cS) := by have := hRr.rd; rwa [List.length_map, hlen] at this
   have orr := hRr.rd.one
   refine Qc call40 rfl (K1 r N _ h3 hRd) (fun q h4 ms4 l4 hF => ?_)
   obtain ⟨rfl, gv, rfl, rfl⟩ := hF
   refine BD fun h5 l5 hGv => ?_
   refine Qc call39 rfl (JG gv N r (L.map e) h5 hGv (hRr.up l5) (by rw [List.length_map, hlen]) (by omega) (U3 hV hRt hp he)) (fun c h6 ms6 l6 hF => ?_)
   obtain ⟨l6', gT, m, T, bs, rfl, rfl, O, C⟩ := hF
   refine Qm rfl (Ak (Db 1 rfl (A5 ?_)))
   exact AA _ ⟨L.map e, gT, m, T, bs, rfl, Hp.le_trans l2 (Hp.le_trans l3 (Hp.le_trans l5 l6)), rfl, ⟨fun h => absurd hRt h, fun _ => ⟨N, S, e, L, rfl, hp, hV, he⟩⟩, by rw [List.length_map, hlen]; exact hN, O, C⟩ Qs
  ·refine Qc call30 rfl (strands_not Z vd va h1 hO hRt hR) (fun r h2 ms2 l2 hF => ?_)
   obtain ⟨rfl, rfl⟩ := hF
   have hRr : RdL cS 3 h2 [] (.slice none 0 0) [] := (OwnL.nil ML (el := 64)).rdh (fun g o e => by cases e)
   refine Qc call40 rfl (K1 (.slice none 0 0) 0 _ h2 hRr.rd) (fun q h4 ms4 l4 hF => ?_)
   obtain ⟨rfl, gv, rfl, rfl⟩ := hF
   refine BD fun h5 l5 hGv => ?_
   refine Qc call39 rfl (JG gv 0 (.slice none 0 0) [] h5 hGv (hRr.up l5) rfl (by omega) (fun s hs => by simp at hs)) (fun c h6 ms6 l6 hF => ?_)
   obtain ⟨l6', gT, m, T, bs, rfl, rfl, O, C⟩ := hF
   refine Qm rfl (Ak ?_)
   exact AA _ ⟨[], gT, m, T, bs, rfl, Hp.le_trans l2 (Hp.le_trans l5 l6), rfl, ⟨fun _ => rfl, fun h => absurd h hRt⟩, by simp, O, C⟩ Qs
 ·obtain ⟨l, gT, m, T, bs, rfl, l2, rfl, hSp, hl, O, C⟩ := hI
  obtain ⟨hc1, hc2⟩ := UC C O.keys
  rw [List.length_map] at hc2
  refine Ax (Qm rfl (Aq (CV fun h3 l3 lm _ _ => (Ac (Ax (Qm rfl (Qc call42 rfl (Vp (some gT) h3) (fun q h4 ms4 l4 hF => ?_))))))))
  obtain ⟨rfl, gk, rfl, rfl⟩ := hF
  refine BD fun h5 l5 hGk => ?_
  have lm := Hp.le_trans lm l5
  refine Qc call41 rfl (Ji gk gT m T bs h5 hGk O lm (by omega)) (fun ks0 h6 ms6 l6 hF => ?_)
  obtain ⟨l6', ks, mk, rfl, hOk, hpk, hsk⟩ := hF
  have hklen : ks.length = T.length := by rw [hpk.length_eq, List.length_map]
  have hRdk : ∀ h' (ms : List Hp), mk ∈ ms → Rd h' ms ks0 2 ks.length (ks.flatMap cP) := fun h' ms hm => (hOk.rd (h := h') hm).rd
  refine Qx (AJ (hRdk _ _ (List.Mem.head _)) rfl underlying81 rfl) rfl (Qm rfl (Aq (Ag (Bg hOk fun h7 l7 hRk => ?_))))
  have lm := Hp.le_trans lm (Hp.le_trans l6 l7)
  refine BX ?_
  refine AD (fun n s hh ms' => ∃ (i : Nat) (vo : Value) (mo : Hp), n = ks.length - i ∧ s = [(3, .map (some gT)), (4, vo), (13, ks0), (14, .int .i64 ks.length), (15, .int .i64 i)] ∧ h7.le hh ∧ ms' = [mo] ∧ i ≤ ks.length ∧ OwnL GO 3 37 mo vo ((ks.take i).map fun a => ⟨a.1, a.2, (((l.map StE.key).count a : Nat) : Int)⟩))
   (ks.length - 0) _ ⟨0, _, _, rfl, rfl, Hp.le_refl _, rfl, by omega, OwnL.nil FS⟩ Qs ?_
  rintro n s hh ms' ⟨i, vo, mo, rfl, rfl, lh, rfl, hi, hO⟩
  have hRk := hRk.up lh
  have lm := Hp.le_trans lm lh
  refine Ax (Qm rfl (Aq (Ac ?_)))
  refine AF rfl (fun hlt => ?_) (fun hlt => ?_)
  ·have hil : i < ks.length := Bx hlt
   refine Ai (Ab ?_)
   refine Bv (fun s hh2 ms' => ∃ (vo : Value) (mo : Hp), s = [(3, .map (some gT)), (4, vo), (13, ks0), (14, .int .i64 ks.length), (15, .int .i64 i)] ∧ hh.le hh2 ∧ ms' = [mo] ∧ OwnL GO 3 37 mo vo ((ks.take (i + 1)).map fun a => ⟨a.1, a.2, (((l.map StE.key).count a : Nat) : Int)⟩)) ?_ (fun s h ms hI => ?_)
   ·have hseg : ∀ ms, Seg hh ms ((Bl ks0).add (i * 2)) (cP ks[i]) := fun ms => (hRk.any (ms := ms)).seg hil
    have hmem : ks[i] ∈ T.map Prod.fst := hpk.mem_iff.1 (List.getElem_mem hil)
    have hpo : Mj ks[i] := by
     obtain ⟨p, hp, e⟩ := List.mem_map.1 hmem
     rw [← e]; exact O.ok p hp
    have hll : ((ks.take i).map fun a => (⟨a.1, a.2, (((l.map StE.key).count a : Nat) : Int)⟩ : Iv)).length ≤ 100000 := by rw [List.length_map, List.length_take]; omega
    refine Ag (Ax (Qx (Ah _ hRk.rd.any rfl underlying81 Fx rfl rfl rfl (by omega)) rfl (Qx (oG rfl underlying53 Fx (hseg _)) rfl (BZ [.int .i64 0, .int .i64 0] rfl Fx rfl rfl (fun g6 => ?_)))))
    refine Sa 0 [_, _] Fx rfl (by simp [Value.oneCell']) ?_
    refine Aq (AL fun h8 l8 hG6 => ?_)
    have hA6 := Seg.all hG6
    have lm := Hp.le_trans lm l8
    have hcnt := C.cnt ks[i]
    refine AW (n := 12) (bs := [true, true, true, true, true, true, true, true, true, false, false, false]) [true, true, true, true, true, true, true, true, true] Cd (by kernel_rfl) (by kernel_rfl) rfl rfl (Qq rfl (Qp rfl (C8 0 rfl underlying53 A8 rfl rfl rfl (by omega)) (QL rfl underlying3 (hA6 0 _ rfl _) (Qp rfl (C8 1 rfl underlying53 A8 rfl rfl rfl (by omega)) (QL rfl underlying3 (hA6 1 _ rfl _) (Qq rfl (Qp rfl (oG rfl underlying53 Fx (Seg.any hG6)) (Qp rfl (M4 (V := kI) (z := (0 : Int)) ks[i] Ee O lm rfl underlying51 Hr rfl rfl hpo) ?_))))))))
    refine Qp rfl (AT US [.int .i64 0, .int .i64 0, .int .i64 0] [(0, _), (1, _), (2, _)] [_, _, _] rfl DV rfl rfl (by repeat (first | exact trivial | refine ⟨⟨rfl, rfl, rfl⟩, ?_⟩)) rfl) ?_
    unfold CD
    simp only [List.cons_append, List.nil_append]
    refine Qo 9 rfl ?_
    refine AB [_, _, _] rfl underlying33 DV rfl (by rfl) rfl rfl (by omega) rfl rfl rfl (fun g28 => ?_)
    refine Qw (Qo 10 rfl ?_)
    refine Bm 1 hO (RdL.one FS (x := ⟨ks[i].1, ks[i].2, (Dg T ks[i]).getD 0⟩) (List.Mem.head _) rfl) rfl underlying33 DV rfl (by omega) rfl rfl rfl Kk (by simp only [List.length_singleton]; omega) (by simp only [List.length_singleton]; omega) rfl rfl rfl (fun vo2 mo2 hO2 => ?_)
    refine Qw (Qo 11 rfl (Qm rfl (Qw (Qe (Aj (A5 ?_))))))
    exact AA _ ⟨vo2, mo2, rfl, l8, rfl, by rw [hcnt] at hO2; rw [List.take_succ_eq_append_getElem hil, List.map_append]; exact hO2⟩ Qs
   ·obtain ⟨vo2, mo2, rfl, l8, rfl, hO2⟩ := hI
    refine Ad (Qx (oA rfl) rfl (Qm rfl (Ak ?_)))
    exact Al (ks.length - (i + 1)) _ (by omega) ⟨i + 1, vo2, mo2, rfl, rfl, Hp.le_trans lh l8, rfl, by omega, hO2⟩ Qs
  ·obtain rfl : i = ks.length := by omega
   rw [List.take_length] at hO
   have ov : vo.oneCell' = true := (hO.rd (h := h) (ms := [mo]) (List.Mem.head _)).rd.one
   refine Aw (Aa (Aa (Af (Ab (Ax (Qm rfl (Qm rfl (Aq (Ao ?_)))))))))
   have hnd : ks.Nodup := hpk.nodup_iff.2 O.keys
   have hstr : ks.Pairwise fun a b => D3 a b < 0 := (hsk.and hnd).imp fun {a b} ⟨h1, h2⟩ => by
    rw [Cm] at h1 ⊢
    refine Classical.byContradiction fun h3 => h2 (Prod.ext ?_ ?_) <;> omega
   exact Am rfl rfl (⟨Hp.le_trans l1 (Hp.le_trans l2 (Hp.le_trans l3 (Hp.le_trans l5 (Hp.le_trans l6 (Hp.le_trans l7 lh))))), _, mo, l, rfl, hO, hl, hSp, ks, rfl, hstr, fun a => by rw [hpk.mem_iff, hc1]⟩)
end Go.Proofs.YtdnelknieikbaaaGreat
namespace Go.Proofs.YtdnelknieikbaaaGreat
open Go.Proofs.Tryz
open Go.Eng Go.RowKit Go.Lin Go.Sort Go.Srt
theorem K6 {P : Program} {d : Nat} (hu : P.underlying 3 = some (.int .i64)) (hp : P.plainKey 3 = true) (X Y : Array Value) (x y : Nat → Int) (w : World) : ∀ (fs : List Field) (os : List Nat), fs.map (fun f => (decide (f.name ≠ "_"), f.type, f.offset)) = os.map (fun o => (true, 3, o)) → (∀ o ∈ os, X[o]? = some (.int .i64 (x o)) ∧ Y[o]? = some (.int .i64 (y o))) → (Op.eqFields (d + 1) X Y fs).run P w = .ok (os.all fun o => x o == y o) w
 | [], [], _, _ => by simp [Op.eqFields]
 | [], o :: os, h, _ => by simp at h
 | f :: fs, [], h, _ => by simp at h
 | f :: fs, o :: os, h, hc => by
  simp only [List.map_cons, List.cons.injEq, Prod.mk.injEq] at h
  obtain ⟨⟨h1, h2, h3⟩, h4⟩ := h
  have ih := K6 (d := d) hu hp X Y x y w fs os h4 fun a ha => hc a (List.mem_cons_of_mem _ ha)
  obtain ⟨c1, c2⟩ := hc o (List.Mem.head _)
  unfold Op.eqFields
  rw [if_pos (of_decide_eq_true h1), h2, h3]
  simp only [Sem.run_bind, run_part_plain w hp c1, run_part_plain w hp c2, Result.andThen_ok, run_equalIn_int w d 3 .i64 .i64 _ _ hu]
  cases e : x o == y o
  ·simp [e]
  ·simp [e, ih]
theorem UG : (Tryz.prog.fieldsOf 37).toList.map (fun f => (decide (f.name ≠ "_"), f.type, f.offset)) = [0, 1, 2].map (fun o => (true, 3, o)) := by kernel_rfl
theorem WW : Tryz.prog.plainKey 3 = true := by kernel_rfl
theorem Wt : Tryz.prog.eqGuardType Tryz.prog.depth 37 = false := by kernel_rfl
theorem Wc : Tryz.prog.underlying 37 = some (.struct (Tryz.prog.fieldsOf 37)) := by kernel_rfl
theorem VU : Tryz.prog.stoodInHeld 37 = false := by kernel_rfl
theorem Ty {o : Oper} {s : Ay} {h : Hp} {ms : List Hp} {x y : Operand} {u : TypeId} (a b : Iv) (ho : o.op = .binOp .neq 37 x y u) (hx : ev s x = some (.agg (GO a).toArray)) (hy : ev s y = some (.agg (GO b).toArray)) : OX Tryz.prog o s h ms (.bool (decide (a ≠ b))) :=
 BI fun ρ w hρ _ => by
  have h1 : (Op.equalIn 10000 37 (.agg (GO a).toArray) (.agg (GO b).toArray)).run Tryz.prog w = .ok (decide (a = b)) w := by
   have h2 : (Op.eqFields (9998 + 1) (GO a).toArray (GO b).toArray (Tryz.prog.fieldsOf 37).toList).run Tryz.prog w = _ := K6 (d := 9998) underlying3 WW (GO a).toArray (GO b).toArray (fun o => match o with | 0 => a.fr | 1 => a.to | _ => a.n) (fun o => match o with | 0 => b.fr | 1 => b.to | _ => b.n) w _ _ UG fun o ho => by
    simp only [List.mem_cons, List.not_mem_nil, or_false] at ho
    rcases ho with rfl | rfl | rfl <;> exact ⟨rfl, rfl⟩
   rw [run_equalIn_agg w 9999 37 _ _ Wc VU, h2]
   congr 1
   obtain ⟨a1, a2, a3⟩ := a
   obtain ⟨b1, b2, b3⟩ := b
   rw [Bool.eq_iff_iff, decide_eq_true_iff, Iv.mk.injEq]
   show ((a1 == b1) && ((a2 == b2) && ((a3 == b3) && true))) = true ↔ _
   simp only [Bool.and_true, Bool.and_eq_true, beq_iff_eq]
  have e : (!decide (a = b)) = decide (a ≠ b) := by simp
  simp only [execOp, ho, hρ _ _ hx, hρ _ _ hy]
  simp only [Sem.run_bind, run_eqGuard_agg w _ _ _ _ _ _ Wt, run_neq_struct, h1, e, Result.andThen_ok, Sem.run_pure]
theorem Tc (a b : List Iv) (va vb : Value) (h : Hp) (hA : RdL GO 3 h [] va a) (hB : RdL GO 3 h [] vb b) (ms : List Hp) : Dq Tryz.prog 16 #[va, vb] h ms (.bool (decide (a = b))) := by
 refine Ds ?_ ms
 have la := hA.len_le
 have lb := hB.len_le
 refine Av func16 ntmps16 rfl rfl (fun w0 hw0 => ?_)
 simp only [A4]
 refine Ax (Qm rfl (Aq (Ac (Ax (Qm rfl (Qx (AJ hA.rd.any rfl underlying33 rfl) rfl (Qm rfl (Qx (AJ hB.rd.any rfl underlying33 rfl) rfl (Qm rfl (Aq ?_))))))))))
 refine AF rfl (fun hne => ?_) (fun hne => ?_)
 ·refine Ac (Ad (Qm rfl (Aq (Ao (Ae ?_)))))
  exact Am rfl rfl (by rw [decide_eq_false]; intro e; rw [e] at hne; exact hne rfl)
 ·have hl : a.length = b.length := by omega
  refine Ai (Ab (Ac (Ax (Qm rfl (Aq (Ag ?_))))))
  refine AD (fun q s h' ms' => ∃ (k : Nat), q = a.length - k ∧ s = [(0, va), (1, vb), (5, .int .i64 k)] ∧ h = h' ∧ ms' = [] ∧ k ≤ a.length ∧ a.take k = b.take k)
   (a.length - 0) _ ⟨0, rfl, rfl, rfl, rfl, by omega, rfl⟩ Qs ?_
  rintro q s h' ms' ⟨k, rfl, rfl, rfl, rfl, hk, he⟩
  refine Ac (Ax (Qm rfl (Qm rfl (Qx (AJ hA.rd.any rfl underlying33 rfl) rfl (Qm rfl (Aq ?_))))))
  refine AF rfl (fun hlt => ?_) (fun hlt => ?_)
  ·have hka : k < a.length := Bx hlt
   have hkb : k < b.length := by omega
   have ca : ∀ ms, Seg h ms ((Bl va).add (k * 3)) (GO a[k]) := fun ms => (hA.any (ms := ms)).seg hka
   have cb : ∀ ms, Seg h ms ((Bl vb).add (k * 3)) (GO b[k]) := fun ms => (hB.any (ms := ms)).seg hkb
   refine Ai (Ab (Ac (Ag (Ac (BB 8 Cd (by kernel_rfl) rfl (Wm rfl (Wm rfl (AV (Ah (k) hA.rd.any rfl underlying33 DV rfl rfl (by omega) (by omega)) rfl rfl (AV (oG rfl underlying37 DV (ca _)) rfl rfl (Wm rfl (Wm rfl (AV (Ah (k) hB.rd.any rfl underlying33 DV rfl rfl (by omega) (by omega)) rfl rfl (AV (oG rfl underlying37 DV (cb _)) rfl rfl (BC (Qx (Ty a[k] b[k] rfl rfl rfl) rfl (Aq ?_))))))))))))))))
   refine AF rfl (fun hne => ?_) (fun hne => ?_)
   ·refine Ac (Ad (Qm rfl (Aq (Ao (Ap (Ae (Ae (Ap (Ae ?_)))))))))
    exact Am rfl rfl (by rw [decide_eq_false]; rintro rfl; exact hne rfl)
   ·refine Ai (Aj (Ab (Ad (Qm rfl (Qx (oA rfl) rfl (Qm rfl (Ak ?_)))))))
    refine Al (a.length - (k + 1)) _ (by omega) ⟨k + 1, rfl, rfl, rfl, rfl, by omega, ?_⟩ Qs
    rw [List.take_add_one, List.take_add_one, he, List.getElem?_eq_getElem hka, List.getElem?_eq_getElem hkb, Decidable.not_not.1 hne]
  ·obtain rfl : k = a.length := by omega
   refine Aw (Aa (Aa (Af (Ab (Ax (Qm rfl (Aq (Ao ?_))))))))
   exact Am rfl rfl (by rw [List.take_length, hl, List.take_length] at he; rw [decide_eq_true he])
end Go.Proofs.YtdnelknieikbaaaGreat
set_option maxHeartbeats 2000000
namespace Go.Proofs.YtdnelknieikbaaaGreat
open Go.Proofs.Tryz
open Go.Eng Go.RowKit Go.Lin Go.Sort Go.Srt
def GQ (l : List Int) (m : Nat) : List Iv := (List.range m).map fun i => ⟨l.getD (2 * i) 0, l.getD (2 * i + 1) 0, 1⟩
theorem Sy {a b : List Iv} {va vb : Value} {h : Hp} (hA : RdL GO 3 h [] va a) (hB : RdL GO 3 h [] vb b) (e : a = b) (ms : List Hp) : Dq Tryz.prog 16 #[va, vb] h ms (.bool true) := by
 have := Tc a b va vb h hA hB ms
 rwa [decide_eq_true e] at this
theorem IV {Z : Zz} {vd va vl : Value} {l : List SV} {h : Hp} (hR : RdZ h vd va Z) (hL : RdSs h vl l) (hN : l.length ≤ 1000000) (hC : Vo Z l) (ms : List Hp) : Dq Tryz.prog 31 #[.agg #[.int .i64 Z.p, vd, va], vl] h ms (.bool true) := by
 have := Ds (OF Z vd va l vl h hC.1.ok hR hL hN) ms
 rwa [Jf hC] at this
theorem VX (Z : Zz) (vd va : Value) (l : List Int) (vl : Value) (m : Nat) (D : Dc) (h : Hp) (hRt : Z.Rt) (hR : RdZ h vd va Z) (hL : RdL cI 1 h [] vl l) (hl : l.length = 2 * m) (hm : m ≤ 100) (V : Valid Z.zg D) (hB : DE D.ct (GQ l m)) : FnT Tryz.prog 36 #[.agg #[.int .i64 Z.p, vd, va], vl] h [] (fun r h' ms' => r = .bool true ∧ ms' = []) := by
 have o1 := hR.d.rd.one
 have o2 := hR.a.rd.one
 have hO := hRt.ok
 refine Av func36 ntmps36 rfl rfl (fun w0 hw0 => ?_)
 simp only [A4]
 refine Ax ?_
 refine AS [_, _, _] rfl rfl (by rfl) rfl rfl rfl (fun g2 => ?_)
 refine Qm rfl (Aq (AL fun h1 l1 hS => ?_))
 have hR := hR.up l1
 have hL := hL.up l1
 refine Ax (Qm rfl (Aq (Ac (Ax (Qm rfl (Aq (Ag (BX ?_))))))))
 refine AD (fun q sl hh ms' => ∃ (i : Nat) (vo : Value) (mo : Hp), q = m - i ∧ sl = [(1, vl), (2, .pointer (some ⟨g2, 0, none⟩)), (5, vo), (6, .int .i64 ((2 * i + 1 : Nat) : Int))] ∧ h1 = hh ∧ ms' = [mo] ∧ i ≤ m ∧ OwnL GO 3 37 mo vo (GQ l i))
  (m - 0) _ ⟨0, _, _, rfl, rfl, rfl, rfl, by omega, OwnL.nil FS⟩ Qs ?_
 rintro q sl hh ms' ⟨i, vo, mo, rfl, rfl, rfl, rfl, hi, hOw⟩
 refine Ac (Ax (Qm rfl (Qm rfl (Qx (AJ hL.rd.any rfl underlying24 rfl) rfl (Qm rfl (Aq ?_))))))
 refine AF rfl (fun hlt => ?_) (fun hlt => ?_)
 ·have him : i < m := by omega
  have h0 : 2 * i < l.length := by omega
  have hk1 : 2 * i + 1 < l.length := by omega
  have hwl : (GQ l i).length ≤ 100 := by simp [GQ]; omega
  have hw : GQ l (i + 1) = GQ l i ++ [⟨l[2 * i], l[2 * i + 1], 1⟩] := by
   unfold GQ
   rw [List.range_succ, List.map_append, List.map_singleton, Gw h0, Gw hk1]
  refine Ai (Ab ?_)
  refine Bv (fun sl hh ms' => ∃ (vo : Value) (mo : Hp), sl = [(1, vl), (2, .pointer (some ⟨g2, 0, none⟩)), (5, vo), (6, .int .i64 ((2 * i + 1 : Nat) : Int))] ∧ h1 = hh ∧ ms' = [mo] ∧ OwnL GO 3 37 mo vo (GQ l (i + 1))) ?_ (fun s h ms hI => ?_)
  ·refine Ag (AW (n := 14) (bs := [true, true, true, true, true, true, true, true, true, true, true, false, false, false]) [true, true, true, true, true, true, true, true, true, true, true] Cd (by kernel_rfl) (by kernel_rfl) rfl rfl (Qq rfl (Qq rfl (Qq rfl (Qp rfl (oS rfl) (Qp rfl (Ah (2 * i) hL.rd.any rfl underlying24 A8 rfl rfl (by omega) (by omega)) (QL rfl underlying3 (hL.any.cell0 h0 rfl) (Qq rfl (Qq rfl (Qp rfl (Ah (2 * i + 1) hL.rd.any rfl underlying24 A8 rfl rfl (by omega) (by omega)) (QL rfl underlying3 (hL.any.cell0 hk1 rfl) ?_)))))))))))
   refine Qp rfl (AT US [.int .i64 0, .int .i64 0, .int .i64 0] [(0, _), (1, _), (2, _)] [_, _, _] rfl DV rfl rfl (by repeat (first | exact trivial | refine ⟨⟨rfl, rfl, rfl⟩, ?_⟩)) rfl) ?_
   unfold CD
   simp only [List.cons_append, List.nil_append]
   refine Qo 11 rfl ?_
   refine AB [_, _, _] rfl underlying33 DV rfl (by rfl) rfl rfl (by omega) rfl rfl rfl (fun g24 => ?_)
   refine Qw (Qo 12 rfl ?_)
   refine Bm 1 hOw (RdL.one FS (x := ⟨l[2 * i], l[2 * i + 1], 1⟩) (List.Mem.head _) rfl) rfl underlying33 DV rfl (by omega) rfl rfl rfl Kk (by simp only [List.length_singleton]; omega) (by simp only [List.length_singleton]; omega) rfl rfl rfl (fun vo2 mo2 hO2 => ?_)
   refine Qw (Qo 13 rfl (Qm rfl (Qw (Qe (Aj (A5 ?_))))))
   exact AA _ ⟨vo2, mo2, rfl, rfl, rfl, by rw [hw]; exact hO2⟩ Qs
  ·obtain ⟨vo2, mo2, rfl, rfl, rfl, hO2⟩ := hI
   refine Ad (Qm rfl (Qx (oA rfl) rfl (Qm rfl (Ak ?_))))
   exact Al (m - (i + 1)) _ (by omega) ⟨i + 1, vo2, mo2, rfl, rfl, rfl, rfl, by omega, hO2⟩ Qs
 ·obtain rfl : i = m := by omega
  have ovo : vo.oneCell' = true := (hOw.rd (h := h) (ms := [mo]) (List.Mem.head _)).rd.one
  refine Aw (Aa (Aa (Af (Ab (Bg hOw fun h3 l3 hRw => ?_)))))
  have hR := hR.up l3
  have hS := hS.le l3
  refine Ac (AW (n := 11) (bs := [true, false, true, false, false, false, false, false, false, false, false]) [true, false, true] Cd (by kernel_rfl) (by kernel_rfl) rfl rfl (Qp rfl (oG rfl underlying30 Bz (Seg.any hS)) (Qq rfl ?_)))
  unfold CD
  simp only [List.cons_append, List.nil_append]
  refine Qo 1 rfl (Qc call17 rfl (Hn Z vd va h3 hO hR) (fun rb h4 ms4 l4 hF => ?_))
  obtain ⟨l4', bl, mb, lst, rfl, hOb, hlb, hSp, hBs⟩ := hF
  refine AH hOb fun h5 l5 hRb => ?_
  have l35 := Hp.le_trans l4 l5
  have hRw5 := hRw.up l35
  have hR5 := hR.up l35
  refine Qa (Qo 3 rfl (Qx (AG rfl call16 rfl (Sy hRb hRw5 (JU hRt V (GH hSp hBs) hB) _)) rfl (Qa (An 4 30 (by kernel_rfl) rfl (by assumption) rfl (As rfl rfl) (A2 [5, 6] (by kernel_rfl) rfl ?_)))))
  refine Az rfl ?_ ?_
  ·refine Qg (oG rfl underlying30 Bz (Seg.any (hS.le l35))) rfl (Qa (Qo 6 rfl (Qg (oG rfl underlying30 Bz (Seg.any (hS.le l35))) rfl (Qa (Qo 7 rfl (Ce rfl rfl rfl rfl (Qc call30 rfl (strands_ok Z vd va h5 hO hRt hR5) (fun rs h6 ms6 l6 hF => ?_))))))))
   obtain ⟨l6', N, S, e, L, ml, mB, rfl, hN, hOl, hBg, hp, hV2, hbd, _⟩ := hF
   refine A7 fun h7 l7 k7 => (A7 fun h8 l8 k8 => ?_)
   have l58 := Hp.le_trans l6 (Hp.le_trans l7 l8)
   have l38 := Hp.le_trans l35 l58
   have hR8 := hR5.up l58
   obtain ⟨ls, hle, hRs, hCk⟩ := strands_sv hRt hOl (Hp.le_trans k7 l8) hBg k8 hp hV2 hbd
   have hlen : ls.length ≤ 1000000 := by (have := congrArg List.length hle; have := hp.length_eq; simp at *; omega)
   refine Qa (Qo 8 rfl (Qg (AG rfl call31 rfl (IV hR8 hRs hlen hCk _)) rfl (Qa (Qo 9 rfl (Qm rfl (Qa (Qo 10 rfl (Qm rfl (Qa (Qe (Ab (Ao ?_))))))))))))
   exact Am rfl rfl ⟨rfl, rfl⟩
  refine Az rfl ?_ ?_
  ·refine Qg (oG rfl underlying30 Bz (Seg.any (hS.le l35))) rfl (Qa (A2 [5, 7] (by kernel_rfl) rfl ?_))
   refine Az rfl ?_ ?_
   ·refine Qg (oG rfl underlying30 Bz (Seg.any (hS.le l35))) rfl (Qa (Qo 7 rfl (Ce rfl rfl rfl rfl (Qc call30 rfl (strands_ok Z vd va h5 hO hRt hR5) (fun rs h6 ms6 l6 hF => ?_)))))
    obtain ⟨l6', N, S, e, L, ml, mB, rfl, hN, hOl, hBg, hp, hV2, hbd, _⟩ := hF
    refine A7 fun h7 l7 k7 => (A7 fun h8 l8 k8 => ?_)
    have l58 := Hp.le_trans l6 (Hp.le_trans l7 l8)
    have l38 := Hp.le_trans l35 l58
    have hR8 := hR5.up l58
    obtain ⟨ls, hle, hRs, hCk⟩ := strands_sv hRt hOl (Hp.le_trans k7 l8) hBg k8 hp hV2 hbd
    have hlen : ls.length ≤ 1000000 := by (have := congrArg List.length hle; have := hp.length_eq; simp at *; omega)
    refine Qa (Qo 8 rfl (Qg (AG rfl call31 rfl (IV hR8 hRs hlen hCk _)) rfl (Qa (Qo 9 rfl (Qm rfl (Qa (Qo 10 rfl (Qm rfl (Qa (Qe (Ab (Ao ?_))))))))))))
    exact Am rfl rfl ⟨rfl, rfl⟩
   refine Az rfl ?_ ?_
   ·refine Ce rfl rfl rfl rfl (Qc call30 rfl (strands_ok Z vd va h5 hO hRt hR5) (fun rs h6 ms6 l6 hF => ?_))
    obtain ⟨l6', N, S, e, L, ml, mB, rfl, hN, hOl, hBg, hp, hV2, hbd, _⟩ := hF
    refine A7 fun h7 l7 k7 => (A7 fun h8 l8 k8 => ?_)
    have l58 := Hp.le_trans l6 (Hp.le_trans l7 l8)
    have l38 := Hp.le_trans l35 l58
    have hR8 := hR5.up l58
    obtain ⟨ls, hle, hRs, hCk⟩ := strands_sv hRt hOl (Hp.le_trans k7 l8) hBg k8 hp hV2 hbd
    have hlen : ls.length ≤ 1000000 := by (have := congrArg List.length hle; have := hp.length_eq; simp at *; omega)
    refine Qa (Qo 5 rfl (Qg (oG rfl underlying30 Bz (Seg.any (hS.le l38))) rfl (Qa (Qo 8 rfl (Qg (AG rfl call31 rfl (IV hR8 hRs hlen hCk _)) rfl (Qa (Qo 9 rfl (Qm rfl (Qa (Qo 10 rfl (Qm rfl (Qa (Qe (Ab (Ao ?_)))))))))))))))
    exact Am rfl rfl ⟨rfl, rfl⟩
   exact A3
  exact A3
end Go.Proofs.YtdnelknieikbaaaGreat
namespace Go.Proofs.YtdnelknieikbaaaGreat
open Go.Proofs.Tryz
open Go.Eng Go.RowKit Go.Lin Go.Sort Go.Srt
theorem Mh {Z : Zz} {vd va : Value} {l : List Int} {vl : Value} (m : Nat) {ks : List (Int × Int)} {h : Hp} (E : Ex Z ks) (hR : RdZ h vd va Z) (hL : RdL cI 1 h [] vl l) (hl : l.length = 2 * m) (hm : m ≤ 100) (hw : ks.map (fun a => (⟨a.1, a.2, 1⟩ : Iv)) = GQ l m) (ms : List Hp) : Dq Tryz.prog 36 #[.agg #[.int .i64 Z.p, vd, va], vl] h ms (.bool true) := by
 obtain ⟨hRt, D, V, hB⟩ := E
 rw [hw] at hB
 exact Ds ((VX Z vd va l vl m D h hRt hR hL hl hm V hB).mono fun r h' ms' e => e.1) ms
theorem Om (h : Hp) : FnT Tryz.prog 14 #[] h [] (fun r h' ms' => r = .bool true) := by
 refine Av func14 ntmps14 rfl rfl (fun w0 hw0 => ?_)
 simp only [A4]
 refine Ax (Qm rfl (B3 ?_))
 refine AZ [(0, _), (1, _)] [.int .i64 0, .int .i64 0] [_, _] rfl underlying24 A8 rfl (by omega) (by kernel_rfl) (by repeat (first | exact trivial | refine ⟨⟨by rfl, rfl, rfl⟩, ?_⟩)) rfl rfl rfl rfl (fun g1 => ?_)
 refine AH (OwnL.blk (g := g1) (el := 3) (F := cI) (l := [1, 1]) 2 Br rfl (by omega)) fun h1 l1 hL1 => (Qc call37 rfl (GD [1, 1] _ h1 hL1 (by decide) (by decide)) (fun r2 h2 ms2 l2 hF => ?_))
 obtain ⟨l2', rfl, Z, vd, va, rfl, hRZ, e1, e2, e3⟩ := hF
 refine AZ [(0, _), (1, _)] [.int .i64 0, .int .i64 0] [_, _] rfl underlying24 A8 rfl (by omega) (by kernel_rfl) (by repeat (first | exact trivial | refine ⟨⟨by rfl, rfl, rfl⟩, ?_⟩)) rfl rfl rfl rfl (fun g3 => ?_)
 refine AH (OwnL.blk (g := g3) (el := 3) (F := cI) (l := [0, 2]) (2 * 1) Br rfl (by omega)) fun h3 l3 hL3 => (Qx (AG rfl call36 rfl (Mh 1 (WV e1 e2 e3) (hRZ.up l3) hL3 rfl (by omega) rfl _)) rfl (Qm rfl (Ce rfl rfl rfl rfl ?_)))
 refine AZ [(0, _), (1, _)] [.int .i64 0, .int .i64 0] [_, _] rfl underlying24 A8 rfl (by omega) (by kernel_rfl) (by repeat (first | exact trivial | refine ⟨⟨by rfl, rfl, rfl⟩, ?_⟩)) rfl rfl rfl rfl (fun g6 => ?_)
 refine AH (OwnL.blk (g := g6) (el := 3) (F := cI) (l := [1, 9]) 2 Br rfl (by omega)) fun h1 l1 hL1 => (Ce rfl rfl rfl rfl (Qc call37 rfl (GD [1, 9] _ h1 hL1 (by decide) (by decide)) (fun r2 h2 ms2 l2 hF => ?_)))
 obtain ⟨l2', rfl, Z, vd, va, rfl, hRZ, e1, e2, e3⟩ := hF
 refine Ce rfl rfl rfl rfl ?_
 refine AZ [(0, _), (1, _), (2, _), (3, _)] [.int .i64 0, .int .i64 0, .int .i64 0, .int .i64 0] [_, _, _, _] rfl underlying24 A8 rfl (by omega) (by kernel_rfl) (by repeat (first | exact trivial | refine ⟨⟨by rfl, rfl, rfl⟩, ?_⟩)) rfl rfl rfl rfl (fun g8 => ?_)
 refine AH (OwnL.blk (g := g8) (el := 3) (F := cI) (l := [0, 1, 2, 2]) (2 * 2) Br rfl (by omega)) fun h3 l3 hL3 => (Qg (AG rfl call36 rfl (Mh 2 (WU e1 e2 e3) (hRZ.up l3) hL3 rfl (by omega) rfl _)) rfl (Qm rfl (Qm rfl (Ce rfl rfl rfl rfl ?_))))
 refine AZ [(0, _), (1, _)] [.int .i64 0, .int .i64 0] [_, _] rfl underlying24 A8 rfl (by omega) (by kernel_rfl) (by repeat (first | exact trivial | refine ⟨⟨by rfl, rfl, rfl⟩, ?_⟩)) rfl rfl rfl rfl (fun g12 => ?_)
 refine AH (OwnL.blk (g := g12) (el := 3) (F := cI) (l := [1, -2]) 2 Br rfl (by omega)) fun h1 l1 hL1 => (Ce rfl rfl rfl rfl (Qc call37 rfl (GD [1, -2] _ h1 hL1 (by decide) (by decide)) (fun r2 h2 ms2 l2 hF => ?_)))
 obtain ⟨l2', rfl, Z, vd, va, rfl, hRZ, e1, e2, e3⟩ := hF
 refine Ce rfl rfl rfl rfl ?_
 refine AZ [(0, _), (1, _)] [.int .i64 0, .int .i64 0] [_, _] rfl underlying24 A8 rfl (by omega) (by kernel_rfl) (by repeat (first | exact trivial | refine ⟨⟨by rfl, rfl, rfl⟩, ?_⟩)) rfl rfl rfl rfl (fun g14 => ?_)
 refine AH (OwnL.blk (g := g14) (el := 3) (F := cI) (l := [0, 2]) (2 * 1) Br rfl (by omega)) fun h3 l3 hL3 => (Qg (AG rfl call36 rfl (Mh 1 (WP e1 e2 e3) (hRZ.up l3) hL3 rfl (by omega) rfl _)) rfl (Qm rfl (Qm rfl (Ce rfl rfl rfl rfl ?_))))
 refine AZ [(0, _), (1, _)] [.int .i64 0, .int .i64 0] [_, _] rfl underlying24 A8 rfl (by omega) (by kernel_rfl) (by repeat (first | exact trivial | refine ⟨⟨by rfl, rfl, rfl⟩, ?_⟩)) rfl rfl rfl rfl (fun g18 => ?_)
 refine AH (OwnL.blk (g := g18) (el := 3) (F := cI) (l := [9, -1]) 2 Br rfl (by omega)) fun h1 l1 hL1 => (Ce rfl rfl rfl rfl (Qc call37 rfl (GD [9, -1] _ h1 hL1 (by decide) (by decide)) (fun r2 h2 ms2 l2 hF => ?_)))
 obtain ⟨l2', rfl, Z, vd, va, rfl, hRZ, e1, e2, e3⟩ := hF
 refine Ce rfl rfl rfl rfl ?_
 refine AZ [(0, _), (1, _), (2, _), (3, _)] [.int .i64 0, .int .i64 0, .int .i64 0, .int .i64 0] [_, _, _, _] rfl underlying24 A8 rfl (by omega) (by kernel_rfl) (by repeat (first | exact trivial | refine ⟨⟨by rfl, rfl, rfl⟩, ?_⟩)) rfl rfl rfl rfl (fun g20 => ?_)
 refine AH (OwnL.blk (g := g20) (el := 3) (F := cI) (l := [0, 0, 1, 2]) (2 * 2) Br rfl (by omega)) fun h3 l3 hL3 => (Qg (AG rfl call36 rfl (Mh 2 (WT e1 e2 e3) (hRZ.up l3) hL3 rfl (by omega) rfl _)) rfl (Qm rfl (Qm rfl (Ce rfl rfl rfl rfl ?_))))
 refine AZ [(0, _), (1, _)] [.int .i64 0, .int .i64 0] [_, _] rfl underlying24 A8 rfl (by omega) (by kernel_rfl) (by repeat (first | exact trivial | refine ⟨⟨by rfl, rfl, rfl⟩, ?_⟩)) rfl rfl rfl rfl (fun g24 => ?_)
 refine AH (OwnL.blk (g := g24) (el := 3) (F := cI) (l := [-9, 3]) 2 Br rfl (by omega)) fun h1 l1 hL1 => (Ce rfl rfl rfl rfl (Qc call37 rfl (GD [-9, 3] _ h1 hL1 (by decide) (by decide)) (fun r2 h2 ms2 l2 hF => ?_)))
 obtain ⟨l2', rfl, Z, vd, va, rfl, hRZ, e1, e2, e3⟩ := hF
 refine Ce rfl rfl rfl rfl ?_
 refine AZ [(0, _), (1, _), (2, _), (3, _)] [.int .i64 0, .int .i64 0, .int .i64 0, .int .i64 0] [_, _, _, _] rfl underlying24 A8 rfl (by omega) (by kernel_rfl) (by repeat (first | exact trivial | refine ⟨⟨by rfl, rfl, rfl⟩, ?_⟩)) rfl rfl rfl rfl (fun g26 => ?_)
 refine AH (OwnL.blk (g := g26) (el := 3) (F := cI) (l := [0, 0, 1, 2]) (2 * 2) Br rfl (by omega)) fun h3 l3 hL3 => (Qg (AG rfl call36 rfl (Mh 2 (WQ e1 e2 e3) (hRZ.up l3) hL3 rfl (by omega) rfl _)) rfl (Qm rfl (Qm rfl (Ce rfl rfl rfl rfl (Qc call38 rfl (NV 0 _ (by decide)) (fun r2 h2 ms2 l2 hF => ?_))))))
 obtain ⟨l2', rfl, Z, vd, va, rfl, hRZ, e1, e2, e3⟩ := hF
 refine Ce rfl rfl rfl rfl ?_
 refine AZ [(0, _), (1, _), (2, _), (3, _)] [.int .i64 0, .int .i64 0, .int .i64 0, .int .i64 0] [_, _, _, _] rfl underlying24 A8 rfl (by omega) (by kernel_rfl) (by repeat (first | exact trivial | refine ⟨⟨by rfl, rfl, rfl⟩, ?_⟩)) rfl rfl rfl rfl (fun g31 => ?_)
 refine AH (OwnL.blk (g := g31) (el := 3) (F := cI) (l := [0, 1, 1, 2]) (2 * 2) Br rfl (by omega)) fun h3 l3 hL3 => (Qg (AG rfl call36 rfl (Mh 2 (WO e1 e2 e3) (hRZ.up l3) hL3 rfl (by omega) rfl _)) rfl (Qm rfl (Qm rfl (Ce rfl rfl rfl rfl (Qc call38 rfl (NV 2 _ (by decide)) (fun r2 h2 ms2 l2 hF => ?_))))))
 obtain ⟨l2', rfl, Z, vd, va, rfl, hRZ, e1, e2, e3⟩ := hF
 refine Ce rfl rfl rfl rfl ?_
 refine AZ [(0, _), (1, _), (2, _), (3, _)] [.int .i64 0, .int .i64 0, .int .i64 0, .int .i64 0] [_, _, _, _] rfl underlying24 A8 rfl (by omega) (by kernel_rfl) (by repeat (first | exact trivial | refine ⟨⟨by rfl, rfl, rfl⟩, ?_⟩)) rfl rfl rfl rfl (fun g36 => ?_)
 refine AH (OwnL.blk (g := g36) (el := 3) (F := cI) (l := [0, 2, 1, 1]) (2 * 2) Br rfl (by omega)) fun h3 l3 hL3 => (Qg (AG rfl call36 rfl (Mh 2 (WX e1 e2 e3) (hRZ.up l3) hL3 rfl (by omega) rfl _)) rfl (Qm rfl (Qm rfl (Aq (Ao ?_)))))
 exact Am rfl rfl (rfl)
theorem GW (h : Hp) (ms : List Hp) : Dq Tryz.prog 14 #[] h ms (.bool true) := Ds (Om h) ms
end Go.Proofs.YtdnelknieikbaaaGreat
namespace Go.Proofs.YtdnelknieikbaaaGreat
open Go.Eng Go.RowKit Go.Lin Go.Sort Go.Srt
structure Pl where
 p : Nat
 ds : List Nat
 back : Nat
 seed : List Int
 thin : Bool
def cB (x : Nat) : List Value := [.int .u8 x]
theorem R1 : ∀ x, (cB x).length = 1 := fun _ => rfl
structure Pl.Ok (x : Pl) : Prop where
 p : x.p < 256
 ds : ∀ d ∈ x.ds, d < 256
 back : x.back < 65536
 seed : ∀ s ∈ x.seed, Dh s
 len : x.seed.length ≤ 9223372036854775807
structure RdP (h : Hp) (vd vs : Value) (x : Pl) : Prop where
 d : RdL cB 1 h [] vd x.ds
 s : RdL cI 1 h [] vs x.seed
theorem RdP.up {h h' : Hp} {vd vs : Value} {x : Pl} (R : RdP h vd vs x) (hl : h.le h') : RdP h' vd vs x := ⟨R.d.up hl, R.s.up hl⟩
def Pl.P (x : Pl) : Int := ([2, 3, 5, 7] : List Int).getD (x.p % 4) 0
def Pl.pre (x : Pl) : List Int := (x.ds.take 8).map fun d => ((d % 5 : Nat) : Int)
def Pl.dims (x : Pl) : List Int := if x.pre = [] then [2] else x.pre
def Pl.d (x : Pl) (k : Nat) : Nat := (x.dims.getD k 0).toNat
def Pl.bk (x : Pl) (k : Nat) : Bool := decide (x.back / 2 ^ k % 2 = 1)
def Pl.rows (x : Pl) (k : Nat) : Nat := if x.bk k then x.d k else x.d (k + 1)
def Pl.cols (x : Pl) (k : Nat) : Nat := if x.bk k then x.d (k + 1) else x.d k
def Pl.at_ (x : Pl) : Nat → Nat
 | 0 => 0
 | k + 1 => x.at_ k + x.rows k * x.cols k
def Pl.raw (x : Pl) (a : Nat) : Int := IntKind.i64.wrap (x.seed.getD (a % x.seed.length) 0 + 3 * ((a / x.seed.length : Nat) : Int))
def Pl.ent (x : Pl) (a : Nat) : Int := if x.seed = [] then 0 else if x.thin = false ∨ x.raw a % 3 = 0 then IntKind.i64.wrap ((x.raw a).tdiv 3 + x.raw a) % x.P else 0
def Pl.mat (x : Pl) (k : Nat) : FM := ⟨x.P, x.rows k, x.cols k, (List.range (x.rows k * x.cols k)).map fun j => x.ent (x.at_ k + j)⟩
def Pl.core (x : Pl) : List (Bool × FM) := (List.range (x.dims.length - 1)).map fun k => (x.bk k, x.mat k)
section
variable (x : Pl)
theorem Pl.P_is : IsP x.P := by
 unfold Pl.P
 have h : x.p % 4 < 4 := Nat.mod_lt _ (by decide)
 rcases (by omega : x.p % 4 = 0 ∨ x.p % 4 = 1 ∨ x.p % 4 = 2 ∨ x.p % 4 = 3) with e | e | e | e <;> rw [e]
 ·exact (by decide : IsP 2)
 ·exact (by decide : IsP 3)
 ·exact (by decide : IsP 5)
 ·exact (by decide : IsP 7)
theorem Pl.P_bd : 2 ≤ x.P ∧ x.P ≤ 7 := by
 unfold Pl.P
 have h : x.p % 4 < 4 := Nat.mod_lt _ (by decide)
 rcases (by omega : x.p % 4 = 0 ∨ x.p % 4 = 1 ∨ x.p % 4 = 2 ∨ x.p % 4 = 3) with e | e | e | e <;> rw [e] <;> decide
theorem Pl.dims_bd : ∀ y ∈ x.dims, 0 ≤ y ∧ y ≤ 4 := fun y hy => by
 unfold Pl.dims at hy
 split at hy
 ·rw [List.mem_singleton.1 hy]; decide
 ·unfold Pl.pre at hy
  obtain ⟨d, _, rfl⟩ := List.mem_map.1 hy
  omega
theorem Pl.pre_len : x.pre.length ≤ 8 := by unfold Pl.pre; rw [List.length_map, List.length_take]; omega
theorem Pl.dims_len : 1 ≤ x.dims.length ∧ x.dims.length ≤ 8 := by
 unfold Pl.dims
 split
 ·simp
 ·rename_i h
  have := x.pre_len
  have := List.length_pos_iff.2 h
  omega
theorem Pl.d_eq (k : Nat) : ((x.d k : Nat) : Int) = x.dims.getD k 0 := by
 unfold Pl.d
 rcases Nat.lt_or_ge k x.dims.length with h | h
 ·have e : x.dims.getD k 0 = x.dims[k] := by simp [List.getD, h]
  have := x.dims_bd _ (List.getElem_mem h)
  rw [e]; omega
 ·have e : x.dims.getD k 0 = 0 := by simp [List.getD, h]
  rw [e]; rfl
theorem Pl.d_le (k : Nat) : x.d k ≤ 4 := by
 unfold Pl.d
 rcases Nat.lt_or_ge k x.dims.length with h | h
 ·have e : x.dims.getD k 0 = x.dims[k] := by simp [List.getD, h]
  have := x.dims_bd _ (List.getElem_mem h)
  rw [e]; omega
 ·have e : x.dims.getD k 0 = 0 := by simp [List.getD, h]
  rw [e]; decide
theorem Pl.rc_le (k : Nat) : x.rows k ≤ 4 ∧ x.cols k ≤ 4 := by
 have h1 := x.d_le k
 have h2 := x.d_le (k + 1)
 unfold Pl.rows Pl.cols
 split <;> exact ⟨by assumption, by assumption⟩
theorem Pl.sz_le (k : Nat) : x.rows k * x.cols k ≤ 16 := by
 have := x.rc_le k
 exact Nat.mul_le_mul this.1 this.2
theorem Pl.at_le (k : Nat) : x.at_ k ≤ 16 * k := by
 induction k with
 | zero => exact Nat.le_refl _
 | succ k ih => have := x.sz_le k; unfold Pl.at_; omega
theorem Pl.ent_bd (a : Nat) : 0 ≤ x.ent a ∧ x.ent a < x.P := by
 have hp := x.P_bd
 unfold Pl.ent
 split
 ·omega
 ·split
  ·exact ⟨Int.emod_nonneg _ (by omega), Int.emod_lt_of_pos _ (by omega)⟩
  ·omega
theorem Pl.core_len : x.core.length = x.dims.length - 1 := by simp [Pl.core]
theorem Pl.rt {Z : Zz} (h1 : Z.p = x.P) (h2 : Z.dims = x.dims) (h3 : Z.ars.map Ar.core = x.core) : Z.Rt := by
 rw [N9 h3, h1, h2]
 have hd := x.dims_len
 have hb := x.dims_bd
 refine ⟨hd.1, by show x.dims.length ≤ 100; omega, ?_, x.P_is, fun y hy => ?_, fun k hk => ?_⟩
 ·show (((x.core.map _).length : Nat) : Int) = (x.dims.length : Int) - 1
  rw [List.length_map, x.core_len]; omega
 ·have := hb y hy; omega
 ·have hk' : k < x.dims.length - 1 := by have : k < (x.core.map _).length := hk; rwa [List.length_map, x.core_len] at this
  have e : (Lu x.P x.dims x.core).ars[k] = ⟨x.bk k, x.mat k, .slice none 0 0⟩ := by
   have e2 : (Lu x.P x.dims x.core).ars[k]? = some ⟨x.bk k, x.mat k, .slice none 0 0⟩ := by
    show (x.core.map _)[k]? = _
    rw [List.getElem?_map, Pl.core, List.getElem?_map, List.getElem?_range hk']; rfl
   rw [List.getElem?_eq_getElem hk] at e2
   exact Option.some.inj e2
  rw [e]
  have h4 := x.rc_le k
  refine ⟨⟨x.P_is, ⟨?_, ?_, ?_, ?_⟩, ?_, fun y hy => ?_⟩, rfl, ?_, ?_⟩
  ·show (0 : Int) ≤ (x.rows k : Int); omega
  ·show (0 : Int) ≤ (x.cols k : Int); omega
  ·show (x.rows k : Int) ≤ 400; omega
  ·show (x.cols k : Int) ≤ 400; omega
  ·show ((((List.range (x.rows k * x.cols k)).map _).length : Nat) : Int) = (x.rows k : Int) * (x.cols k : Int)
   rw [List.length_map, List.length_range]; exact Int.natCast_mul _ _
  ·obtain ⟨j, _, rfl⟩ := List.mem_map.1 hy
   exact x.ent_bd _
  ·show (x.cols k : Int) = x.dims.getD (if x.bk k then k + 1 else k) 0
   rw [← x.d_eq]
   unfold Pl.cols
   split <;> rfl
  ·show (x.rows k : Int) = x.dims.getD (if x.bk k then k else k + 1) 0
   rw [← x.d_eq]
   unfold Pl.rows
   split <;> rfl
end
end Go.Proofs.YtdnelknieikbaaaGreat
set_option maxHeartbeats 800000
namespace Go.Proofs.YtdnelknieikbaaaGreat
open Go.Proofs.Tryz
open Go.Eng Go.RowKit Go.Lin Go.Sort Go.Srt
instance : Inhabited Ar := ⟨⟨false, ⟨0, 0, 0, []⟩, .slice none 0 0⟩⟩
def BagE (A : List Ar) (m : Hp) : Prop := Bag A.length (fun k y => OwnL cI 1 3 y (A.getD k default).v (A.getD k default).M.e) m
theorem BagE.nil : BagE [] Hp.emp := Bag.zero _
theorem BagE.snoc {A : List Ar} {m y : Hp} {a : Ar} (B : BagE A m) (O : OwnL cI 1 3 y a.v a.M.e) (hd : m.disj y) : BagE (A ++ [a]) (m.join y) := by
 unfold BagE at *
 rw [List.length_append, List.length_singleton]
 refine Bag.snoc (B.mono fun k hk z O' => ?_) ?_ hd
 ·have e : (A ++ [a]).getD k default = A.getD k default := by simp [List.getD, List.getElem?_append_left hk]
  rw [e]; exact O'
 ·have e : (A ++ [a]).getD A.length default = a := by simp [List.getD]
  rw [e]; exact O
theorem T0 {x : Pl} (hx : x.Ok) {i : Nat} (hi : i < x.ds.length) : x.ds[i] < 256 := hx.ds _ (List.getElem_mem hi)
def Pl.vals (x : Pl) (k j : Nat) : List Int := (List.range (x.rows k * x.cols k)).map fun t => if t < j then x.ent (x.at_ k + t) else 0
theorem QU (x : Pl) (k j : Nat) : (x.vals k j).length = x.rows k * x.cols k := by simp [Pl.vals]
theorem I3 (x : Pl) (k : Nat) {j : Nat} (hj : j < x.rows k * x.cols k) : (x.vals k j).set j (x.ent (x.at_ k + j)) = x.vals k (j + 1) := by
 refine List.ext_getElem (by simp [Pl.vals]) fun t h1 h2 => ?_
 rw [List.getElem_set]
 by_cases he : j = t
 ·subst he; simp [Pl.vals]
 ·rw [if_neg he]
  simp only [Pl.vals, List.getElem_map, List.getElem_range]
  by_cases ht : t < j
  ·rw [if_pos ht, if_pos (by omega)]
  ·rw [if_neg ht, if_neg (by omega)]
theorem Pj (x : Pl) (k : Nat) {j : Nat} (hj : j < x.rows k * x.cols k) (h0 : x.ent (x.at_ k + j) = 0) : x.vals k j = x.vals k (j + 1) := by
 rw [← I3 x k hj, h0]
 refine List.ext_getElem (by simp) fun t h1 h2 => ?_
 rw [List.getElem_set]
 by_cases he : j = t
 ·subst he; simp [Pl.vals]
 ·rw [if_neg he]
theorem Q4 (x : Pl) (k : Nat) : x.vals k (x.rows k * x.cols k) = (x.mat k).e := by
 unfold Pl.vals Pl.mat
 exact List.map_congr_left fun t ht => if_pos (List.mem_range.1 ht)
theorem O5 (x : Pl) (k j : Nat) (h : x.seed = []) : x.vals k j = (x.mat k).e := by
 unfold Pl.vals Pl.mat
 refine List.map_congr_left fun t ht => ?_
 have : x.ent (x.at_ k + t) = 0 := by unfold Pl.ent; rw [if_pos h]
 rw [this, ite_self]
theorem OB (x : Pl) (k : Nat) : (EM x.P (x.rows k) (x.cols k) fun _ _ => 0).e = x.vals k 0 := by
 unfold Pl.vals EM Lin.mat
 exact List.map_congr_left fun t _ => (if_neg (by omega)).symm
theorem Vh {P : Program} {o : Oper} {s : Ay} {h : Hp} {ms : List Hp} {v v' : Value} (H : OX P o s h ms v) (e : v = v') : OX P o s h ms v' := e ▸ H
theorem Kf (x : Pl) (vd vs : Value) (h : Hp) (hx : x.Ok) (hR : RdP h vd vs x) : FnT Tryz.prog 15 #[.agg #[.int .u8 x.p, vd, .int .u16 x.back, vs, .bool x.thin]] h [] (fun r h' ms' => h.le h' ∧ ∃ (vdo vao : Value) (md ma mB : Hp) (A : List Ar), ms' = [ma, md, mB] ∧ r = .agg #[.int .i64 x.P, vdo, vao] ∧ OwnL cI 1 3 md vdo x.dims ∧ OwnL cA 5 45 ma vao A ∧ A.map Ar.core = x.core ∧ BagE A mB) := by
 have o1 := hR.d.rd.one
 have o2 := hR.s.rd.one
 have hxp := hx.p
 have hdl := hR.d.len_le
 have hsl := hR.s.len_le
 refine Av func15 ntmps15 rfl rfl (fun w0 hw0 => ?_)
 simp only [A4]
 refine Ax ?_
 refine AS [_, _, _, _, _] rfl rfl (by rfl) rfl rfl rfl (fun g1 => ?_)
 refine BZ [.int .i64 0, .slice none 0 0, .slice none 0 0] rfl Bz rfl rfl (fun g2 => Aq (By 1 rfl fun h1 l1 hS1 => ?_))
 have hR := hR.up l1
 have hA := Seg.all hS1
 have hA0 := hA 0 _ rfl
 have hpl : x.p % 4 < 4 := Nat.mod_lt _ (by decide)
 refine Ax ?_
 refine AZ [(0, _), (1, _), (2, _), (3, _)] [.int .i64 0, .int .i64 0, .int .i64 0, .int .i64 0] [_, _, _, _] rfl underlying24 A8 rfl (by omega) (by kernel_rfl) (by repeat (first | exact trivial | refine ⟨⟨by rfl, rfl, rfl⟩, ?_⟩)) rfl rfl rfl rfl (fun g13 => ?_)
 refine AH (OwnL.blk (g := g13) (el := 3) (F := cI) (l := [2, 3, 5, 7]) 4 Br rfl (by omega)) fun h2 l2 hR13 => ?_
 have hS1 := hS1.le l2
 have hR := hR.up l2
 have hA := Seg.all hS1
 have hA0 := hA 0 _ rfl
 have hcp : ∀ ms, Cell h2 ms ((Bl (.slice (some ⟨g13, 0, none⟩) 4 4)).add (x.p % 4 * 1)) (.int .i64 x.P) := fun ms => by
  have := (hR13.any (ms := ms)).cell0 (j := x.p % 4) hpl rfl
  have e : ([2, 3, 5, 7] : List Int)[x.p % 4] = x.P := by unfold Pl.P; simp [List.getD, hpl]
  rw [e] at this
  exact this
 refine Qf Vr rfl (Ql rfl underlying5 (hA0 _) (Qx (B0 rfl rfl rfl (by omega) (by omega)) rfl (Qx (Dz (x.p % 4) rfl underlying24 A8 rfl rfl (by omega) (by omega)) rfl (Ql rfl underlying3 (hcp _) ?_))))
 refine Qx (AT Sr [.int .i64 0, .slice none 0 0, .slice none 0 0] [(0, _)] [_, _, _] rfl Bz rfl rfl (by repeat (first | exact trivial | refine ⟨⟨rfl, rfl, rfl⟩, ?_⟩)) rfl) rfl ?_
 refine BZ [.int .i64 0, .slice none 0 0, .slice none 0 0] rfl Bz rfl rfl (fun g3 => ?_)
 refine Sa 0 [_, _, _] Bz rfl (by simp [Value.oneCell']) ?_
 refine Aq ?_
 refine Bv (fun sl hh ms' => ∃ (vo : Value) (md : Hp), sl = [(1, .pointer (some ⟨g1, 0, none⟩)), (2, .pointer (some ⟨g2, 0, none⟩)), (3, .pointer (some ⟨g3, 0, none⟩))] ∧ h2 = hh ∧ ms' = [AX g3 30 [.int .i64 x.P, vo, .slice none 0 0], md, AX g2 30 [.int .i64 0, .slice none 0 0, .slice none 0 0]] ∧ OwnL cI 1 3 md vo x.pre) ?_ (fun s h ms hI => ?_)
 ·refine Ac (Ad (Qm rfl (Aq (Ag (BX (Cu 1 rfl ?_))))))
  refine AD (fun q sl hh ms' => ∃ (i : Nat) (vo : Value) (md : Hp), q = x.ds.length - i ∧ sl = [(1, .pointer (some ⟨g1, 0, none⟩)), (2, .pointer (some ⟨g2, 0, none⟩)), (3, .pointer (some ⟨g3, 0, none⟩)), (4, .int .i64 i)] ∧ h2 = hh ∧ ms' = [AX g3 30 [.int .i64 x.P, vo, .slice none 0 0], md, AX g2 30 [.int .i64 0, .slice none 0 0, .slice none 0 0]] ∧ i ≤ x.ds.length ∧ i ≤ 8 ∧ OwnL cI 1 3 md vo ((x.ds.take i).map fun d => ((d % 5 : Nat) : Int)))
   (x.ds.length - 0) _ ⟨0, _, _, rfl, rfl, rfl, rfl, by omega, by omega, OwnL.nil Br⟩ Qs ?_
  rintro q sl hh ms' ⟨i, vo, md, rfl, rfl, rfl, rfl, hi, hi8, hO⟩
  have olen : ((x.ds.take i).map fun d => ((d % 5 : Nat) : Int)).length ≤ 8 := by rw [List.length_map, List.length_take]; omega
  refine Ac (Ax (Qm rfl (Qf QE rfl (Ql rfl underlying22 (hA _ _ rfl _) (Qx (AJ hR.d.rd.any rfl underlying22 rfl) rfl (Qm rfl (Qm rfl ?_)))))))
  refine AR (t := 25) rfl (fun hs1 => ?_) (fun hs1 => ?_)
  ·have hil : i < x.ds.length := by omega
   refine Qg (As rfl rfl) rfl (Qg (Dy rfl rfl rfl) rfl (Qm rfl (Aq ?_)))
   refine AF rfl (fun hs2 => ?_) (fun hs2 => ?_)
   ·have hdb := T0 hx hil
    refine Ai (Ab (Ac (Ag (BB 10 Cd (by kernel_rfl) rfl (Wf Bn rfl (Wl rfl underlying24 (Cell.blk 0 rfl rfl) (Wf QE rfl (Wl rfl underlying22 (hA _ _ rfl _) (Wm rfl (AV (Ah (i) hR.d.rd.any rfl underlying22 WY rfl rfl (by omega) (by omega)) rfl rfl (Wl rfl underlying5 (hR.d.any.cell0 hil rfl) (AV (B0 rfl rfl rfl (by omega) (by omega)) rfl rfl (AV (TI rfl underlying5 underlying3 rfl (C0 (by omega))) rfl rfl ?_)))))))))))))
    refine U9 (DX [_] rfl underlying24 A8 rfl (by rfl) rfl rfl (by omega)) rfl rfl ?_
    refine Ko (fun g40 => ?_)
    refine Bm 2 hO (RdL.one Br (x := ((x.ds[i] % 5 : Nat) : Int)) (List.Mem.head _) rfl) rfl underlying24 A8 rfl (by omega) rfl rfl rfl Cv (by simp only [List.length_singleton]; omega) (by simp only [List.length_singleton]; omega) rfl rfl rfl (fun vo2 md2 hO2 => ?_)
    have ov2 : vo2.oneCell' = true := (hO2.rd (h := h) (ms := [md2]) (List.Mem.head _)).rd.one
    refine Qf Bn rfl ?_
    refine AK 1 _ rfl BN rfl rfl (by assumption) rfl rfl (by (simp; done)) rfl rfl ?_
    refine Ak (Aj (Ab (Ad (Qm rfl (Qx (oA rfl) rfl (Qm rfl (Ak (A5 ?_))))))))
    refine Al (x.ds.length - (i + 1)) _ (by omega) ⟨i + 1, vo2, md2, rfl, rfl, rfl, rfl, by omega, by omega, by rw [List.take_succ_eq_append_getElem hil, List.map_append]; exact hO2⟩ Qs
   ·obtain rfl : i = 8 := by omega
    refine Aw (Aa (Aa (Af ?_)))
    exact AA _ ⟨vo, md, rfl, rfl, rfl, hO⟩ Qs
  ·obtain rfl : i = x.ds.length := by omega
   refine Qk rfl (Qk rfl (Qm rfl (Aq (Bb rfl (Aw (Aa (Aa (Af ?_))))))))
   exact AA _ ⟨vo, md, rfl, rfl, rfl, by unfold Pl.pre; rw [List.take_of_length_le (by omega)] at hO ⊢; exact hO⟩ Qs
 ·obtain ⟨vo, md, rfl, rfl, rfl, hO⟩ := hI
  have hpn := x.pre_len
  refine Bv (fun sl hh ms' => ∃ (vo : Value) (md : Hp), sl = [(1, .pointer (some ⟨g1, 0, none⟩)), (2, .pointer (some ⟨g2, 0, none⟩)), (3, .pointer (some ⟨g3, 0, none⟩))] ∧ h2 = hh ∧ ms' = [AX g3 30 [.int .i64 x.P, vo, .slice none 0 0], md, AX g2 30 [.int .i64 0, .slice none 0 0, .slice none 0 0]] ∧ OwnL cI 1 3 md vo x.dims) ?_ (fun s h ms hI => ?_)
  ·refine Ac (Ad (Qf Bn rfl (Ql rfl underlying24 (Cell.blk 0 (k := 1) rfl rfl) (Qx (CH (hO.rd (h := h2) (ms := [md]) (List.Mem.head _)).rd rfl underlying24 rfl) rfl (Qm rfl (Aq ?_))))))
   refine AF rfl (fun hz => ?_) (fun hz => ?_)
   ·refine Ad ?_
    refine AB [_] rfl underlying24 A8 rfl (by rfl) rfl rfl (by omega) rfl rfl rfl (fun g47 => ?_)
    refine Qf Bn rfl ?_
    refine AK 1 _ rfl BN rfl rfl (by rfl) rfl rfl (by (simp; done)) rfl rfl ?_
    refine Ak (AP 2 rfl (A9 ?_))
    exact AA _ ⟨_, _, rfl, rfl, rfl, by unfold Pl.dims; rw [if_pos (List.length_eq_zero_iff.1 (by omega))]; exact OwnL.blk (F := cI) (l := [2]) 1 Br rfl (by omega)⟩ Qs
   ·refine Ai ?_
    exact AA _ ⟨vo, md, rfl, rfl, rfl, by unfold Pl.dims; rw [if_neg (fun e => hz (by rw [e]; rfl))]; exact hO⟩ Qs
  ·obtain ⟨vo, md, rfl, rfl, rfl, hO⟩ := hI
   have hdn := x.dims_len
   refine Ax (Qm rfl (Aq (Ac (Ax (Qm rfl (Aq (Ag (BX (BX ?_)))))))))
   refine AD (fun q sl hh ms' => ∃ (k a : Nat) (va : Value) (ma mB : Hp) (A : List Ar), q = x.dims.length - k ∧ sl = [(1, .pointer (some ⟨g1, 0, none⟩)), (2, .pointer (some ⟨g2, 0, none⟩)), (3, .pointer (some ⟨g3, 0, none⟩)), (5, .int .i64 a), (6, .int .i64 k)] ∧ h2.le hh ∧ ms' = [ma, mB, AX g3 30 [.int .i64 x.P, vo, va], md, AX g2 30 [.int .i64 0, .slice none 0 0, .slice none 0 0]] ∧ k + 1 ≤ x.dims.length ∧ OwnL cA 5 45 ma va A ∧ A.map Ar.core = x.core.take k ∧ BagE A mB ∧ (x.seed = [] → a = 0) ∧ (x.seed ≠ [] → a = x.at_ k))
    (x.dims.length - 0) _ ⟨0, 0, _, _, _, [], rfl, rfl, Hp.le_refl _, rfl, by omega, OwnL.nil Fm, by simp, BagE.nil, fun _ => rfl, fun _ => rfl⟩ Qs ?_
   rintro q sl hh ms' ⟨k, a, va, ma, mB, A, rfl, rfl, lh, rfl, hk, hOa, hAc, hB, ha0, ha1⟩
   have hR := hR.up lh
   have hA := Seg.all (hS1.le lh)
   have hA0 := hA 0 _ rfl
   have hal := x.at_le k
   have hale : a ≤ 128 := by
    by_cases hse : x.seed = []
    ·rw [ha0 hse]; omega
    ·rw [ha1 hse]; omega
   refine Ac (Ax (Qm rfl (Qx (oA rfl) rfl (Qf Bn rfl (Ql rfl underlying24 (Cell.blk 2 (k := 1) rfl rfl) (Qx (CH (hO.rd (h := h2) (ms := [md]) (List.Mem.head _)).rd rfl underlying24 rfl) rfl (Qm rfl (Aq ?_))))))))
   refine AF rfl (fun hlt => ?_) (fun hlt => ?_)
   ·have hk1 : k + 1 < x.dims.length := by omega
    have hbk : x.back / 2 ^ k < 65536 := Nat.lt_of_le_of_lt (Nat.div_le_self _ _) hx.back
    have hd0 : ∀ ms, md ∈ ms → Cell hh ms ((Bl vo).add (k * 1)) (.int .i64 (x.d k)) := fun ms hm => by
     have h1 : k < x.dims.length := by omega
     have := (hO.rd (h := hh) hm).cell0 h1 rfl
     have e : x.dims[k] = x.d k := by rw [x.d_eq]; simp [List.getD, h1]
     rw [e] at this; exact this
    have hd1 : ∀ ms, md ∈ ms → Cell hh ms ((Bl vo).add ((k + 1) * 1)) (.int .i64 (x.d (k + 1))) := fun ms hm => by
     have := (hO.rd (h := hh) hm).cell0 hk1 rfl
     have e : x.dims[k + 1] = x.d (k + 1) := by rw [x.d_eq]; simp [List.getD, hk1]
     rw [e] at this; exact this
    have hbq : decide (((x.back / 2 ^ k % 2 : Nat) : Int) = 1) = x.bk k := by unfold Pl.bk; exact decide_eq_decide.2 (by omega)
    refine Ai (Ab (Ac (Ag (Ax (Qf Sg rfl (Ql rfl underlying23 (hA _ _ rfl _) (Qm rfl (Qx (RH rfl rfl rfl (by omega)) rfl (Qx (P9 rfl rfl rfl (by omega)) rfl (Qm rfl (Qm rfl (B3 (Qf Bn rfl (Ql rfl underlying24 (Cell.blk 2 (k := 1) rfl rfl) (Qm rfl (Qx (oA rfl) rfl (Qx (Bo (k + 1) (hO.rd (h := h2) (ms := [md]) (List.Mem.head _)).rd rfl underlying24 A8 rfl rfl (by omega) (by omega)) rfl (Ql rfl underlying3 (hd1 _ (List.Mem.tail _ (List.Mem.tail _ (List.Mem.tail _ (List.Mem.head _))))) (Qm rfl (B3 (Qf Bn rfl (Ql rfl underlying24 (Cell.blk 2 (k := 1) rfl rfl) (Qm rfl (Qx (Bo (k) (hO.rd (h := h2) (ms := [md]) (List.Mem.head _)).rd rfl underlying24 A8 rfl rfl (by omega) (by omega)) rfl (Ql rfl underlying3 (hd0 _ (List.Mem.tail _ (List.Mem.tail _ (List.Mem.tail _ (List.Mem.head _))))) (Qm rfl (Aq ?_)))))))))))))))))))))))))))
    refine Bv (fun sl h3 ms' => ∃ b : Bool, sl = [(1, .pointer (some ⟨g1, 0, none⟩)), (2, .pointer (some ⟨g2, 0, none⟩)), (3, .pointer (some ⟨g3, 0, none⟩)), (5, .int .i64 a), (6, .int .i64 k), (7, .bool b), (8, .int .i64 (x.rows k)), (9, .int .i64 (x.cols k))] ∧ hh = h3 ∧ ms' = [ma, mB, AX g3 30 [.int .i64 x.P, vo, va], md, AX g2 30 [.int .i64 0, .slice none 0 0, .slice none 0 0]] ∧ b = x.bk k) ?_ (fun s h ms hI => ?_)
    ·refine Ac (Ad (Qm rfl (Aq ?_)))
     refine BJ rfl (fun hbt => ?_) (fun hbt => ?_)
     ·have hbt : x.bk k = true := hbq ▸ hbt
      have e1 : x.rows k = x.d k := if_pos hbt
      have e2 : x.cols k = x.d (k + 1) := if_pos hbt
      rw [e1, e2]
      refine Ax (Qf Bn rfl (Ql rfl underlying24 (Cell.blk 2 (k := 1) rfl rfl) (Qm rfl (Qx (Bo (k) (hO.rd (h := h2) (ms := [md]) (List.Mem.head _)).rd rfl underlying24 A8 rfl rfl (by omega) (by omega)) rfl (Ql rfl underlying3 (hd0 _ (List.Mem.tail _ (List.Mem.tail _ (List.Mem.tail _ (List.Mem.head _))))) (Qm rfl (IA (Qf Bn rfl (Ql rfl underlying24 (Cell.blk 2 (k := 1) rfl rfl) (Qm rfl (Qx (oA rfl) rfl (Qx (Bo (k + 1) (hO.rd (h := h2) (ms := [md]) (List.Mem.head _)).rd rfl underlying24 A8 rfl rfl (by omega) (by omega)) rfl (Ql rfl underlying3 (hd1 _ (List.Mem.tail _ (List.Mem.tail _ (List.Mem.tail _ (List.Mem.head _))))) (Qm rfl (Ak ?_)))))))))))))))
      exact AA _ ⟨_, rfl, rfl, rfl, hbq⟩ Qs
     ·have hbt : ¬ x.bk k = true := by rw [← hbq, hbt]; decide
      have e1 : x.rows k = x.d (k + 1) := if_neg hbt
      have e2 : x.cols k = x.d k := if_neg hbt
      rw [e1, e2]
      refine Ai ?_
      exact AA _ ⟨_, rfl, rfl, rfl, hbq⟩ Qs
    ·obtain ⟨b, rfl, rfl, rfl, rfl⟩ := hI
     have hrc := x.rc_le k
     have hpb := x.P_bd
     refine Ax (Qf CG rfl (Ql rfl underlying3 (Cell.blk 2 (k := 0) rfl rfl) (Qm rfl (Qm rfl ?_))))
     refine Qc call23 rfl (FN x.P (x.rows k) (x.cols k) hh ⟨by omega, by omega⟩) (fun xm h4 ms4 l4 hF => ?_)
     rw [DO x.P_is (show x.rows k ≤ 400 by omega) (show x.cols k ≤ 400 by omega)] at hF
     obtain ⟨rfl, xe, mx, rfl, rfl, hOx⟩ := hF
     have ox : xe.oneCell' = true := (hOx.rd (h := h) (ms := [mx]) (List.Mem.head _)).rd.one
     refine BZ [.int .i64 0, .int .i64 0, .int .i64 0, .slice none 0 0] rfl AI rfl rfl (fun g10 => ?_)
     refine Sa 0 [_, _, _, _] AI rfl (by simp [ox]) ?_
     refine Aq (AL fun h5 l5 hS10 => ?_)
     have hR := hR.up l5
     have hA := Seg.all (hS1.le (Hp.le_trans lh l5))
     have hA0 := hA 0 _ rfl
     have hC := Seg.all hS10
     have hvl := QU x k
     have hsz := x.sz_le k
     refine Bv (fun sl h6 ms' => ∃ (a' : Nat) (mx : Hp), sl = [(1, .pointer (some ⟨g1, 0, none⟩)), (2, .pointer (some ⟨g2, 0, none⟩)), (3, .pointer (some ⟨g3, 0, none⟩)), (5, .int .i64 a'), (6, .int .i64 k), (7, .bool (x.bk k)), (10, .pointer (some ⟨g10, 0, none⟩))] ∧ h5 = h6 ∧ ms' = [mx, ma, mB, AX g3 30 [.int .i64 x.P, vo, va], md, AX g2 30 [.int .i64 0, .slice none 0 0, .slice none 0 0]] ∧ OwnL cI 1 3 mx xe (x.mat k).e ∧ (x.seed = [] → a' = 0) ∧ (x.seed ≠ [] → a' = x.at_ (k + 1))) ?_ (fun s h ms hI => ?_)
     ·refine Ac (Ad (Qm rfl (Aq (Ag ?_))))
      refine AD (fun q sl h6 ms' => ∃ (j : Nat) (mx : Hp), q = x.rows k * x.cols k - j ∧ sl = [(1, .pointer (some ⟨g1, 0, none⟩)), (2, .pointer (some ⟨g2, 0, none⟩)), (3, .pointer (some ⟨g3, 0, none⟩)), (5, .int .i64 ((a + j : Nat) : Int)), (6, .int .i64 k), (7, .bool (x.bk k)), (10, .pointer (some ⟨g10, 0, none⟩)), (11, .int .i64 j)] ∧ h5 = h6 ∧ ms' = [mx, ma, mB, AX g3 30 [.int .i64 x.P, vo, va], md, AX g2 30 [.int .i64 0, .slice none 0 0, .slice none 0 0]] ∧ j ≤ x.rows k * x.cols k ∧ OwnL cI 1 3 mx xe (x.vals k j) ∧ (x.seed = [] → j = 0))
       (x.rows k * x.cols k - 0) _ ⟨0, mx, rfl, rfl, rfl, rfl, by omega, OB x k ▸ hOx, fun _ => rfl⟩ Qs ?_
      rintro q sl h6 ms' ⟨j, mx, rfl, rfl, rfl, rfl, hj, hOx, hj0⟩
      have hvj := hvl j
      refine Ac (Ax (Qm rfl (Qf Bc rfl (Ql rfl underlying24 (hC _ _ rfl _) (Qx (CH (hOx.rd (h := h2) (ms := [mx]) (List.Mem.head _)).rd rfl underlying24 rfl) rfl (Qm rfl (Qm rfl ?_)))))))
      refine AR (t := 96) rfl (fun hs1 => ?_) (fun hs1 => ?_)
      ·have hjl : j < x.rows k * x.cols k := by omega
       refine Qg (oF KA rfl) rfl (Qg (oL rfl underlying24 (hA _ _ rfl _)) rfl (Qg (AJ hR.s.rd.any rfl underlying24 rfl) rfl (Qg (Dd rfl rfl rfl) rfl (Qm rfl (Aq ?_)))))
       refine AF rfl (fun hs2 => ?_) (fun hs2 => ?_)
       ·have hsl0 : 0 < x.seed.length := by omega
        have hse : x.seed ≠ [] := fun e => by rw [e] at hsl0; exact absurd hsl0 (by decide)
        have hak := ha1 hse
        have q1 : (((a + j : Nat) : Int)) % (x.seed.length : Int) = (((a + j) % x.seed.length : Nat) : Int) := (Int.natCast_emod _ _).symm
        have q2 : (((a + j : Nat) : Int)) / (x.seed.length : Int) = (((a + j) / x.seed.length : Nat) : Int) := (Int.natCast_ediv _ _).symm
        have q3 : (a + j) / x.seed.length ≤ a + j := Nat.div_le_self _ _
        have q4 : 0 ≤ (((a + j : Nat) : Int)) / (x.seed.length : Int) := Int.ediv_nonneg (by omega) (by omega)
        have hml : (a + j) % x.seed.length < x.seed.length := Nat.mod_lt _ hsl0
        have hraw : Value.int .i64 (IntKind.i64.wrap (x.seed[(a + j) % x.seed.length] + 3 * ((((a + j : Nat) : Int)) / (x.seed.length : Int)))) = Value.int .i64 (x.raw (a + j)) := by
         unfold Pl.raw
         rw [q2, Gw hml]
        have hrb : Dh (x.raw (a + j)) := JW _
        have hrb1 := hrb.1
        have hrb2 := hrb.2
        have hent : x.ent (x.at_ k + j) = if x.thin = false ∨ x.raw (a + j) % 3 = 0 then IntKind.i64.wrap ((x.raw (a + j)).tdiv 3 + x.raw (a + j)) % x.P else 0 := by
         unfold Pl.ent; rw [if_neg hse, hak]
        refine Ai (Ab ?_)
        refine Bv (fun sl h6 ms' => ∃ (mx : Hp), sl = [(1, .pointer (some ⟨g1, 0, none⟩)), (2, .pointer (some ⟨g2, 0, none⟩)), (3, .pointer (some ⟨g3, 0, none⟩)), (5, .int .i64 ((a + (j + 1) : Nat) : Int)), (6, .int .i64 k), (7, .bool (x.bk k)), (10, .pointer (some ⟨g10, 0, none⟩)), (11, .int .i64 j)] ∧ h5 = h6 ∧ ms' = [mx, ma, mB, AX g3 30 [.int .i64 x.P, vo, va], md, AX g2 30 [.int .i64 0, .slice none 0 0, .slice none 0 0]] ∧ OwnL cI 1 3 mx xe (x.vals k (j + 1))) ?_ (fun s h ms hI => ?_)
        ·refine Ag (Ac (BB 15 Cd (by kernel_rfl) rfl (Wf KA rfl (Wl rfl underlying24 (hA _ _ rfl _) (Wm rfl (Wf KA rfl (Wl rfl underlying24 (hA _ _ rfl _) (AV (AJ hR.s.rd.any rfl underlying24 rfl) rfl rfl (AV (B0 rfl rfl rfl (by omega) (by omega)) rfl rfl (AV (Ah ((a + j) % x.seed.length) hR.s.rd.any rfl underlying24 A8 rfl rfl (by omega) (by omega)) rfl rfl (Wl rfl underlying3 (hR.s.any.cell0 hml rfl) (Wm rfl (Wf KA rfl (Wl rfl underlying24 (hA _ _ rfl _) (AV (AJ hR.s.rd.any rfl underlying24 rfl) rfl rfl (AV (Tp rfl rfl rfl (by omega) (by omega)) rfl rfl (AV (oM rfl) rfl rfl (BC (Qx (Vh (Ib rfl rfl rfl) hraw) rfl (Qm rfl (B3 (Qm rfl (Qx (oA rfl) rfl (Qm rfl (B3 (Qf Vw rfl (Ql rfl underlying4 (hA _ _ rfl _) (Qm rfl (Qm rfl ?_)))))))))))))))))))))))))))))
         refine CO (t := 125) rfl (fun ht => ?_) (fun ht => ?_)
         ·have ht : x.thin = false := by simpa using ht
          rw [if_pos (.inl ht)] at hent
          refine Qk rfl (Qk rfl (Qk rfl (Qm rfl (Aq (AU rfl (BB 10 Cd (by kernel_rfl) rfl (Wf Bc rfl (Wl rfl underlying24 (hC _ _ rfl _) (Wm rfl (Wm rfl (AV (MH rfl rfl rfl (by omega) (by omega)) rfl rfl (Wm rfl (AV (Ib rfl rfl rfl) rfl rfl (Wf CG rfl (Wl rfl underlying3 (Cell.blk 3 (k := 0) rfl rfl) ?_)))))))))))))))
          refine AV (AG rfl call34 rfl (Ks _ x.P (JW _) ⟨by omega, by omega⟩ _ _)) rfl rfl ?_
          refine BC (Qx (Bo (j) (hOx.rd (h := h2) (ms := [mx]) (List.Mem.head _)).rd rfl underlying24 A8 rfl rfl (by omega) (by omega)) rfl (Bu 0 j hOx rfl A8 rfl rfl rfl (by omega) rfl rfl (fun m' hO' => Ak (Aj ?_))))
          exact AA _ ⟨m', rfl, rfl, rfl, by rw [← I3 x k hjl, hent]; exact hO'⟩ Qs
         ·have ht : ¬ x.thin = false := by simpa using ht
          refine Qg (As rfl rfl) rfl ?_
          refine Qg (AG rfl call34 rfl (Ks (x.raw (a + j)) 3 hrb ⟨by omega, by omega⟩ _ _)) rfl ?_
          refine Qg (EJ rfl rfl rfl) rfl (Qm rfl (Aq ?_))
          refine AF rfl (fun hm => ?_) (fun hm => ?_)
          ·rw [if_pos (.inr hm)] at hent
           refine BB 10 Cd (by kernel_rfl) rfl (Wf Bc rfl (Wl rfl underlying24 (hC _ _ rfl _) (Wm rfl (Wm rfl (AV (MH rfl rfl rfl (by omega) (by omega)) rfl rfl (Wm rfl (AV (Ib rfl rfl rfl) rfl rfl (Wf CG rfl (Wl rfl underlying3 (Cell.blk 3 (k := 0) rfl rfl) ?_)))))))))
           refine AV (AG rfl call34 rfl (Ks _ x.P (JW _) ⟨by omega, by omega⟩ _ _)) rfl rfl ?_
           refine BC (Qx (Bo (j) (hOx.rd (h := h2) (ms := [mx]) (List.Mem.head _)).rd rfl underlying24 A8 rfl rfl (by omega) (by omega)) rfl (Bu 0 j hOx rfl A8 rfl rfl rfl (by omega) rfl rfl (fun m' hO' => Ak (Aj ?_))))
           exact AA _ ⟨m', rfl, rfl, rfl, by rw [← I3 x k hjl, hent]; exact hO'⟩ Qs
          ·rw [if_neg (fun h => h.elim ht hm)] at hent
           refine Ai (Aj ?_)
           exact AA _ ⟨mx, rfl, rfl, rfl, by rw [← Pj x k hjl hent]; exact hOx⟩ Qs
        ·obtain ⟨mx, rfl, rfl, rfl, hOx⟩ := hI
         refine Ad (Qm rfl (Qx (oA rfl) rfl (Qm rfl (Ak ?_))))
         refine Al (x.rows k * x.cols k - (j + 1)) _ (by omega) ⟨j + 1, mx, rfl, rfl, rfl, rfl, by omega, hOx, fun e => absurd e hse⟩ Qs
       ·have hse : x.seed = [] := List.length_eq_zero_iff.1 (by omega)
        have hj1 := hj0 hse
        have ha2 := ha0 hse
        refine Aw (Aa (Aa (Af ?_)))
        exact AA _ ⟨a + j, mx, rfl, rfl, rfl, by rw [← O5 x k j hse]; exact hOx, fun _ => by omega, fun e => absurd hse e⟩ Qs
      ·obtain rfl : j = x.rows k * x.cols k := by omega
       refine Qk rfl (Qk rfl (Qk rfl (Qk rfl (Qm rfl (Aq (Bb rfl (Aw (Aa (Aa (Af ?_))))))))))
       exact AA _ ⟨a + x.rows k * x.cols k, mx, rfl, rfl, rfl, by rw [← Q4 x k]; exact hOx, fun e => by rw [ha0 e, hj0 e], fun e => by rw [ha1 e]; rfl⟩ Qs
     ·obtain ⟨a', mx, rfl, rfl, rfl, hOx, hb0, hb1⟩ := hI
      have ova : va.oneCell' = true := (hOa.rd (h := h) (ms := [ma]) (List.Mem.head _)).rd.one
      have hAl : A.length = k := by
       have h1 := congrArg List.length hAc
       rw [List.length_map, List.length_take, x.core_len] at h1; omega
      refine Ad (Qf BQ rfl (Ql rfl underlying28 (Cell.blk 3 (k := 2) rfl rfl) (Qm rfl (Qx (oG rfl underlying42 AI (Seg.any hS10)) rfl ?_))))
      refine Qx (AT Pa [.bool false, .int .i64 0, .int .i64 0, .int .i64 0, .slice none 0 0] [(0, _), (1, _)] [_, _, _, _, _] rfl Cr rfl rfl (by repeat (first | exact trivial | refine ⟨⟨rfl, rfl, rfl⟩, ?_⟩)) rfl) rfl ?_
      refine AB [_, _, _, _, _] rfl underlying28 Cr rfl (by rfl) rfl rfl (by omega) rfl rfl rfl (fun g146 => ?_)
      refine Ba 2 hOa (RdL.one Fm (x := ⟨x.bk k, x.mat k, xe⟩) (List.Mem.head _) rfl) rfl underlying28 Cr rfl (by omega) rfl rfl rfl (Kc ox) (by simp only [List.length_singleton]; omega) (by simp only [List.length_singleton]; omega) rfl rfl rfl (fun va2 ma2 hOa2 => ?_)
      have ova2 : va2.oneCell' = true := (hOa2.rd (h := h) (ms := [ma2]) (List.Mem.head _)).rd.one
      refine Qf BQ rfl ?_
      refine AK 4 _ rfl Tm rfl rfl (by assumption) rfl rfl (by (simp; done)) rfl rfl ?_
      refine Ak (Aj (Ab (Ad (Qm rfl (Qx (oA rfl) rfl (Qm rfl (Ak (A5 (CF (ms' := [mB, mx, ma2, AX g3 30 [.int .i64 x.P, vo, va2], md, AX g2 30 [.int .i64 0, .slice none 0 0, .slice none 0 0]]) (K5 _ _ _ |>.trans (List.Perm.refl _) |> fun p => (p.append_right [AX g3 30 [.int .i64 x.P, vo, va2], md, AX g2 30 [.int .i64 0, .slice none 0 0, .slice none 0 0]])) (Ck fun hap => ?_))))))))))
      have hd12 : mB.disj mx := (List.pairwise_cons.1 hap).1 _ List.mem_cons_self
      refine Cq (A9 ?_)
      refine Al (x.dims.length - (k + 1)) _ (by omega) ⟨k + 1, a', va2, ma2, mB.join mx, A ++ [⟨x.bk k, x.mat k, xe⟩], rfl, rfl, Hp.le_trans lh l5, rfl, by omega, hOa2, ?_, hB.snoc hOx hd12, hb0, hb1⟩ Qs
      rw [List.map_append, hAc, Pl.core, ← List.map_take, ← List.map_take, List.take_range, List.take_range, show min (k + 1) (x.dims.length - 1) = min k (x.dims.length - 1) + 1 by omega, List.range_succ, List.map_append, show min k (x.dims.length - 1) = k by omega]
      rfl
   ·have hke : k = x.core.length := by rw [x.core_len]; omega
    rw [hke, List.take_length] at hAc
    have ovo : vo.oneCell' = true := (hO.rd (h := h) (ms := [md]) (List.Mem.head _)).rd.one
    have ova : va.oneCell' = true := (hOa.rd (h := h) (ms := [ma]) (List.Mem.head _)).rd.one
    refine Aw (Aa (Aa (Af (Ab (Ax (Qx (oG rfl underlying30 Bz (Seg.blk 2 rfl)) rfl ?_))))))
    refine Sa 4 [_, _, _] Bz rfl (by simp [ovo, ova]) ?_
    refine Aq (Ao (AP 2 rfl (CF (ms' := [ma, md, mB, AX g2 30 [.int .i64 x.P, vo, va]]) (List.Perm.cons _ (List.Perm.swap _ _ _)) ?_)))
    exact Cl (vs := [_, _, _]) 3 rfl rfl underlying30 rfl Bz rfl rfl (⟨Hp.le_trans l1 (Hp.le_trans l2 lh), vo, va, md, ma, mB, A, rfl, rfl, hO, hOa, hAc, hB⟩)
end Go.Proofs.YtdnelknieikbaaaGreat
namespace Go.Proofs.YtdnelknieikbaaaGreat
open Go.Eng Go.ChangeShapes Go.WideShapes Go.ChangeAt Go.RowKit Go.Deep
theorem own : ownKnob Tryz.prog.godebug = none := by kernel_rfl
theorem Kw {w w' : World} (E : Ext w w') : Below w.heap.size w w' := ⟨E.os, E.tape.tape, E.output, E.size, E.block⟩
theorem Ih : laidOutB Tryz.prog = true := by kernel_rfl
section
variable {H : Type} {enc : TypeId × Value → H} {w : World} {base : Nat} {spare : Nat → Bool} {held : Bool}
theorem Kn {P : Program} {t : TypeId} {f0 f1 f2 f3 f4 : Field} {fuel : Nat} {cs : List Value} {x : DataW H × List MemPlace} (ht : P.underlying t = some (.struct #[f0, f1, f2, f3, f4])) (h : DataW.trod enc P w base spare held fuel t cs = some x) :
  ∃ y0 y1 y2 y3 y4 n, cs.length = P.cellsOf t ∧ DataW.trod enc P w base spare held n f0.type ((cs.drop f0.offset).take (P.cellsOf f0.type)) = some y0 ∧
   DataW.trod enc P w base spare held n f1.type ((cs.drop f1.offset).take (P.cellsOf f1.type)) = some y1 ∧ DataW.trod enc P w base spare held n f2.type ((cs.drop f2.offset).take (P.cellsOf f2.type)) = some y2 ∧
   DataW.trod enc P w base spare held n f3.type ((cs.drop f3.offset).take (P.cellsOf f3.type)) = some y3 ∧ DataW.trod enc P w base spare held n f4.type ((cs.drop f4.offset).take (P.cellsOf f4.type)) = some y4 := by
 obtain ⟨xs, n, _, rfl, hl, hlen, hf⟩ := DataW.trod_struct ht h
 match xs, hlen with
 | [y0, y1, y2, y3, y4], _ => exact ⟨y0, y1, y2, y3, y4, n, hl, by simpa using hf 0 f0 rfl, by simpa using hf 1 f1 rfl, by simpa using hf 2 f2 rfl, by simpa using hf 3 f3 rfl, by simpa using hf 4 f4 rfl⟩
theorem O6 (n : Nat) (cs : List Value) (y : DataW H × List MemPlace) (h : DataW.trod enc Tryz.prog w base spare held n 3 cs = some y) : ∃ a, cs = cI a ∧ Dh a := by
 obtain ⟨b, h1, _, h2⟩ := DataW.trod_int Tryz.underlying3 h
 exact ⟨b, h1, bounds_i64 h2⟩
theorem IP (n : Nat) (cs : List Value) (y : DataW H × List MemPlace) (h : DataW.trod enc Tryz.prog w base spare held n 5 cs = some y) : ∃ a, cs = cB a ∧ a < 256 := by
 obtain ⟨b, h1, _, h2⟩ := DataW.trod_int Tryz.underlying5 h
 have := bounds_u8 h2
 refine ⟨b.toNat, ?_, by omega⟩
 unfold cB
 rw [h1, Int.toNat_of_nonneg this.1]
theorem Tg {v : Value} {fuel : Nat} {x : DataW H × List MemPlace} (h : DataW.trod enc Tryz.prog w base spare held fuel 24 [v] = some x) : ∃ l, RdL cI 1 (whole w) [] v l ∧ ∀ a ∈ l, Dh a :=
 Lk Tryz.underlying24 (by kernel_rfl) Br (by decide) O6 h
theorem Th {v : Value} {fuel : Nat} {x : DataW H × List MemPlace} (h : DataW.trod enc Tryz.prog w base spare held fuel 22 [v] = some x) : ∃ l, RdL cB 1 (whole w) [] v l ∧ ∀ a ∈ l, a < 256 :=
 Lk Tryz.underlying22 (by kernel_rfl) R1 (by decide) IP h
theorem Gc {v : Value} {r : Reach} {b0 : Nat} {d : DataW H} {ps : List MemPlace} (hval : Value.okWide Tryz.prog w r b0 26 v) (h : DataW.Trod enc Tryz.prog w base spare held 26 v d ps) : ∃ (x : Pl) (vd vs : Value), v = .agg #[.int .u8 x.p, vd, .int .u16 x.back, vs, .bool x.thin] ∧ RdP (whole w) vd vs x ∧ x.Ok := by
 obtain ⟨cs, rfl, hc⟩ := okWide_struct Tryz.underlying26 hval
 obtain ⟨fuel, hf⟩ := h
 obtain ⟨y0, y1, y2, y3, y4, n, h0, h1, h2, h3, h4, h5⟩ := Kn Tryz.underlying26 hf
 have hc5 : cs.size = 5 := hc.trans (by kernel_rfl)
 obtain ⟨l⟩ := cs
 match l, hc5 with
 | [c0, c1, c2, c3, c4], _ =>
  have h1 : DataW.trod enc Tryz.prog w base spare held n 5 [c0] = some y0 := h1
  have h2 : DataW.trod enc Tryz.prog w base spare held n 22 [c1] = some y1 := h2
  have h3 : DataW.trod enc Tryz.prog w base spare held n 23 [c2] = some y2 := h3
  have h4 : DataW.trod enc Tryz.prog w base spare held n 24 [c3] = some y3 := h4
  have h5 : DataW.trod enc Tryz.prog w base spare held n 4 [c4] = some y4 := h5
  obtain ⟨p, e0, w0⟩ := IP n _ _ h1
  obtain ⟨ds, Rd, wd⟩ := Th h2
  obtain ⟨b, e2, _, w2⟩ := DataW.trod_int Tryz.underlying23 h3
  obtain ⟨sd, Rs, ws⟩ := Tg h4
  obtain ⟨th, e4, _⟩ := DataW.trod_bool Tryz.underlying4 h5
  have hb := bounds_u16 w2
  simp only [cB, List.cons.injEq, and_true] at e0 e2 e4
  subst e0 e2 e4
  refine ⟨⟨p, ds, b.toNat, sd, th⟩, c1, c3, ?_, ⟨Rd, Rs⟩, w0, wd, ?_, ws, Rs.len_le⟩
  ·show Value.agg #[.int .u8 p, c1, .int .u16 b, c3, .bool th] = Value.agg #[.int .u8 p, c1, .int .u16 ((b.toNat : Nat) : Int), c3, .bool th]
   rw [Int.toNat_of_nonneg hb.1]
  ·show b.toNat < 65536
   omega
end
end Go.Proofs.YtdnelknieikbaaaGreat
namespace Go.Lin
variable {p : Int} {d n k am : Nat} {w : Nat → Nat → Int} {pl : Nat → Nat} {v : Nat → Int}
abbrev ty (_ : Nat) : Bool := true
structure Rows (p : Int) (d n : Nat) (w : Nat → Nat → Int) (pl : Nat → Nat) : Prop where
  bd : ∀ k, k < n → ∀ i, i < d → 0 ≤ w k i ∧ w k i < p
  lt : ∀ k, k < n → pl k < d
  one : ∀ k, k < n → w k (pl k) = 1
  low : ∀ k, k < n → ∀ i, i < pl k → w k i = 0
  inc : ∀ k l, k < l → l < n → pl k < pl l
theorem cg_dvd {c : Int} : Cg p c 0 ↔ p ∣ c := by unfold Cg; rw [Int.sub_zero]
theorem Rows.coef (R : Rows p d n w pl) {c : Nat → Int} (hk : k < n) (hc : ∀ l, l < k → p ∣ c l) : Cg p (Bj n ty c w (pl k)) (c k) := by
  unfold Bj
  have h : Cg p (sm n fun l => if ty l = true then c l * w l (pl k) else 0) (sm n fun l => if l = k then c l else 0) := Cg.sm fun l hl => by
    show Cg p (c l * w l (pl k)) _
    rcases Nat.lt_trichotomy l k with h | rfl | h
    · rw [if_neg (by omega)]
      exact cg_dvd.2 (Int.dvd_mul_of_dvd_left (hc l h))
    · rw [if_pos rfl, R.one l hl, Int.mul_one]; exact Cg.refl _ _
    · rw [if_neg (by omega), R.low l hl _ (R.inc k l h hl), Int.mul_zero]; exact Cg.refl _ _
  rwa [DP n k c hk] at h
theorem Rows.ind (R : Rows p d n w pl) : Ind p n ty d w := by
  intro c hc l hl _
  induction l using Nat.strongRecOn with
  | ind l ih =>
    have h := R.coef (c := c) hl fun k hk => ih k hk (by omega) rfl
    exact cg_dvd.1 (h.symm.trans (hc _ (R.lt l hl)))
structure Less (p : Int) (d : Nat) (w : Nat → Nat → Int) (pl : Nat → Nat) (am : Nat) (v : Nat → Int) (k : Nat) (out : Nat → Int) : Prop where
  sum : ∃ c : Nat → Int, ∀ i, i < d → Cg p (out i) (v i - sm k fun l => c l * w l i)
  zero : ∀ l, l < k → pl l < am → out (pl l) = 0
  bd : ∀ i, i < d → 0 ≤ out i ∧ out i < p
theorem Less.start (h : ∀ i, i < d → 0 ≤ v i ∧ v i < p) : Less p d w pl am v 0 v :=
  ⟨⟨fun _ => 0, fun i _ => Cg.of_eq (by show v i = v i - 0; omega)⟩, fun l h => by omega, h⟩
theorem Less.skip {out : Nat → Int} (L : Less p d w pl am v k out) (h : am ≤ pl k ∨ out (pl k) = 0) : Less p d w pl am v (k + 1) out := by
  obtain ⟨c, hc⟩ := L.sum
  refine ⟨⟨fun l => if l = k then 0 else c l, fun i hi => (hc i hi).trans (Cg.of_eq ?_)⟩, fun l hl ha => ?_, L.bd⟩
  · show _ = v i - (sm k (fun l => (if l = k then 0 else c l) * w l i) + (if k = k then 0 else c k) * w k i)
    rw [if_pos rfl, Int.zero_mul, Int.add_zero]
    congr 1
    exact AE fun l hl => by rw [if_neg (by omega)]
  · rcases (by omega : l < k ∨ l = k) with h1 | rfl
    · exact L.zero l h1 ha
    · rcases h with h | h
      · omega
      · exact h
theorem Less.step {out out' : Nat → Int} (hp : 0 < p) (R : Rows p d n w pl) (L : Less p d w pl am v k out) (hk : k < n) (ho : ∀ i, i < d → out' i = if pl k ≤ i then (out i - out (pl k) * w k i) % p else out i) : Less p d w pl am v (k + 1) out' := by
  obtain ⟨c, hc⟩ := L.sum
  have key : ∀ i, i < d → Cg p (out' i) (out i - out (pl k) * w k i) := fun i hi => by
    rw [ho i hi]
    split
    · exact Cg.mod _ _
    · rw [R.low k hk i (by omega), Int.mul_zero, Int.sub_zero]; exact Cg.refl _ _
  refine ⟨⟨fun l => if l = k then out (pl k) else c l, fun i hi => (key i hi).trans ?_⟩, fun l hl ha => ?_, fun i hi => ?_⟩
  · refine ((hc i hi).sub (Cg.refl p (out (pl k) * w k i))).trans (Cg.of_eq ?_)
    show _ = v i - (sm k (fun l => (if l = k then out (pl k) else c l) * w l i) + (if k = k then out (pl k) else c k) * w k i)
    have e : sm k (fun l => (if l = k then out (pl k) else c l) * w l i) = sm k fun l => c l * w l i := AE fun l hl => by rw [if_neg (by omega)]
    rw [if_pos rfl, e]
    omega
  · rcases (by omega : l < k ∨ l = k) with h1 | rfl
    · rw [ho _ (R.lt l (by omega)), if_neg (by have := R.inc l k h1 hk; omega)]
      exact L.zero l h1 ha
    · rw [ho _ (R.lt l hk), if_pos (Nat.le_refl _), R.one l hk, Int.mul_one, Int.sub_self, Int.zero_emod]
  · rw [ho i hi]
    split
    · exact ⟨Int.emod_nonneg _ (by omega), Int.emod_lt_of_pos _ hp⟩
    · exact L.bd i hi
theorem Rows.out (R : Rows p d n w pl) {x : Nat → Int} (h0 : ∀ k, k < n → Cg p (x (pl k)) 0) (hs : Spn p n ty d w x) : ∀ i, i < d → Cg p (x i) 0 := by
  obtain ⟨c, hc⟩ := hs
  have hall : ∀ l, l < n → p ∣ c l := fun l => by
    induction l using Nat.strongRecOn with
    | ind l ih =>
      intro hl
      have h := R.coef (c := c) hl fun k hk => ih k hk (by omega)
      exact cg_dvd.1 (h.symm.trans ((hc _ (R.lt l hl)).symm.trans (h0 l hl)))
  intro i hi
  refine (hc i hi).trans ?_
  unfold Bj
  refine (Cg.sm (g := fun _ => 0) fun l hl => ?_).trans (Cg.of_eq (CS n))
  exact cg_dvd.2 (Int.dvd_mul_of_dvd_left (hall l hl))
end Go.Lin
namespace Go.Lin
variable {w : Nat → Nat → Int} {k n i am : Nat} {α : Type} {pl : Nat → Nat}
def fs : Nat → (Nat → Int) → Nat
  | 0, _ => 0
  | d + 1, v => if fs d v < d then fs d v else if v d = 0 then d + 1 else d
theorem Ip (v : Nat → Int) : ∀ d, fs d v ≤ d ∧ (∀ i, i < fs d v → v i = 0) ∧ (fs d v < d → v (fs d v) ≠ 0)
  | 0 => ⟨Nat.le_refl _, fun i hi => by simp [fs] at hi, fun h => by simp [fs] at h⟩
  | d + 1 => by
    obtain ⟨h1, h2, h3⟩ := Ip v d
    unfold fs
    split
    · rename_i h; exact ⟨by omega, h2, fun _ => h3 h⟩
    · rename_i h
      have he : fs d v = d := by omega
      rw [he] at h2
      split
      · rename_i h0
        refine ⟨Nat.le_refl _, fun i hi => ?_, fun h' => by omega⟩
        rcases (by omega : i < d ∨ i = d) with h' | rfl
        · exact h2 i h'
        · exact h0
      · rename_i h0
        exact ⟨by omega, h2, fun _ => h0⟩
theorem ME {d : Nat} {v : Nat → Int} (h : fs d v = d) : ∀ i, i < d → v i = 0 := fun i hi => (Ip v d).2.1 i (by omega)
def Eg (k : Nat) (x : α) (f : Nat → α) (i : Nat) : α := if i < k then f i else if i = k then x else f (i - 1)
theorem DN {x : α} {f : Nat → α} (h : i < k) : Eg k x f i = f i := if_pos h
theorem Dk {x : α} {f : Nat → α} : Eg k x f k = x := by unfold Eg; rw [if_neg (by omega), if_pos rfl]
theorem DM {x : α} {f : Nat → α} (h : k < i) : Eg k x f i = f (i - 1) := by unfold Eg; rw [if_neg (by omega), if_neg (by omega)]
theorem Jk {x : α} {f : Nat → α} : Eg k x f (skip k i) = f i := by
  unfold skip
  split
  · rename_i h; exact DN h
  · rw [DM (by omega)]; rfl
theorem Rows.insert {p : Int} {d : Nat} (R : Rows p d n w pl) {a : Nat} {x : Nat → Int} (hk : k ≤ n) (ha : a < d) (hlo : ∀ l, l < k → pl l < a) (hhi : ∀ l, k ≤ l → l < n → a < pl l) (hb : ∀ i, i < d → 0 ≤ x i ∧ x i < p) (h1 : x a = 1) (h0 : ∀ i, i < a → x i = 0) : Rows p d (n + 1) (Eg k x w) (Eg k a pl) := by
  have C : ∀ {Q : (Nat → Int) → Nat → Prop}, Q x a → (∀ l, l < n → Q (w l) (pl l)) → ∀ l, l < n + 1 → Q (Eg k x w l) (Eg k a pl l) := fun {Q} q1 q2 l hl => by
    rcases Nat.lt_trichotomy l k with h | rfl | h
    · rw [DN h, DN h]; exact q2 l (by omega)
    · rw [Dk, Dk]; exact q1
    · rw [DM h, DM h]; exact q2 _ (by omega)
  refine ⟨C (Q := fun v _ => ∀ i, i < d → 0 ≤ v i ∧ v i < p) hb R.bd, C (Q := fun _ q => q < d) ha R.lt, C (Q := fun v q => v q = 1) h1 R.one, C (Q := fun v q => ∀ i, i < q → v i = 0) h0 R.low, fun i j hij hj => ?_⟩
  rcases Nat.lt_trichotomy i k with h | rfl | h
  · rw [DN h]
    rcases Nat.lt_trichotomy j k with h' | rfl | h'
    · rw [DN h']; exact R.inc i j hij (by omega)
    · rw [Dk]; exact hlo i h
    · rw [DM h']
      rcases (by omega : i < j - 1 ∨ i = j - 1) with e | e
      · exact R.inc i _ e (by omega)
      · omega
  · rw [Dk, DM hij]; exact hhi _ (by omega) (by omega)
  · rw [DM h, DM (by omega)]; exact R.inc _ _ (by omega) (by omega)
theorem U1 (n k : Nat) (c : Nat → Int) (x : Nat → Int) (w : Nat → Nat → Int) (i : Nat) (hk : k ≤ n) : (sm (n + 1) fun l => c l * Eg k x w l i) = (sm n fun l => c (skip k l) * w l i) + c k * x i := by
  rw [ND n k _ (by omega)]
  simp only [Jk, Dk]
structure Sub (p : Int) (d : Nat) (W : (Nat → Int) → Prop) : Prop where
  zero : W fun _ => 0
  cg : ∀ x y, (∀ i, i < d → Cg p (y i) (x i)) → W x → W y
  lin : ∀ x y c, W x → W y → W fun i => x i + c * y i
theorem CR (p : Int) (n d : Nat) (b : Nat → Bool) (w : Nat → Nat → Int) : Sub p d (Spn p n b d w) := by
  refine ⟨⟨fun _ => 0, fun i _ => Cg.of_eq ?_⟩, fun x y h ⟨c, hc⟩ => ⟨c, fun i hi => (h i hi).trans (hc i hi)⟩, fun x y c ⟨a, ha⟩ ⟨e, he⟩ => ⟨fun l => a l + c * e l, fun i hi => ?_⟩⟩
  · unfold Bj
    exact (CL fun l _ => by rw [Int.zero_mul, ite_self]).symm
  · refine ((ha i hi).add ((Cg.refl p c).mul (he i hi))).trans (Cg.of_eq ?_)
    unfold Bj
    rw [← Cb, ← FF]
    refine AE fun l _ => ?_
    cases b l
    · simp
    · simp only [if_true]; rw [Int.add_mul, Int.mul_assoc]
section
variable {p : Int} {d : Nat} {W W' : (Nat → Int) → Prop} {v x out z : Nat → Int}
def Exw (W : (Nat → Int) → Prop) (v y : Nat → Int) : Prop := ∃ c : Int, W fun i => y i - c * v i
theorem Exw.mono (S : Sub p d W) (u : Int) (hz : W z) (h : ∀ i, i < d → Cg p (x i) (u * (v i - z i))) {y : Nat → Int} (hy : Exw W x y) : Exw W v y := by
  obtain ⟨c, hc⟩ := hy
  refine ⟨c * u, S.cg _ _ (fun i hi => ?_) (S.lin _ _ (-(c * u)) hc hz)⟩
  have h1 := (Cg.refl p c).mul (h i hi)
  have h2 := ((Cg.refl p (y i)).sub h1).sub (Cg.refl p (c * u * z i))
  refine Cg.trans (Cg.of_eq ?_) (h2.symm.trans (Cg.of_eq ?_))
  · show y i - c * u * v i = y i - c * (u * (v i - z i)) - c * u * z i
    rw [← Int.mul_assoc, Int.mul_sub]; omega
  · show y i - c * x i - c * u * z i = y i - c * x i + -(c * u) * z i
    rw [Int.neg_mul]; omega
theorem Exw.unit (S : Sub p d W) {u t : Int} (hz : W z) (ho : ∀ i, i < d → Cg p (out i) (v i - z i)) (hx : ∀ i, i < d → Cg p (x i) (u * out i)) (ht : Cg p (t * u) 1) (y : Nat → Int) : Exw W v y ↔ Exw W x y := by
  constructor
  · have hz' : W fun i => 0 + -u * z i := S.lin _ _ (-u) S.zero hz
    refine Exw.mono S t hz' fun i hi => ?_
    -- v ≡ t (x + u z)
    have h1 := (hx i hi).trans ((Cg.refl p u).mul (ho i hi))
    have h2 := (Cg.refl p t).mul (h1.add (Cg.refl p (u * z i)))
    have h3 : Cg p (t * (u * (v i - z i) + u * z i)) (v i) := by
      have := ht.mul (Cg.refl p (v i))
      rw [Int.one_mul] at this
      refine Cg.trans (Cg.of_eq ?_) this
      rw [← Int.mul_add, ← Int.mul_assoc]; congr 1; omega
    refine (h2.trans h3).symm.trans (Cg.of_eq ?_)
    show t * (x i + u * z i) = t * (x i - (0 + -u * z i))
    rw [Int.neg_mul]; congr 1; omega
  · exact Exw.mono S u hz fun i hi => (hx i hi).trans ((Cg.refl p u).mul (ho i hi))
theorem Exw.same (S : Sub p d W) (h : W v) (y : Nat → Int) : W y ↔ Exw W v y := by
  constructor
  · intro hy
    exact ⟨0, S.cg _ _ (fun i _ => Cg.of_eq (by show y i - 0 * v i = y i; rw [Int.zero_mul]; omega)) hy⟩
  · rintro ⟨c, hc⟩
    exact S.cg _ _ (fun i _ => Cg.of_eq (by show y i = y i - c * v i + c * v i; omega)) (S.lin _ _ c hc h)
end
theorem NK {p : Int} {d : Nat} {x : Nat → Int} (hk : k ≤ n) (y : Nat → Int) : Spn p (n + 1) ty d (Eg k x w) y ↔ Exw (Spn p n ty d w) x y := by
  have e : ∀ (c : Nat → Int) (i : Nat), Bj (n + 1) ty c (Eg k x w) i = (sm n fun l => c (skip k l) * w l i) + c k * x i := fun c i => U1 n k c x w i hk
  constructor
  · rintro ⟨c, hc⟩
    refine ⟨c k, fun l => c (skip k l), fun i hi => ?_⟩
    have h := hc i hi
    rw [e] at h
    refine (h.sub (Cg.refl p (c k * x i))).trans (Cg.of_eq ?_)
    show _ = sm n fun l => c (skip k l) * w l i
    omega
  · rintro ⟨c0, c, hc⟩
    refine ⟨Eg k c0 c, fun i hi => ?_⟩
    rw [e, Dk]
    have h := (hc i hi).add (Cg.refl p (c0 * x i))
    refine Cg.trans (Cg.of_eq (by show y i = y i - c0 * x i + c0 * x i; omega)) (h.trans (Cg.of_eq ?_))
    congr 1
    exact AE fun l _ => by rw [Jk]; rfl
theorem KN {p : Int} {d : Nat} (y : Nat → Int) : Spn p (n + 1) ty d w y ↔ Exw (Spn p n ty d w) (w n) y := by
  have h := NK (p := p) (d := d) (n := n) (k := n) (w := w) (x := w n) (Nat.le_refl n) y
  rw [← h]
  have e : ∀ c i, Bj (n + 1) ty c (Eg n (w n) w) i = Bj (n + 1) ty c w i := fun c i => AE fun l hl => by
    rcases (by omega : l < n ∨ l = n) with h | rfl
    · rw [DN h]
    · rw [Dk]
  unfold Spn
  simp only [e]
theorem Exw.congr {W W' : (Nat → Int) → Prop} (h : ∀ y, W y ↔ W' y) (v y : Nat → Int) : Exw W v y ↔ Exw W' v y := by unfold Exw; simp only [h]
def Sp (p : Int) (d n : Nat) (w : Nat → Nat → Int) (m : Nat) (V : Nat → Nat → Int) : Prop := ∀ y, Spn p n ty d w y ↔ Spn p m ty d V y
theorem Less.mem {p : Int} {d : Nat} {v out : Nat → Int} (L : Less p d w pl am v n out) : ∃ z, Spn p n ty d w z ∧ ∀ i, i < d → Cg p (out i) (v i - z i) := by
  obtain ⟨c, hc⟩ := L.sum
  exact ⟨fun i => sm n fun l => c l * w l i, ⟨c, fun i _ => Cg.refl _ _⟩, hc⟩
theorem R9 {p : Int} {d : Nat} {v out : Nat → Int} (L : Less p d w pl am v n out) (h : ∀ i, i < d → out i = 0) (y : Nat → Int) : Spn p n ty d w y ↔ Exw (Spn p n ty d w) v y := by
  obtain ⟨z, hz, ho⟩ := L.mem
  refine Exw.same (CR p n d ty w) ((CR p n d ty w).cg _ _ (fun i hi => ?_) hz) y
  have h1 := ho i hi
  rw [h i hi] at h1
  have h2 := h1.symm.add (Cg.refl p (z i))
  rwa [Int.sub_add_cancel, Int.zero_add] at h2
theorem Ln {p : Int} {d : Nat} {v out x : Nat → Int} {u : Int} (L : Less p d w pl am v n out) (hk : k ≤ n) {t : Int} (hx : ∀ i, i < d → Cg p (x i) (u * out i)) (ht : Cg p (t * u) 1) (y : Nat → Int) : Spn p (n + 1) ty d (Eg k x w) y ↔ Exw (Spn p n ty d w) v y := by
  obtain ⟨z, hz, ho⟩ := L.mem
  rw [NK hk]
  exact (Exw.unit (CR p n d ty w) hz ho hx ht y).symm
theorem Sp.start {p : Int} {d : Nat} {V : Nat → Nat → Int} : Sp p d 0 w 0 V := fun y => Iff.rfl
theorem Sp.next {p : Int} {d n' m : Nat} {w' V : Nat → Nat → Int} (S : Sp p d n w m V) (h : ∀ y, Spn p n' ty d w' y ↔ Exw (Spn p n ty d w) (V m) y) : Sp p d n' w' (m + 1) V := fun y => by
  rw [h, KN]
  exact Exw.congr S _ y
end Go.Lin
namespace Go.Lin
variable {nb no n e f : Nat} {wb wo : Nat → Nat → Int} {p : Int}
def Rl (Z : Zg) (a b : Nat) (u y : Nat → Int) : Prop := ∃ x, SR Z a b x ∧ (∀ i, i < Z.d a → Cg Z.p (x a i) (u i)) ∧ ∀ i, i < Z.d b → Cg Z.p (x b i) (y i)
section
variable {Z : Zg} {a b : Nat} {u y : Nat → Int}
theorem RW : Rl Z a a u y ↔ ∀ i, i < Z.d a → Cg Z.p (u i) (y i) := by
  constructor
  · rintro ⟨x, _, h1, h2⟩ i hi
    exact (h1 i hi).symm.trans (h2 i hi)
  · intro h
    exact ⟨fun _ => u, fun k h1 h2 => by omega, fun i _ => Cg.refl _ _, h⟩
theorem Vt (hab : a ≤ b) (hb : Z.back b = false) : Rl Z a (b + 1) u y ↔ ∃ x, Rl Z a b u x ∧ ∀ i, i < Z.d (b + 1) → Cg Z.p (ap (Z.mat b) (Z.d b) x i) (y i) := by
  have es : Z.src b = b ∧ Z.tgt b = b + 1 := by unfold Zg.src Zg.tgt; rw [hb]; exact ⟨rfl, rfl⟩
  constructor
  · rintro ⟨x, T, h1, h2⟩
    refine ⟨x b, ⟨x, fun k k1 k2 => T k k1 (by omega), h1, fun i _ => Cg.refl _ _⟩, fun i hi => ?_⟩
    have := T b hab (by omega) i (by rw [es.2]; exact hi)
    rw [es.1, es.2] at this
    exact this.trans (h2 i hi)
  · rintro ⟨w, ⟨x, T, h1, h2⟩, h3⟩
    refine ⟨fun k => if k = b + 1 then y else x k, fun k k1 k2 i hi => ?_, fun i hi => ?_, fun i hi => ?_⟩
    · rcases (by omega : k < b ∨ k = b) with hk | rfl
      · have : Z.src k ≠ b + 1 ∧ Z.tgt k ≠ b + 1 := by rcases Z.src_tgt k with ⟨e1, e2, _⟩ | ⟨e1, e2, _⟩ <;> omega
        simp only [if_neg this.1, if_neg this.2]
        exact T k k1 hk i hi
      · rw [es.2] at hi
        rw [es.1, es.2]
        simp only [if_pos, if_neg (show ¬ k = k + 1 by omega)]
        exact (EC (fun j hj => h2 j hj) i).trans (h3 i hi)
    · show Cg Z.p ((if a = b + 1 then y else x a) i) (u i)
      rw [if_neg (by omega)]; exact h1 i hi
    · show Cg Z.p ((if b + 1 = b + 1 then y else x (b + 1)) i) (y i)
      rw [if_pos rfl]; exact Cg.refl _ _
theorem UW (hab : a ≤ b) (hb : Z.back b = true) : Rl Z a (b + 1) u y ↔ Rl Z a b u (ap (Z.mat b) (Z.d (b + 1)) y) := by
  have es : Z.src b = b + 1 ∧ Z.tgt b = b := by unfold Zg.src Zg.tgt; rw [hb]; exact ⟨rfl, rfl⟩
  constructor
  · rintro ⟨x, T, h1, h2⟩
    refine ⟨x, fun k k1 k2 => T k k1 (by omega), h1, fun i hi => ?_⟩
    have := T b hab (by omega) i (by rw [es.2]; exact hi)
    rw [es.1, es.2] at this
    exact this.symm.trans (EC (fun j hj => h2 j hj) i)
  · rintro ⟨x, T, h1, h2⟩
    refine ⟨fun k => if k = b + 1 then y else x k, fun k k1 k2 i hi => ?_, fun i hi => ?_, fun i hi => ?_⟩
    · rcases (by omega : k < b ∨ k = b) with hk | rfl
      · have : Z.src k ≠ b + 1 ∧ Z.tgt k ≠ b + 1 := by rcases Z.src_tgt k with ⟨e1, e2, _⟩ | ⟨e1, e2, _⟩ <;> omega
        simp only [if_neg this.1, if_neg this.2]
        exact T k k1 hk i hi
      · rw [es.2] at hi
        rw [es.1, es.2]
        simp only [if_pos, if_neg (show ¬ k = k + 1 by omega)]
        exact (h2 i hi).symm
    · show Cg Z.p ((if a = b + 1 then y else x a) i) (u i)
      rw [if_neg (by omega)]; exact h1 i hi
    · show Cg Z.p ((if b + 1 = b + 1 then y else x (b + 1)) i) (y i)
      rw [if_pos rfl]; exact Cg.refl _ _
end
def Ej (n : Nat) (u y : Nat → Int) (i : Nat) : Int := if i < n then u i else y (i - n)
theorem BW {i : Nat} {u y : Nat → Int} (h : i < n) : Ej n u y i = u i := if_pos h
theorem BG {i : Nat} {u y : Nat → Int} : Ej n u y (n + i) = y i := by unfold Ej; rw [if_neg (by omega)]; congr 1; omega
theorem Tk (n : Nat) (v : Nat → Int) : Ej n v (fun i => v (n + i)) = v := funext fun i => by
  unfold Ej
  split
  · rfl
  · show v (n + (i - n)) = v i
    congr 1; omega
theorem Cy {Q : Nat → Prop} {d : Nat} (h1 : ∀ i, i < n → Q i) (h2 : ∀ i, i < d → Q (n + i)) : ∀ i, i < n + d → Q i := fun i hi => by
  rcases Nat.lt_or_ge i n with h | h
  · exact h1 i h
  · have := h2 (i - n) (by omega)
    rwa [show n + (i - n) = i by omega] at this
def Rr (Z : Zg) (a b N : Nat) (w : Nat → Nat → Int) : Prop := ∀ u y, Spn Z.p N ty (Z.d a + Z.d b) w (Ej (Z.d a) u y) ↔ Rl Z a b u y
section
variable {Z : Zg} {a b N N' : Nat} {w w' V : Nat → Nat → Int}
theorem Rr.start (n : Nat) (hn : n = Z.d a) (hw : ∀ k, k < n → ∀ i, i < n + n → w k i = if i = k ∨ i = n + k then 1 else 0) : Rr Z a a n w := by
  intro u y
  subst hn
  rw [RW]
  have key : ∀ (c : Nat → Int) (i : Nat), i < Z.d a → Bj (Z.d a) ty c w i = c i ∧ Bj (Z.d a) ty c w (Z.d a + i) = c i := fun c i hi => by
    have h1 : ∀ j, j < Z.d a → w j i = if j = i then 1 else 0 := fun j hj => by
      rw [hw j hj i (by omega)]
      by_cases e : j = i
      · rw [if_pos (by omega), if_pos e]
      · rw [if_neg (by omega), if_neg e]
    have h2 : ∀ j, j < Z.d a → w j (Z.d a + i) = if j = i then 1 else 0 := fun j hj => by
      rw [hw j hj _ (by omega)]
      by_cases e : j = i
      · rw [if_pos (by omega), if_pos e]
      · rw [if_neg (by omega), if_neg e]
    constructor
    · rw [← DP (Z.d a) i c hi]
      exact AE fun j hj => by
        show c j * w j i = _
        rw [h1 j hj]; split <;> simp
    · rw [← DP (Z.d a) i c hi]
      exact AE fun j hj => by
        show c j * w j (Z.d a + i) = _
        rw [h2 j hj]; split <;> simp
  constructor
  · rintro ⟨c, hc⟩ i hi
    have h1 := hc i (by omega)
    have h2 := hc (Z.d a + i) (by omega)
    rw [(key c i hi).1, BW hi] at h1
    rw [(key c i hi).2, BG] at h2
    exact h1.trans h2.symm
  · intro h
    refine ⟨u, Cy (fun i hi => ?_) fun i hi => ?_⟩
    · rw [(key u i hi).1, BW hi]; exact Cg.refl _ _
    · rw [(key u i hi).2, BG]; exact (h i hi).symm
theorem Rr.fwd (R : Rr Z a b N w) (hab : a ≤ b) (hb : Z.back b = false) (h1 : ∀ m, m < N → ∀ i, i < Z.d a → Cg Z.p (V m i) (w m i)) (h2 : ∀ m, m < N → ∀ i, i < Z.d (b + 1) → Cg Z.p (V m (Z.d a + i)) (ap (Z.mat b) (Z.d b) (fun j => w m (Z.d a + j)) i)) (S : Sp Z.p (Z.d a + Z.d (b + 1)) N' w' N V) : Rr Z a (b + 1) N' w' := by
  intro u y
  rw [S, Vt hab hb]
  have e1 : ∀ c i, i < Z.d a → Cg Z.p (Bj N ty c V i) (Bj N ty c w i) := fun c i hi => Cg.sm fun m hm => (Cg.refl _ (c m)).mul (h1 m hm i hi)
  have e2 : ∀ c i, i < Z.d (b + 1) → Cg Z.p (Bj N ty c V (Z.d a + i)) (ap (Z.mat b) (Z.d b) (fun j => Bj N ty c w (Z.d a + j)) i) := fun c i hi => by
    refine Cg.trans (Cg.sm fun m hm => (Cg.refl _ (c m)).mul (h2 m hm i hi)) (Cg.of_eq ?_)
    exact (FY (Z.mat b) (Z.d b) N ty c (fun l j => w l (Z.d a + j)) i).symm
  constructor
  · rintro ⟨c, hc⟩
    refine ⟨fun j => Bj N ty c w (Z.d a + j), (R u _).1 ⟨c, Cy (fun i hi => ?_) fun i hi => ?_⟩, fun i hi => ?_⟩
    · have := hc i (by omega)
      rw [BW hi] at this
      rw [BW hi]
      exact this.trans (e1 c i hi)
    · rw [BG]; exact Cg.refl _ _
    · have := hc (Z.d a + i) (by omega)
      rw [BG] at this
      exact (this.trans (e2 c i hi)).symm
  · rintro ⟨x, hx, hy⟩
    obtain ⟨c, hc⟩ := (R u x).2 hx
    refine ⟨c, Cy (fun i hi => ?_) fun i hi => ?_⟩
    · have := hc i (by omega)
      rw [BW hi] at this
      rw [BW hi]
      exact this.trans (e1 c i hi).symm
    · rw [BG]
      refine Cg.trans ?_ (e2 c i hi).symm
      refine (hy i hi).symm.trans (EC (fun j hj => ?_) i)
      have := hc (Z.d a + j) (by omega)
      rwa [BG] at this
def Bwr (p : Int) (e f nb : Nat) (wb : Nat → Nat → Int) (no : Nat) (wo : Nat → Nat → Int) (y : Nat → Int) : Prop := ∃ z, Spn p no ty f wo z ∧ Spn p nb ty (e + f) wb fun i => y i - Ej e (fun _ => 0) z i
theorem U8 (p : Int) (e f nb : Nat) (wb : Nat → Nat → Int) (no : Nat) (wo : Nat → Nat → Int) : Sub p (e + f) (Bwr p e f nb wb no wo) := by
  have So := CR p no f ty wo
  have Sb := CR p nb (e + f) ty wb
  refine ⟨⟨fun _ => 0, So.zero, Sb.cg _ _ (fun i _ => Cg.of_eq (by show (0 : Int) - Ej e (fun _ => 0) (fun _ => 0) i = 0; unfold Ej; simp)) Sb.zero⟩, fun x y h ⟨z, h1, h2⟩ => ⟨z, h1, Sb.cg _ _ (fun i hi => (h i hi).sub (Cg.refl _ _)) h2⟩, fun x y c ⟨z, h1, h2⟩ ⟨z', h3, h4⟩ => ⟨fun i => z i + c * z' i, So.lin _ _ c h1 h3, Sb.cg _ _ (fun i _ => Cg.of_eq ?_) (Sb.lin _ _ c h2 h4)⟩⟩
  show x i + c * y i - Ej e (fun _ => 0) (fun i => z i + c * z' i) i = x i - Ej e (fun _ => 0) z i + c * (y i - Ej e (fun _ => 0) z' i)
  rw [Int.mul_sub]
  unfold Ej
  split
  · rw [Int.mul_zero]; omega
  · show _ - (z (i - e) + c * z' (i - e)) = _; omega
theorem VS {z : Nat → Int} (h : Spn p nb ty (e + f) wb z) : Bwr p e f nb wb no wo z := by
  have So := CR p no f ty wo
  have Sb := CR p nb (e + f) ty wb
  exact ⟨fun _ => 0, So.zero, Sb.cg _ _ (fun i _ => Cg.of_eq (by show z i - Ej e (fun _ => 0) (fun _ => 0) i = z i; unfold Ej; simp)) h⟩
theorem UB {nb' : Nat} {wb' : Nat → Nat → Int} {v : Nat → Int} (h : ∀ y, Spn p nb' ty (e + f) wb' y ↔ Exw (Spn p nb ty (e + f) wb) v y) (y : Nat → Int) : Bwr p e f nb' wb' no wo y ↔ Exw (Bwr p e f nb wb no wo) v y := by
  have Sb := CR p nb (e + f) ty wb
  constructor
  · rintro ⟨z, h1, h2⟩
    obtain ⟨c, hc⟩ := (h _).1 h2
    exact ⟨c, z, h1, Sb.cg _ _ (fun i _ => Cg.of_eq (by show y i - c * v i - _ = y i - _ - c * v i; omega)) hc⟩
  · rintro ⟨c, z, h1, h2⟩
    exact ⟨z, h1, (h _).2 ⟨c, Sb.cg _ _ (fun i _ => Cg.of_eq (by show y i - _ - c * v i = y i - c * v i - _; omega)) h2⟩⟩
theorem UU {no' : Nat} {wo' : Nat → Nat → Int} {v : Nat → Int} (h : ∀ y, Spn p no' ty f wo' y ↔ Exw (Spn p no ty f wo) (fun i => v (e + i)) y) (h0 : ∀ i, i < e → Cg p (v i) 0) (y : Nat → Int) : Bwr p e f nb wb no' wo' y ↔ Exw (Bwr p e f nb wb no wo) v y := by
  have Sb := CR p nb (e + f) ty wb
  have Sb' := CR p no f ty wo
  have k : ∀ c z i, i < e + f → Cg p (y i - Ej e (fun _ => 0) z i) (y i - c * v i - Ej e (fun _ => 0) (fun i => z i - c * v (e + i)) i) := fun c z => Cy (fun i hi => by
    rw [BW hi, BW hi]
    have := (Cg.refl p (y i)).sub ((Cg.refl p c).mul (h0 i hi))
    rw [Int.mul_zero, Int.sub_zero] at this
    exact (this.sub (Cg.refl p 0)).symm) fun i hi => by
      rw [BG, BG]
      exact Cg.of_eq (by omega)
  constructor
  · rintro ⟨z, h1, h2⟩
    obtain ⟨c, hc⟩ := (h _).1 h1
    exact ⟨c, _, hc, Sb.cg _ _ (fun i hi => (k c z i hi).symm) h2⟩
  · rintro ⟨c, z, h1, h2⟩
    refine ⟨fun i => z i + c * v (e + i), (h _).2 ⟨c, Sb'.cg _ _ (fun i _ => Cg.of_eq (by show z i + c * v (e + i) - c * v (e + i) = z i; omega)) h1⟩, Sb.cg _ _ (fun i hi => (k c _ i hi).trans (Cg.of_eq ?_)) h2⟩
    congr 1
    unfold Ej
    split
    · rfl
    · show z (i - e) + c * v (e + (i - e)) - c * v (e + (i - e)) = _; omega
theorem Rr.bwd {pb : Nat → Nat} (R : Rr Z a b N w) (hab : a ≤ b) (hb : Z.back b = true)
    (h1 : ∀ m, m < N → ∀ i, i < Z.d b + (Z.d a + Z.d (b + 1)) → Cg Z.p (V m i) (Ej (Z.d b) (fun i => w m (Z.d a + i)) (Ej (Z.d a) (w m) fun _ => 0) i))
    (h2 : ∀ j, j < Z.d (b + 1) → ∀ i, i < Z.d b + (Z.d a + Z.d (b + 1)) → Cg Z.p (V (N + j) i) (Ej (Z.d b) (fun i => -Z.mat b i j) (Ej (Z.d a) (fun _ => 0) fun i => if i = j then 1 else 0) i))
    (Rb : Rows Z.p (Z.d b + (Z.d a + Z.d (b + 1))) nb wb pb) (hpl : ∀ l, l < nb → pb l < Z.d b)
    (S : ∀ y, Bwr Z.p (Z.d b) (Z.d a + Z.d (b + 1)) nb wb no wo y ↔ Spn Z.p (N + Z.d (b + 1)) ty (Z.d b + (Z.d a + Z.d (b + 1))) V y) : Rr Z a (b + 1) no wo := by
  intro u y
  rw [UW hab hb, ← R u]
  -- sums of the family
  have e1 : ∀ c i, i < Z.d b → Cg Z.p (Bj (N + Z.d (b + 1)) ty c V i) (Bj N ty c w (Z.d a + i) - ap (Z.mat b) (Z.d (b + 1)) (fun j => c (N + j)) i) := fun c i hi => by
    show Cg Z.p (sm (N + Z.d (b + 1)) fun l => c l * V l i) _
    rw [El]
    have k1 : Cg Z.p (sm N fun l => c l * V l i) (Bj N ty c w (Z.d a + i)) := Cg.sm fun m hm => (Cg.refl _ (c m)).mul (by
      have := h1 m hm i (by omega); rwa [BW hi] at this)
    have k2 : Cg Z.p (sm (Z.d (b + 1)) fun j => c (N + j) * V (N + j) i) (sm (Z.d (b + 1)) fun j => (-1) * (Z.mat b i j * c (N + j))) := Cg.sm fun j hj => by
      have := (Cg.refl Z.p (c (N + j))).mul (h2 j hj i (by omega))
      rw [BW hi] at this
      refine this.trans (Cg.of_eq ?_)
      rw [Int.mul_neg, Int.neg_one_mul, Int.mul_comm]
    refine (k1.add k2).trans (Cg.of_eq ?_)
    rw [Cb, Int.neg_one_mul]; rfl
  have e2 : ∀ c i, i < Z.d a → Cg Z.p (Bj (N + Z.d (b + 1)) ty c V (Z.d b + i)) (Bj N ty c w i) := fun c i hi => by
    show Cg Z.p (sm (N + Z.d (b + 1)) fun l => c l * V l (Z.d b + i)) _
    rw [El]
    have k1 : Cg Z.p (sm N fun l => c l * V l (Z.d b + i)) (Bj N ty c w i) := Cg.sm fun m hm => (Cg.refl _ (c m)).mul (by
      have := h1 m hm (Z.d b + i) (by omega); rwa [BG, BW hi] at this)
    have k2 : Cg Z.p (sm (Z.d (b + 1)) fun j => c (N + j) * V (N + j) (Z.d b + i)) (sm (Z.d (b + 1)) fun j => 0) := Cg.sm fun j hj => by
      have := (Cg.refl Z.p (c (N + j))).mul (h2 j hj (Z.d b + i) (by omega))
      rw [BG, BW hi, Int.mul_zero] at this
      exact this
    refine (k1.add k2).trans (Cg.of_eq ?_)
    rw [CS]; omega
  have e3 : ∀ c i, i < Z.d (b + 1) → Cg Z.p (Bj (N + Z.d (b + 1)) ty c V (Z.d b + (Z.d a + i))) (c (N + i)) := fun c i hi => by
    show Cg Z.p (sm (N + Z.d (b + 1)) fun l => c l * V l (Z.d b + (Z.d a + i))) _
    rw [El]
    have k1 : Cg Z.p (sm N fun l => c l * V l (Z.d b + (Z.d a + i))) (sm N fun _ => 0) := Cg.sm fun m hm => by
      have := (Cg.refl Z.p (c m)).mul (h1 m hm (Z.d b + (Z.d a + i)) (by omega))
      rw [BG, BG, Int.mul_zero] at this
      exact this
    have k2 : Cg Z.p (sm (Z.d (b + 1)) fun j => c (N + j) * V (N + j) (Z.d b + (Z.d a + i))) (sm (Z.d (b + 1)) fun j => if j = i then c (N + j) else 0) := Cg.sm fun j hj => by
      have := (Cg.refl Z.p (c (N + j))).mul (h2 j hj (Z.d b + (Z.d a + i)) (by omega))
      rw [BG, BG] at this
      refine this.trans (Cg.of_eq ?_)
      by_cases e : j = i
      · rw [if_pos e, if_pos e.symm, Int.mul_one]
      · rw [if_neg e, if_neg (fun h => e h.symm), Int.mul_zero]
    refine (k1.add k2).trans (Cg.of_eq ?_)
    rw [CS, DP (Z.d (b + 1)) i (fun j => c (N + j)) hi]; omega
  have So := CR Z.p no (Z.d a + Z.d (b + 1)) ty wo
  have Sb := CR Z.p nb (Z.d b + (Z.d a + Z.d (b + 1))) ty wb
  constructor
  · intro h
    have hW : Bwr Z.p (Z.d b) (Z.d a + Z.d (b + 1)) nb wb no wo (Ej (Z.d b) (fun _ => 0) (Ej (Z.d a) u y)) := ⟨_, h, Sb.cg _ _ (fun i _ => Cg.of_eq (by omega)) Sb.zero⟩
    obtain ⟨c, hc⟩ := (S _).1 hW
    refine ⟨c, Cy (fun i hi => ?_) fun i hi => ?_⟩
    · have := hc (Z.d b + i) (by omega)
      rw [BG, BW hi] at this
      rw [BW hi]
      exact this.trans (e2 c i hi)
    · have h3 := hc i (by omega)
      rw [BW hi] at h3
      rw [BG]
      have h4 : Cg Z.p (ap (Z.mat b) (Z.d (b + 1)) y i) (ap (Z.mat b) (Z.d (b + 1)) (fun j => c (N + j)) i) := EC (fun j hj => by
        have := hc (Z.d b + (Z.d a + j)) (by omega)
        rw [BG, BG] at this
        exact this.trans (e3 c j hj)) i
      have h5 := (h3.trans (e1 c i hi)).add h4
      exact (Cg.of_eq (Int.zero_add _).symm).trans (h5.trans (Cg.of_eq (by omega)))
  · rintro ⟨c, hc⟩
    -- the coefficients c of the rows, y of the units
    let c' : Nat → Int := fun l => if l < N then c l else y (l - N)
    have hcl : ∀ l, l < N → c' l = c l := fun l hl => if_pos hl
    have hcr : ∀ j, c' (N + j) = y j := fun j => by
      show (if N + j < N then _ else y (N + j - N)) = _
      rw [if_neg (by omega)]; congr 1; omega
    have hw : ∀ i, Bj N ty c' w i = Bj N ty c w i := fun i => AE fun l hl => by rw [hcl l hl]
    have hV : Spn Z.p (N + Z.d (b + 1)) ty (Z.d b + (Z.d a + Z.d (b + 1))) V (Ej (Z.d b) (fun _ => 0) (Ej (Z.d a) u y)) := by
      refine ⟨c', Cy (fun i hi => ?_) (Cy (fun i hi => ?_) fun i hi => ?_)⟩
      · rw [BW hi]
        refine Cg.trans ?_ (e1 c' i hi).symm
        rw [hw, show (fun j => c' (N + j)) = y from funext hcr]
        have := hc (Z.d a + i) (by omega)
        rw [BG] at this
        exact ((this.symm.sub (Cg.refl _ (ap (Z.mat b) (Z.d (b + 1)) y i))).trans (Cg.of_eq (by omega))).symm
      · rw [BG, BW hi]
        refine Cg.trans ?_ (e2 c' i hi).symm
        rw [hw]
        have := hc i (by omega)
        rwa [BW hi] at this
      · rw [BG, BG]
        refine Cg.trans ?_ (e3 c' i hi).symm
        rw [hcr]; exact Cg.refl _ _
    obtain ⟨z, hz, hs⟩ := (S _).2 hV
    have h0 := Rb.out (fun k hk => by
      rw [BW (hpl k hk), BW (hpl k hk)]; exact Cg.refl _ _) hs
    refine So.cg _ _ (fun i hi => ?_) hz
    have := h0 (Z.d b + i) (by omega)
    rw [BG, BG] at this
    exact (Cg.of_eq (by omega)).trans ((this.add (Cg.refl _ (z i))).trans (Cg.of_eq (by omega)))
theorem Rr.rank {D : Dc} {nw : Nat} {pl pw : Nat → Nat} {ww : Nat → Nat → Int} (F : Fld Z.p) (VD : Valid Z D) (R : Rr Z a b N w) (hab : a ≤ b) (hb : b < Z.n) (Rw : Rows Z.p (Z.d a + Z.d b) N w pl) (Rs : Rows Z.p (Z.d b) nw ww pw) (S : Sp Z.p (Z.d b) nw ww N fun m j => w m (Z.d a + j)) :
    nw = cnt D.N (D.cov a b) + cnt N fun m => decide (Z.d a ≤ pl m) := by
  have hty : ∀ n, cnt n ty = n := fun n => by
    induction n with
    | zero => rfl
    | succ n ih => rw [BO, ih]; rfl
  have himR : ∀ y, Spn Z.p nw ty (Z.d b) ww y → Im Z a b y := fun y hy => by
    obtain ⟨c, hc⟩ := (S y).1 hy
    obtain ⟨x, T, _, h2⟩ := (R (fun i => Bj N ty c w i) y).1 ⟨c, Cy (fun i hi => by rw [BW hi]; exact Cg.refl _ _) fun i hi => by rw [BG]; exact hc i hi⟩
    exact ⟨x, T, h2⟩
  have himL : ∀ y, Im Z a b y → Spn Z.p nw ty (Z.d b) ww y := fun y ⟨x, T, h⟩ => by
    obtain ⟨c, hc⟩ := (R (x a) y).2 ⟨x, T, fun i _ => Cg.refl _ _, h⟩
    refine (S y).2 ⟨c, fun i hi => ?_⟩
    have := hc (Z.d a + i) (by omega)
    rw [BG] at this; exact this
  have o1 : ∀ l, l < D.N → D.s1 Z a b l = true → D.on b l = true := fun l _ h => by unfold Dc.s1 at h; simp only [Bool.and_eq_true] at h; exact h.1
  have o0 : ∀ l, l < D.N → D.s0 Z a b l = true → D.on b l = true := fun l _ h => by unfold Dc.s0 at h; simp only [Bool.and_eq_true] at h; exact h.1
  have n1 : nw ≤ cnt D.N (D.s1 Z a b) := by
    have := CA F Rs.ind fun l hl _ => MG F VD hab hb (himR _ (Spn.self hl rfl))
    rwa [hty] at this
  have n2 : cnt D.N (D.s1 Z a b) ≤ nw := by
    have := CA F ((VD.ind b hb).sub o1) fun l hl h => himL _ (M8 VD hb (Spn.self hl h))
    rwa [hty] at this
  -- what is related to 0
  have hlow : ∀ m, m < N → Z.d a ≤ pl m → ∀ i, i < Z.d a → w m i = 0 := fun m hm h i hi => Rw.low m hm i (by omega)
  have hker : ∀ y, Wd Z a b y → Spn Z.p N (fun m => decide (Z.d a ≤ pl m)) (Z.d b) (fun m j => w m (Z.d a + j)) y := fun y ⟨x, T, h0, h2⟩ => by
    obtain ⟨c, hc⟩ := (R (fun _ => 0) y).2 ⟨x, T, h0, h2⟩
    have hz : ∀ l, l < N → pl l < Z.d a → Z.p ∣ c l := fun l => by
      induction l using Nat.strongRecOn with
      | ind l ih =>
        intro hl hpl
        have h := Rw.coef (c := c) hl fun k hk => ih k hk (by omega) (by have := Rw.inc k l hk hl; omega)
        have h' := hc (pl l) (by omega)
        rw [BW hpl] at h'
        exact cg_dvd.1 (h.symm.trans h'.symm)
    refine ⟨c, fun i hi => ?_⟩
    have h := hc (Z.d a + i) (by omega)
    rw [BG] at h
    refine h.trans (Cg.sm fun l hl => ?_)
    show Cg Z.p (c l * w l (Z.d a + i)) _
    by_cases hp : Z.d a ≤ pl l
    · rw [if_pos (decide_eq_true hp)]; exact Cg.refl _ _
    · rw [if_neg (by simpa using hp)]
      exact cg_dvd.2 (Int.dvd_mul_of_dvd_left (hz l hl (by omega)))
  have hcut : ∀ (c : Nat → Int) (i : Nat), i < Z.d a → Bj N (fun m => decide (Z.d a ≤ pl m)) c w i = 0 := fun c i hi => CL fun l hl => by
    by_cases hp : Z.d a ≤ pl l
    · rw [if_pos (decide_eq_true hp), hlow l hl hp i hi, Int.mul_zero]
    · rw [if_neg (by simpa using hp)]
  have hself : ∀ l, l < N → decide (Z.d a ≤ pl l) = true → Wd Z a b fun j => w l (Z.d a + j) := fun l hl h => by
    obtain ⟨x, T, h1, h2⟩ := (R (w l) fun j => w l (Z.d a + j)).1 (by rw [Tk]; exact Spn.self hl rfl)
    exact ⟨x, T, fun i hi => by rw [← hlow l hl (of_decide_eq_true h) i hi]; exact h1 i hi, h2⟩
  have hind : Ind Z.p N (fun m => decide (Z.d a ≤ pl m)) (Z.d b) fun m j => w m (Z.d a + j) := by
    intro c hc
    refine (Rw.ind.sub (b' := fun m => decide (Z.d a ≤ pl m)) fun _ _ _ => rfl) c (Cy (fun i hi => ?_) fun i hi => hc i hi)
    rw [hcut c i hi]; exact Cg.refl _ _
  have n3 := CA F hind fun l hl h => No F VD hab hb (hself l hl h)
  have n4 := CA F ((VD.ind b hb).sub o0) fun l hl h => hker _ (N8 VD hb (Spn.self hl h))
  have hc := cover F VD hab hb
  omega
end
end Go.Lin
namespace Go.Eng
open Go.RowKit
section
variable {P : Program} {o : Oper} {s : Ay} {h : Hp} {ms : List Hp} {e : Entry} {Q : Exit → Act → World → Prop} {ops : Array Oper} {rest : List Oper}
theorem Hz {w0 w : World} {h0 h : Hp} {ms0 ms : List Hp} {m : Hp} (H : Ends w0 h0 ms0 w h (m :: ms)) (t u ty el : TypeId) {sz : Nat} {z : Value} {bytes : Nat} (ht : P.underlying t = some (.slice el)) (hu : P.underlying u = some (.int .i64)) (hs : Elem P el sz z bytes) (hzs : z.cells.size = sz) (hsz : 0 < sz)
    {v : Value} {n k : Nat} {cs : List Value} (O : Own el sz m v n cs) (h1 : ∀ u ∈ (Builtin.zeroCells z.cells k).toList, u.oneCell' = true) (hb : (n + k) * bytes ≤ 140737488355328) (hb63 : n + k ≤ 9223372036854775807) :
    ∃ v' w' m', (Builtin.append_ #[t, u] ty #[v, .int .i64 k]).run P w = .ok v' w' ∧ Own el sz m' v' (n + k) (cs ++ (Builtin.zeroCells z.cells k).toList) ∧ Ends w0 h0 ms0 w' h (m' :: ms) := by
  obtain ⟨hcl, hO⟩ := O
  obtain ⟨i, hi, hz, his, hib⟩ := hs.info
  have hzl : ∀ N, (Builtin.zeroCells z.cells N).toList.length = N * sz := fun N => by rw [Array.length_toList, size_zeroCells, hzs]
  have hwr : IntKind.i64.wrap ((k : Nat) : Int) = (k : Int) := C0 (by omega)
  have hk0 : ¬ ((k : Int) < 0) := by omega
  have hkb : k * i.bytes ≤ 140737488355328 := Nat.le_trans (Nat.mul_le_mul_right _ (Nat.le_add_left k n)) (by rw [hib]; exact hb)
  have hk48 : ¬ (281474976710656 < (k : Int) * (i.bytes : Int)) := by
    have : ((k * i.bytes : Nat) : Int) ≤ 140737488355328 := by omega
    rw [Int.natCast_mul] at this; omega
  have hw0 : IntKind.i64.wrap 0 = 0 := C0 (by omega)
  rcases Nat.eq_zero_or_pos k with rfl | hk
  · have hnews : (Builtin.zeroCells z.cells 0).toList = [] := List.eq_nil_of_length_eq_zero (by rw [hzl]; simp)
    rw [hnews]
    rcases hO with ⟨rfl, rfl, rfl⟩ | ⟨g, cap, spare, rfl, rfl, e1, e2, e3⟩
    · refine ⟨_, w, _, ?_, ⟨by simpa using hcl, .inl ⟨rfl, rfl, rfl⟩⟩, H⟩
      simp [Builtin.append_, run_underlying ht, run_underlying hu, hs.sizeOf, asInt, asIntOf, typeInfo, hi, storeCells, hw0]
    · refine ⟨_, w, _, ?_, ⟨by simpa using hcl, .inr ⟨g, cap, spare, rfl, by simp, by simpa using e1, e2, e3⟩⟩, H⟩
      simp [Builtin.append_, run_underlying ht, run_underlying hu, hs.sizeOf, asInt, asIntOf, typeInfo, hi, storeCells, hw0, e2]
  · have hcap : ∀ old, grownCap w (n + k) old el ≤ 9223372036854775807 ∧ n + k ≤ grownCap w (n + k) old el := fun old =>
      ⟨grownCap_le_maxLen w (n + k) old el (by simp only [maxLen]; omega), grownCap_ge w (n + k) old el⟩
    have hks : ¬ (k * sz = 0) := by
      have := Nat.mul_pos hk hsz; omega
    have hk0' : k ≠ 0 := by omega
    have hsz' : sz ≠ 0 := by omega
    rcases hO with ⟨rfl, rfl, rfl⟩ | ⟨g, cap, spare, rfl, rfl, e1, e2, e3⟩
    · have hc0 : cs = [] := List.eq_nil_of_length_eq_zero (by simpa using hcl)
      subst hc0
      simp only [Nat.zero_add, List.nil_append] at *
      have h48' : ¬ (281474976710656 < Builtin.nextslicecap k 0 * i.bytes) := by rw [nextslicecap_zero hk]; omega
      have h63' : ¬ (9223372036854775807 < (k : Int)) := by omega
      refine ⟨_, w.drew.alloc (.cells (Builtin.zeroCells z.cells k ++ Builtin.zeroCells z.cells (grownCap w k 0 el - k)) el), _, ?_, ⟨hzl k, .inr ⟨w.heap.size, grownCap w k 0 el, (Builtin.zeroCells z.cells (grownCap w k 0 el - k)).toList, rfl, rfl, ?_, (hcap 0).2, (hcap 0).1⟩⟩, ?_⟩
      · simp [Builtin.append_, run_underlying ht, run_underlying hu, hs.sizeOf, asInt, asIntOf, typeInfo, zeroValue, hi, hz, hwr, hk0, hk48, hks, hk0', h63', h48', Question.forced, run_firstCells_none, newRow, grownCap]
      · rw [List.length_append, hzl, hzl, ← Nat.add_mul]
        congr 1; have := (hcap 0).2; omega
      · have := Ends.alloc (Ends.drew (Ends.drop H)) (.cells (Builtin.zeroCells z.cells k ++ Builtin.zeroCells z.cells (grownCap w k 0 el - k)) el)
        have e : ((Builtin.zeroCells z.cells k).toList ++ (Builtin.zeroCells z.cells (grownCap w k 0 el - k)).toList).toArray = Builtin.zeroCells z.cells k ++ Builtin.zeroCells z.cells (grownCap w k 0 el - k) := by
          apply Array.ext'; simp
        unfold AX; rw [e]; exact this
    · have hgw : w.heap[g]? = some (.cells (cs ++ spare).toArray el (0, 0)) := H.st.own _ (List.mem_cons_self) g _ (Hp.one_self _ _)
      by_cases hroom : n + k ≤ cap
      · have hfit : n * sz + (Builtin.zeroCells z.cells k).toList.length ≤ (cs ++ spare).toArray.size := by
          rw [hzl, List.size_toArray, e1, ← Nat.add_mul]; exact Nat.mul_le_mul_right _ hroom
        have hst := run_storeCells_at (P := P) g (n * sz) el (Builtin.zeroCells z.cells k).toList 0 _ w hgw (by rw [Nat.add_zero]; exact hfit) h1
        refine ⟨_, w.setRow g (cs ++ (Builtin.zeroCells z.cells k).toList ++ spare.drop (k * sz)).toArray, _, ?_, ⟨by rw [List.length_append, hcl, hzl, Nat.add_mul], .inr ⟨g, cap, spare.drop (k * sz), rfl, rfl, ?_, hroom, e3⟩⟩, ?_⟩
        · have ea : (⟨g, 0, none⟩ : Addr).add (n * sz) = ⟨g, n * sz, none⟩ := by unfold Addr.add; split <;> simp_all
          have e5 : (List.take (n * sz) (cs ++ spare).toArray.toList ++ (Builtin.zeroCells z.cells k).toList ++ List.drop (n * sz + (Builtin.zeroCells z.cells k).toList.length) (cs ++ spare).toArray.toList) = cs ++ (Builtin.zeroCells z.cells k).toList ++ spare.drop (k * sz) := by
            rw [hzl, ← hcl]
            have hd : List.drop (cs.length + k * sz) (cs ++ spare) = spare.drop (k * sz) := by rw [← List.drop_drop, List.drop_left]
            simp only [List.take_left', hd, List.append_assoc]
          simp only [Nat.add_zero] at hst
          rw [e5] at hst
          simp [Builtin.append_, run_underlying ht, run_underlying hu, hs.sizeOf, asInt, asIntOf, typeInfo, zeroValue, hi, hz, hwr, hk0, hk48, hks, hroom, ea] at hst ⊢
          rw [hst]; rfl
        · rw [← e1]
          simp only [List.length_append, List.length_drop, hzl]
          have : k * sz ≤ spare.length := by
            rw [hzl, List.size_toArray, List.length_append, ← hcl] at hfit; omega
          omega
        · exact Ends.change H rfl ⟨rfl, Nat.le_refl _⟩ rfl (by simp) (setRow_heap w g _ _ _ _ hgw) (fun j hj hne => setRow_other w g j _ hne)
      · have holds : ∀ j u, cs[j]? = some u → w.cell? ((⟨g, 0, none⟩ : Addr).add j) = some u := fun j u hv => H.st.cell (Cell.blk (el := el) (l := cs ++ spare) 0 rfl (by rw [List.getElem?_append_left (List.getElem?_eq_some_iff.1 hv).1]; exact hv))
        have hfo := run_firstCells_some (P := P) w.drew sz n ⟨g, 0, none⟩ n cap cs hcl (by simpa using holds)
        have h48' : ¬ (281474976710656 < Builtin.nextslicecap (n + k) cap * i.bytes) := by
          have := growslice_fits (need := n + k) (old := cap) (bytes := bytes) (by omega) hb; rw [hib]; omega
        have h63' : ¬ (9223372036854775807 < (n : Int) + (k : Int)) := by omega
        refine ⟨_, w.drew.alloc (.cells (cs.toArray ++ Builtin.zeroCells z.cells k ++ Builtin.zeroCells z.cells (grownCap w (n + k) cap el - (n + k))) el), _, ?_, ⟨by rw [List.length_append, hcl, hzl, Nat.add_mul], .inr ⟨w.heap.size, grownCap w (n + k) cap el, (Builtin.zeroCells z.cells (grownCap w (n + k) cap el - (n + k))).toList, rfl, rfl, ?_, (hcap cap).2, (hcap cap).1⟩⟩, ?_⟩
        · simp [Builtin.append_, run_underlying ht, run_underlying hu, hs.sizeOf, asInt, asIntOf, typeInfo, zeroValue, hi, hz, hwr, hk0, hk48, hks, hroom, h63', h48', Question.forced, hfo, newRow, grownCap]
        · rw [List.length_append, List.length_append, hzl, hzl, hcl, ← Nat.add_mul, ← Nat.add_mul]
          congr 1; have := (hcap cap).2; omega
        · have := Ends.alloc (Ends.drew (Ends.drop H)) (.cells (cs.toArray ++ Builtin.zeroCells z.cells k ++ Builtin.zeroCells z.cells (grownCap w (n + k) cap el - (n + k))) el)
          have e : (cs ++ (Builtin.zeroCells z.cells k).toList ++ (Builtin.zeroCells z.cells (grownCap w (n + k) cap el - (n + k))).toList).toArray = cs.toArray ++ Builtin.zeroCells z.cells k ++ Builtin.zeroCells z.cells (grownCap w (n + k) cap el - (n + k)) := by
            apply Array.ext'; simp
          unfold AX; rw [e]; exact this
theorem Jh (v : Value) (n : Nat) : (Builtin.zeroCells #[v] n).toList = List.replicate n v := by
  refine List.ext_getElem (by simp [Builtin.zeroCells]) fun i h1 h2 => ?_
  simp [Builtin.zeroCells, Nat.mod_one]
theorem I7 {t u el : TypeId} {d : Nat} {bytes : Nat} {x y : Operand} {v : Value} {m : Hp} {l : List Int} {k : Nat} (i : Nat) (O : OwnL cI 1 el m v l) (ho : o.op = .call { callee := .builtin .append, args := #[x, y], argTypes := #[t, u] }) (ht : e.P.underlying t = some (.slice el)) (hu : e.P.underlying u = some (.int .i64)) (hs : Elem e.P el 1 (.int .i64 0) bytes)
    (hx : ev s x = some v) (hy : ev s y = some (.int .i64 k)) (hm : ms[i]? = some m) (hb : (l.length + k) * bytes ≤ 140737488355328) (hb63 : l.length + k ≤ 9223372036854775807) (hd : o.dst = some d) (hn : Nat.blt d e.n = true) (hg : o.guard = none)
    (K : ∀ v' m', OwnL cI 1 el m' v' (l ++ List.replicate k 0) → WL e ops Q rest ((d, v') :: s) h (ms.set i m')) : WL e ops Q (o :: rest) s h ms :=
  G6 (post := fun v' h' ms' => ∃ m', h' = h ∧ ms' = ms.set i m' ∧ OwnL cI 1 el m' v' (l ++ List.replicate k 0)) (fun ρ w hρ hw => by
    obtain ⟨r, p1, _⟩ := EU ms i m m hm
    have hzc : (Builtin.zeroCells (Value.int .i64 0).cells k).toList = List.replicate k (Value.int .i64 0) := Jh _ _
    obtain ⟨v', w', m', hr, hO, hE⟩ := Hz (P := e.P) (Ends.perm hw p1) t u o.type el ht hu hs rfl (by decide) O.own (k := k) (fun c hc => by rw [hzc] at hc; rw [(List.mem_replicate.1 hc).2]; rfl) hb hb63
    have : (execOp ρ o).run e.P w = .ok (.value v') w' := by
      simp [execOp, ho, hρ _ _ hx, hρ _ _ hy, resolve, invoke, builtin, hr]
    unfold OpRes; rw [this]
    obtain ⟨r', q1, q2⟩ := EU ms i m m' hm
    have pr : (m' :: r).Perm (ms.set i m') := ((List.Perm.cons_inv (p1.symm.trans q1)).cons m').trans q2.symm
    refine ⟨h, _, Ends.perm hE pr, m', rfl, rfl, ⟨?_, O.len⟩⟩
    rw [hzc] at hO
    rw [List.length_append, List.length_replicate, List.flatMap_append]
    have e2 : (List.replicate k (0 : Int)).flatMap cI = List.replicate k (Value.int .i64 0) := by
      induction k with
      | zero => rfl
      | succ k ih => rw [List.replicate_succ, List.flatMap_cons, List.replicate_succ]; simp [cI, List.flatMap_replicate]
    rw [e2]; exact hO) hd hn hg fun v' h' ms' ⟨m', e1, e2, e3⟩ => by subst e1 e2; exact K v' m' e3
end
end Go.Eng
namespace Go.Eng
open Go.RowKit Go.Lin
section
variable {e : Entry} {Q : Exit → Act → World → Prop} {ops : Array Oper} {rest : List Oper} {o : Oper} {s : Ay} {h : Hp} {ms : List Hp}
end
end Go.Eng
namespace Go.Eng
open Go.RowKit
theorem Lb {α : Type} {P E S vl : List α} {p off n : Nat} (hP : P.length = p) (hn : vl.length = n) (hE : off + n ≤ E.length) : (P ++ (E ++ S)).take (p + off) ++ vl ++ (P ++ (E ++ S)).drop (p + off + n) = P ++ ((E.take off ++ vl ++ E.drop (off + n)) ++ S) := by
  subst hP
  rw [Nat.add_assoc, List.take_length_add_append, List.drop_length_add_append, List.take_append_of_le_length (by omega), List.drop_append_of_le_length (by omega)]
  simp only [List.append_assoc]
section
variable {e : Entry} {Q : Exit → Act → World → Prop} {ops : Array Oper} {rest : List Oper} {o : Oper} {s : Ay} {h : Hp} {ms : List Hp} {α : Type} {F : α → List Value} {l : List α} {v : Value} {m : Hp} {el : TypeId} {sz : Nat}
theorem wl_storePart {t : TypeId} {x y : Operand} {u z : Value} {bytes n : Nat} (i j off : Nat) (a : α) (vl : List Value) (O : OwnL F sz el m v l) (ho : o.op = .store t x y) (hs : Elem e.P t n z bytes) (hx : ev s x = some (.pointer (some (((Bl v).add (j * sz)).add off)))) (hy : ev s y = some u) (hv : u.cells = vl.toArray) (hl : vl.length = n) (h1 : ∀ c ∈ vl, c.oneCell' = true)
    (hm : ms[i]? = some m) (hj : j < l.length) (hoff : off + n ≤ sz) (hFa : F a = (F l[j]).take off ++ vl ++ (F l[j]).drop (off + n)) (hd : o.dst = none) (hg : o.guard = none)
    (K : ∀ m', OwnL F sz el m' v (l.set j a) → WL e ops Q rest s h (ms.set i m')) : WL e ops Q (o :: rest) s h ms := by
  obtain ⟨⟨h2, h3⟩, hF⟩ := O
  rcases h3 with ⟨rfl, h4, rfl⟩ | ⟨g, cap, spare, rfl, rfl, e1, e2, e3⟩
  · rw [h4] at hj; simp at hj
  · have hle : (j + 1) * sz ≤ l.length * sz := Nat.mul_le_mul_right sz hj
    have hjs : (j + 1) * sz = j * sz + sz := by rw [Nat.add_mul, Nat.one_mul]
    have hx' : ev s x = some (.pointer (some ((⟨g, 0, none⟩ : Addr).add (j * sz + off)))) := by
      rw [hx]
      show some (Value.pointer (some (((⟨g, 0, none⟩ : Addr).add (j * sz)).add off))) = _
      rw [A6]
    have hP : ((l.take j).flatMap F).length = j * sz := by rw [BL hF, List.length_take, Nat.min_eq_left (Nat.le_of_lt hj)]
    have hsp : l.flatMap F ++ spare = (l.take j).flatMap F ++ (F l[j] ++ ((l.drop (j + 1)).flatMap F ++ spare)) := by
      have e0 : l.flatMap F = (l.take j).flatMap F ++ (F l[j] ++ (l.drop (j + 1)).flatMap F) := by
        have e1 : l = l.take j ++ l[j] :: l.drop (j + 1) := by rw [← List.drop_eq_getElem_cons hj, List.take_append_drop]
        have e2 := congrArg (fun q => q.flatMap F) e1
        simp only [List.flatMap_append, List.flatMap_cons] at e2
        exact e2
      rw [e0]; simp only [List.append_assoc]
    have hst : (l.set j a).flatMap F ++ spare = (l.take j).flatMap F ++ (F a ++ ((l.drop (j + 1)).flatMap F ++ spare)) := by
      rw [List.set_eq_take_append_cons_drop, if_pos hj, List.flatMap_append, List.flatMap_cons]; simp only [List.append_assoc]
    have hlen : (l.flatMap F ++ spare).length = l.length * sz + spare.length := by rw [List.length_append, BL hF]
    refine L7 i (j * sz + off) vl ho hs hx' hy hv hl h1 hm (by omega) hd hg ?_
    have key : (l.flatMap F ++ spare).take (j * sz + off) ++ vl ++ (l.flatMap F ++ spare).drop (j * sz + off + n) = (l.set j a).flatMap F ++ spare := by
      rw [hsp, hst, hFa]
      exact Lb hP hl (by rw [hF]; exact hoff)
    rw [key]
    refine K _ ⟨⟨?_, .inr ⟨g, cap, spare, by rw [List.length_set], rfl, ?_, by rw [List.length_set]; omega, e3⟩⟩, hF⟩
    · rw [BL hF, List.length_set]
    · rw [List.length_append, BL hF, List.length_set, ← BL hF l, ← List.length_append]; exact e1
end
end Go.Eng
namespace Go.Eng
open Go.RowKit
variable {el : TypeId}
def Hp.rm (m : Hp) (g : Nat) : Hp := fun k => if k = g then none else m k
theorem Hp.rm_disj (m : Hp) (g : Nat) (o : Obj) : (Hp.one g o).disj (m.rm g) := fun k => by
  unfold Hp.one Hp.rm
  by_cases h : k = g
  · exact .inr (if_pos h)
  · exact .inl (if_neg h)
theorem Hp.rm_join {m : Hp} {g : Nat} {o : Obj} (h : m g = some o) : (Hp.one g o).join (m.rm g) = m := by
  funext k
  unfold Hp.join Hp.one Hp.rm
  by_cases e : k = g
  · subst e; rw [if_pos rfl, h]
  · rw [if_neg e, if_neg e]
def IsI (l : List Value) (k : Nat) : Prop := ∃ n, l[k]? = some (.int .i64 n)
def SimI (el : TypeId) (m m' : Hp) : Prop := ∀ g o, m g = some o → m' g = some o ∨ ∃ l l' : List Value, o = .cells l.toArray el (0, 0) ∧ m' g = some (.cells l'.toArray el (0, 0)) ∧ l'.length = l.length ∧ ∀ k, IsI l k → IsI l' k
theorem SimI.refl (el : TypeId) (m : Hp) : SimI el m m := fun _ _ h => .inl h
theorem SimI.trans {a b c : Hp} (h1 : SimI el a b) (h2 : SimI el b c) : SimI el a c := fun g o ho => by
  rcases h1 g o ho with h | ⟨l, l', rfl, h, e, hk⟩
  · exact h2 g o h
  · rcases h2 g _ h with h' | ⟨l2, l3, e2, h', e3, hk'⟩
    · exact .inr ⟨l, l', rfl, h', e, hk⟩
    · have : l' = l2 := by
        injection e2 with e2 _ _
        exact Array.toList_inj.2 e2
      subst this
      exact .inr ⟨l, l3, rfl, h', by rw [e3, e], fun k h => hk' k (hk k h)⟩
theorem SimI.put {m : Hp} {g : Nat} {l : List Value} (h : m g = some (.cells l.toArray el (0, 0))) (k : Nat) (n : Int) : SimI el m ((AX g el (l.set k (.int .i64 n))).join (m.rm g)) := fun g' o ho => by
  by_cases e : g' = g
  · subst e
    rw [h] at ho
    refine .inr ⟨l, l.set k (.int .i64 n), (Option.some.inj ho).symm, ?_, List.length_set, fun j ⟨x, hx⟩ => ?_⟩
    · show (AX _ _ _ : Hp).join _ _ = _
      unfold Hp.join AX Hp.one
      rw [if_pos rfl]
    · unfold IsI
      by_cases ej : k = j
      · subst ej
        have hl : k < l.length := (List.getElem?_eq_some_iff.1 hx).1
        exact ⟨n, by rw [List.getElem?_set_self hl]⟩
      · exact ⟨x, by rw [List.getElem?_set_ne ej]; exact hx⟩
  · refine .inl ?_
    show (AX _ _ _ : Hp).join _ _ = _
    unfold Hp.join AX Hp.one Hp.rm
    rw [if_neg e, if_neg e]; exact ho
theorem OwnL.sim {m0 m y : Hp} {u : Value} {c : List Int} (O : OwnL cI 1 el y u c) (hy : y.le m0) (hs : SimI el m0 m) : ∃ y' c', y'.le m ∧ OwnL cI 1 el y' u c' ∧ c'.length = c.length := by
  have O0 := O
  obtain ⟨⟨h2, h3⟩, hF⟩ := O
  rcases h3 with ⟨rfl, h4, rfl⟩ | ⟨g, cap, spare, rfl, rfl, e1, e2, e3⟩
  · exact ⟨Hp.emp, c, (fun g o h => nomatch h), O0, rfl⟩
  · have hg := hy g _ (Hp.one_self _ _)
    rcases hs g _ hg with h | ⟨l, l', e, h, el2, hk⟩
    · refine ⟨_, c, fun g' o ho => ?_, O0, rfl⟩
      unfold AX Hp.one at ho
      split at ho
      · rename_i e; subst e; rw [h]; exact ho
      · cases ho
    · have e0 : c.flatMap cI ++ spare = l := by
        injection e with e _ _
        exact Array.toList_inj.2 e
      have hlen : (c.flatMap cI ++ spare).length = c.length * 1 + spare.length := by rw [List.length_append, BL hF]
      have hI : ∀ k, k < c.length → ∃ n, l'[k]? = some (.int .i64 n) := fun k hkl => hk k ⟨c[k], by
        rw [← e0]
        have := Ey hF c k hkl 0 (.int .i64 c[k]) rfl
        rw [List.getElem?_append_left (by rw [BL hF]; omega)]
        simpa using this⟩
      have hex : ∀ k, ∃ n, k < c.length → l'[k]? = some (.int .i64 n) := fun k => by
        by_cases h : k < c.length
        · obtain ⟨n, hn⟩ := hI k h; exact ⟨n, fun _ => hn⟩
        · exact ⟨0, fun h' => absurd h' h⟩
      obtain ⟨f, hf⟩ := Classical.axiomOfChoice hex
      have hl' : l'.length = c.length + spare.length := by rw [el2, ← e0, hlen]; omega
      have hsplit : l' = ((List.range c.length).map f).flatMap cI ++ l'.drop c.length := by
        refine List.ext_getElem? fun k => ?_
        have hL : (((List.range c.length).map f).flatMap cI).length = c.length := by rw [BL hF]; simp
        by_cases h : k < c.length
        · rw [hf k h, List.getElem?_append_left (by rw [hL]; exact h)]
          have := Ey hF ((List.range c.length).map f) k (by simpa using h) 0 (.int .i64 (f k)) (by simp [cI])
          simpa using this.symm
        · rw [List.getElem?_append_right (by rw [hL]; omega), hL, List.getElem?_drop]
          congr 1; omega
      refine ⟨AX g el l', (List.range c.length).map f, fun g' o ho => ?_, ⟨⟨?_, .inr ⟨g, cap, l'.drop c.length, by simp, ?_, ?_, by simpa using e2, e3⟩⟩, hF⟩, by simp⟩
      · unfold AX Hp.one at ho
        split at ho
        · rename_i e; subst e; rw [h]; exact ho
        · cases ho
      · rw [BL hF]
      · rw [← hsplit]
      · have := e1
        rw [← hsplit, hl']
        rw [hlen] at this; omega
theorem wl_gs {e : Entry} {Q : Exit → Act → World → Prop} {s : Ay} {h : Hp} {ms ms' : List Hp} {ops : Array Oper} {l : List Oper} (g : Goes ms ms') (k : WL e ops Q l s h ms') : WL e ops Q l s h ms := fun a w ha hw => k a w ha (g _ _ _ _ _ hw)
theorem ws_gs {e : Entry} {Q : Exit → Act → World → Prop} {s : Ay} {h : Hp} {ms ms' : List Hp} {c : Code} (g : Goes ms ms') (k : WS e c Q s h ms') : WS e c Q s h ms := fun a w ha hw => k a w ha (g _ _ _ _ _ hw)
section
variable {e : Entry} {Q : Exit → Act → World → Prop} {ops : Array Oper} {rest : List Oper} {o : Oper} {s : Ay} {h : Hp} {ms : List Hp}
theorem wl_storeIn {t : TypeId} {x y : Operand} {z : Value} {bytes : Nat} {m0 m u0 : Hp} {v : Value} {c : List Int} {n : Int} (k : Nat) (O : OwnL cI 1 el u0 v c) (hu : u0.le m0) (hS : SimI el m0 m) (ho : o.op = .store t x y) (hs : Elem e.P t 1 z bytes) (hx : ev s x = some (.pointer (some ((Bl v).add (k * 1))))) (hy : ev s y = some (.int .i64 n))
    (hk : k < c.length) (hd : o.dst = none) (hg : o.guard = none)
    (K : ∀ m', SimI el m0 m' → WL e ops Q rest s h (m' :: ms)) : WL e ops Q (o :: rest) s h (m :: ms) := by
  obtain ⟨y', c', hy', O', hl⟩ := O.sim hu hS
  obtain ⟨⟨h2, h3⟩, hF⟩ := O'
  rcases h3 with ⟨rfl, h4, rfl⟩ | ⟨g, cap, spare, rfl, rfl, e1, e2, e3⟩
  · rw [h4] at hl; omega
  · have hg0 := hy' g _ (Hp.one_self _ _)
    have ej := Hp.rm_join hg0
    have hgo : Goes (m :: ms) (AX g el (c'.flatMap cI ++ spare) :: m.rm g :: ms) := by
      have := Goes.part (Hp.rm_disj m g (.cells (c'.flatMap cI ++ spare).toArray el (0, 0))) ms
      rw [ej] at this; exact this
    refine wl_gs hgo (AK 0 (k * 1) ho hs hx hy rfl rfl rfl ?_ hd hg ?_)
    · rw [List.length_append, BL hF, hl]; omega
    · exact wl_gs (Goes.join _ _ _) (K _ (hS.trans (SimI.put hg0 _ _)))
end
theorem ws_frz {e : Entry} {Q : Exit → Act → World → Prop} {s : Ay} {h : Hp} {ms : List Hp} {c : Code} {m : Hp} (k : ∀ h', h.le h' → m.le h' → WS e c Q s h' ms) : WS e c Q s h (m :: ms) :=
  fun a w ha hw => k _ (Hp.le_join _ _) (Hp.join_le_right (hw.st.off m List.mem_cons_self)) a w ha (Ends.freeze hw)
end Go.Eng
namespace Go.Eng
open Go.RowKit
section
variable {e : Entry} {Q : Exit → Act → World → Prop} {ops : Array Oper} {rest : List Oper} {o : Oper} {s : Ay} {h : Hp} {ms : List Hp}
end
end Go.Eng
set_option maxHeartbeats 2000000
namespace Go.Proofs.YtdnelknieikbaaaGreat
open Go.Eng Go.RowKit Go.Lin
variable {d : Nat}
theorem ID {α : Type} {F : α → List Value} {sz : Nat} {el : TypeId} (g : Nat) (hF : ∀ x, (F x).length = sz) : OwnL F sz el (AX g el []) (.slice (some ⟨g, 0, none⟩) 0 0) ([] : List α) := OwnL.blk (l := []) 0 hF rfl (by omega)
theorem Fg {k : Nat} {f : Nat → Int} (hk : k < d) (hne : f k ≠ 0) (h0 : ∀ i, i < k → f i = 0) : I5 (vec d f) = k := by
 unfold I5
 refine GA (by rw [AQ]; exact hk) (by rw [EE hk]; exact decide_eq_true hne) fun j hj => ?_
 rw [EE (by omega), h0 j hj]; rfl
theorem JO {f : Nat → Int} (h0 : ∀ i, i < d → f i = 0) : I5 (vec d f) = -1 := by
 unfold I5
 refine Hc fun j hj => ?_
 rw [AQ] at hj
 rw [EE hj, h0 j hj]; rfl
theorem E3 {p : Int} {n : Nat} {w : Nat → Nat → Int} {pl : Nat → Nat} (R : Go.Lin.Rows p d n w pl) : n ≤ d := by
 have key : ∀ k, k < n → k ≤ pl k := fun k => by
  induction k with
  | zero => intro _; omega
  | succ k ih =>
   intro hk
   have := ih (by omega)
   have := R.inc k (k + 1) (by omega) hk
   omega
 rcases Nat.eq_zero_or_pos n with h | h
 ·omega
 ·have := key (n - 1) (by omega)
  have := R.lt (n - 1) (by omega)
  omega
theorem GM {P : Program} {o : Oper} {s : Ay} {h : Hp} {ms : List Hp} {v v' : Value} (hx : OX P o s h ms v) (e : v = v') : OX P o s h ms v' := e ▸ hx
def TO (p : Int) (a : Nat) (u : Nat → Int) (x : Int) (out : Nat → Int) (j i : Nat) : Int := if a ≤ i ∧ i < j then (out i - x * u i) % p else out i
theorem RQ (p : Int) {a j : Nat} (u : Nat → Int) (x : Int) (out : Nat → Int) (hj : a ≤ j) (i : Nat) : (if i = j then (out j - x * u j) % p else TO p a u x out j i) = TO p a u x out (j + 1) i := by
 unfold TO
 by_cases h : i = j
 ·subst h
  rw [if_pos rfl, if_pos ⟨hj, by omega⟩]
 ·rw [if_neg h]
  by_cases h2 : a ≤ i ∧ i < j
  ·rw [if_pos h2, if_pos ⟨h2.1, by omega⟩]
  ·rw [if_neg h2, if_neg (by omega)]
theorem Od (p : Int) (d n g am : Nat) (f : Nat → Int) (w : Nat → Nat → Int) (pl : Nat → Nat) (lv v : Value) (h : Hp) (hp : IsP p) (hd : d ≤ 1000) (R : Go.Lin.Rows p d n w pl) (hG : Seg h [] ⟨g, 0, none⟩ [.int .i64 p, lv]) (hL : RdV h lv n d w) (hf : ∀ i, i < d → 0 ≤ f i ∧ f i < p) (hV : RdL cI 1 h [] v (vec d f)) (ham : am ≤ 1000) : FnT Tryz.prog 84 #[.pointer (some ⟨g, 0, none⟩), v, .int .i64 am] h [] (fun x h' ms' => h = h' ∧ ∃ m out, ms' = [m] ∧ OwnL cI 1 3 m x (vec d out) ∧ Less p d w pl am f n out) := by
 have hp1 := hp.1
 have hp2 := hp.2.1
 have hnd := E3 R
 have hvl := AQ d f
 obtain ⟨vs, hvs, hLv, hLs⟩ := hL
 have hA := Seg.all hG
 have hA0 := hA 0 _ rfl
 have hLn : Rd h [] lv 1 n (vs.flatMap cV) := by have := hLv.rd; rwa [hvs] at this
 refine Av Tryz.func84 Tryz.ntmps84 rfl rfl (fun w0 hw0 => ?_)
 simp only [A4]
 refine Ax (Qm rfl (B3 ?_))
 refine AZ [] [] [] rfl Tryz.underlying24 A8 rfl (by omega) (by kernel_rfl) (by repeat (first | exact trivial | refine ⟨⟨by first | rfl | exact (hLn.any).cells | exact Rd.cells ‹_› | exact (RdL.rd ‹_›).cells, rfl, rfl⟩, ?_⟩)) rfl rfl rfl rfl (fun g12 => ?_)
 refine Qm rfl ?_
 refine Bm 0 (ID g12 Br) hV.any rfl Tryz.underlying24 A8 rfl (by omega) rfl rfl rfl Cv (by simp only [List.length_nil]; omega) (by simp only [List.length_nil]; omega) rfl rfl rfl (fun vo m hO => ?_)
 rw [List.nil_append] at hO
 refine Qm rfl (Aq (Ac (Ax (Qm rfl (Aq (Ag ?_))))))
 refine AD (fun q sl hh ms' => ∃ (k : Nat) (out : Nat → Int) (m : Hp), q = n - k ∧ sl = [(0, .pointer (some ⟨g, 0, none⟩)), (1, v), (2, .int .i64 am), (7, vo), (8, .int .i64 k)] ∧ h = hh ∧ ms' = [m] ∧ k ≤ n ∧ OwnL cI 1 3 m vo (vec d out) ∧ Less p d w pl am f k out)
  (n - 0) _ ⟨0, f, m, rfl, rfl, rfl, rfl, by omega, hO, Less.start hf⟩ Qs ?_
 rintro q sl hh ms' ⟨k, out, m, rfl, rfl, rfl, rfl, hk, hO, hLe⟩
 refine Ac (Ax (Qm rfl (Qm rfl (Qm rfl (Qf C1 rfl (Qx (AM rfl Tryz.underlying62 rfl rfl (hA _ _ rfl _)) rfl (Qx (AJ hLn.any rfl Tryz.underlying62 rfl) rfl (Qm rfl (Aq ?_)))))))))
 refine AF rfl (fun hlt => ?_) (fun hlt => ?_)
 ·have hkn : k < n := by omega
  have hkv : k < vs.length := by omega
  have hpk := R.lt k hkn
  have hfst : I5 (vec d (w k)) = pl k := Fg hpk (by rw [R.one k hkn]; decide) (R.low k hkn)
  have hfk : ∀ ms, Dq Tryz.prog 80 #[vs[k]] h ms (.int .i64 (pl k)) := fun ms => by rw [← hfst]; exact FW _ _ h (hLs k hkv) ms
  have hob := hLe.bd
  have hol := AQ d out
  have hcv : ∀ ms, m ∈ ms → ∀ i, i < d → Cell h ms ((Bl vo).add (i * 1)) (.int .i64 (out i)) := fun ms hm i hi => (hO.rd (h := h) hm).ev hi
  have hRo : Rd h [m] vo 1 d ((vec d out).flatMap cI) := by have := (hO.rd (h := h) (ms := [m]) (List.Mem.head _)).rd; rwa [hol] at this
  refine Ai (Ab (Ac (Ag (Ax (Qm rfl (Qm rfl (Qf C1 rfl (Qx (AM rfl Tryz.underlying62 rfl rfl (hA _ _ rfl _)) rfl (Qm rfl (Qx (Ah (k) hLn.any rfl Tryz.underlying62 BN rfl rfl (by omega) (by omega)) rfl (Qx (AM rfl Tryz.underlying24 rfl rfl (hLv.any.cell0 hkv rfl)) rfl (Qx (AG rfl Tryz.call80 rfl (hfk _)) rfl (Qm rfl (Aq (Ac (Ax (Qm rfl (Qm rfl (Qm rfl (Qm rfl ?_))))))))))))))))))))
  refine AR (t := 35) rfl (fun hs1 => ?_) (fun hs1 => ?_)
  ·refine Qk rfl (Qk rfl (Qk rfl (Qk rfl (Qk rfl (Qm rfl (Aq (AU rfl (Aw (Aa (Af (Ab (Ad (Qm rfl (Qx (oA rfl) rfl (Qm rfl (Ak ?_))))))))))))))))
   exact Al (n - (k + 1)) _ (by omega) ⟨k + 1, out, m, rfl, rfl, rfl, rfl, by omega, hO, hLe.skip (.inl (by omega))⟩ Qs
  ·refine Qg (As rfl rfl) rfl (Qg (As rfl rfl) rfl (Qg (Bo (pl k) hRo rfl Tryz.underlying24 A8 rfl rfl (by omega) (by omega)) rfl (Qg (AM rfl Tryz.underlying3 rfl rfl (hcv _ (List.Mem.head _) _ hpk)) rfl (Qg (EJ rfl rfl rfl) rfl (Qm rfl (Aq ?_))))))
   refine AF rfl (fun hz => ?_) (fun hz => ?_)
   ·refine Aw (Aa (Af (Ab (Ad (Qm rfl (Qx (oA rfl) rfl (Qm rfl (Ak ?_))))))))
    exact Al (n - (k + 1)) _ (by omega) ⟨k + 1, out, m, rfl, rfl, rfl, rfl, by omega, hO, hLe.skip (.inr hz)⟩ Qs
   ·refine Ai (Ab (Ax (Qm rfl (Qm rfl (Qx (Bo (pl k) hRo rfl Tryz.underlying24 A8 rfl rfl (by omega) (by omega)) rfl (Qx (AM rfl Tryz.underlying3 rfl rfl (hcv _ (List.Mem.head _) _ hpk)) rfl (Qm rfl (B3 (Qm rfl (Qm rfl (Aq (Ag ?_))))))))))))
    have hq := hob _ hpk
    refine AD (fun q sl hh ms' => ∃ (j : Nat) (m : Hp), q = d - j ∧ sl = [(0, .pointer (some ⟨g, 0, none⟩)), (1, v), (2, .int .i64 am), (7, vo), (8, .int .i64 k), (10, .int .i64 (out (pl k))), (11, .int .i64 j)] ∧ h = hh ∧ ms' = [m] ∧ pl k ≤ j ∧ j ≤ d ∧ OwnL cI 1 3 m vo (vec d (TO p (pl k) (w k) (out (pl k)) out j)))
     (d - pl k) _ ⟨pl k, m, rfl, rfl, rfl, rfl, by omega, by omega, by rw [BA (f := TO p (pl k) (w k) (out (pl k)) out (pl k)) (g := out) (fun i _ => if_neg (by omega))]; exact hO⟩ Qs ?_
    rintro q sl hh ms' ⟨j, m, rfl, rfl, rfl, rfl, hj1, hj2, hO⟩
    have hol := AQ d (TO p (pl k) (w k) (out (pl k)) out j)
    have hRo : Rd h [m] vo 1 d ((vec d (TO p (pl k) (w k) (out (pl k)) out j)).flatMap cI) := by have := (hO.rd (h := h) (ms := [m]) (List.Mem.head _)).rd; rwa [hol] at this
    refine Ac (Ax (Qm rfl (Qm rfl (Qx (CH hRo rfl Tryz.underlying24 rfl) rfl (Qm rfl (Aq ?_))))))
    refine AF rfl (fun hlt2 => ?_) (fun hlt2 => ?_)
    ·have hjd : j < d := by omega
     have hoj := hob j hjd
     have hwj := R.bd k hkn j hjd
     have hmb := DF hq hwj hp2
     have hcj : ∀ ms, m ∈ ms → Cell h ms ((Bl vo).add (j * 1)) (.int .i64 (out j)) := fun ms hm => by
      have := (hO.rd (h := h) hm).ev hjd
      rwa [show TO p (pl k) (w k) (out (pl k)) out j j = out j from if_neg (by omega)] at this
     have hcw : ∀ ms, Cell h ms ((Bl vs[k]).add (j * 1)) (.int .i64 (w k j)) := fun ms => (hLs k hkv).any.ev hjd
     have hwl : Rd h [] vs[k] 1 d ((vec d (w k)).flatMap cI) := by have := (hLs k hkv).rd; rwa [AQ] at this
     have q1 : (out j - out (pl k) * w k j).tmod p < p := by have := Int.tmod_lt_of_pos (out j - out (pl k) * w k j) (show 0 < p by omega); omega
     have q2 : -p < (out j - out (pl k) * w k j).tmod p := by have := Int.lt_tmod_of_pos (out j - out (pl k) * w k j) (show 0 < p by omega); omega
     have q3 : ((out j - out (pl k) * w k j).tmod p + p) % p = (out j - out (pl k) * w k j) % p := by rw [Int.add_emod_right, Int.tmod_def, Int.sub_mul_emod_self_left]
     refine Ai (Ab (Ac (Ag (AW (n := 36) (bs := [true, true, true, true, true, false, true, true, true, true, true, true, true, true, true, true, true, true, false, true, true, true, true, false, true, true, true, true, false, true, true, true, true, false, true, false]) [true, true, true, true, true, false, true, true, true, true, true, true, true, true, true, true, true, true, false, true, true, true, true, false, true, true, true, true, false, true, true, true, true, false, true] Cd (by kernel_rfl) (by kernel_rfl) rfl rfl (Qq rfl (Qq rfl (Qq rfl (Qq rfl (Qp rfl (Bo (j) hRo rfl Tryz.underlying24 A8 rfl rfl (by omega) (by omega)) (Qq rfl (Qq rfl (Qq rfl (QF C1 rfl (Qp rfl (AM rfl Tryz.underlying62 rfl rfl (hA _ _ rfl _)) (Qq rfl (Qp rfl (Ah (k) hLn.any rfl Tryz.underlying62 BN rfl rfl (by omega) (by omega)) (Qp rfl (AM rfl Tryz.underlying24 rfl rfl (hLv.any.cell0 hkv rfl)) (Qq rfl (Qp rfl (Ah (j) hwl.any rfl Tryz.underlying24 A8 rfl rfl (by omega) (by omega)) (Qp rfl (AM rfl Tryz.underlying3 rfl rfl (hcw _)) (Qp rfl (oM rfl) (Qq rfl (Qq rfl (QF Eo rfl (Qp rfl (AM rfl Tryz.underlying3 rfl rfl (hA0 _)) (Qq rfl (Qq rfl (QF Eo rfl (Qp rfl (AM rfl Tryz.underlying3 rfl rfl (hA0 _)) (Qq rfl (Qq rfl (QF Eo rfl (Qp rfl (AM rfl Tryz.underlying3 rfl rfl (hA0 _)) (Qp rfl (Bo (j) hRo rfl Tryz.underlying24 A8 rfl rfl (by omega) (by omega)) ?_))))))))))))))))))))))))))))))))))
     unfold CD
     simp only [List.cons_append, List.nil_append]
     refine Qo 5 rfl (Qx (AM rfl Tryz.underlying3 rfl rfl (hcj _ (List.Mem.head _))) rfl (Qw (An 18 71 (by kernel_rfl) rfl (Hp.le_refl _) rfl (oS rfl) (An 23 76 (by kernel_rfl) rfl (Hp.le_refl _) rfl (Mq rfl rfl rfl (by omega)) (An 28 81 (by kernel_rfl) rfl (Hp.le_refl _) rfl (oA rfl) (An 33 86 (by kernel_rfl) rfl (Hp.le_refl _) rfl (GM (B0 rfl rfl rfl (by omega) (by omega)) (congrArg (Value.int .i64) q3)) (Qo 35 rfl (Bu 0 j hO rfl A8 rfl rfl rfl (by omega) rfl rfl (fun m' hO' => Qw (Qe (Aj (Ab (Ad (Qm rfl (Qx (oA rfl) rfl (Qm rfl (Ak ?_)))))))))))))))))
     refine Al (d - (j + 1)) _ (by omega) ⟨j + 1, m', rfl, rfl, rfl, rfl, by omega, by omega, ?_⟩ Qs
     rw [D6, BA (fun i _ => RQ p (w k) (out (pl k)) out hj1 i)] at hO'
     exact hO'
    ·obtain rfl : j = d := by omega
     refine Aw (Aa (Aa (Af (Aj (Ab (Ad (Qm rfl (Qx (oA rfl) rfl (Qm rfl (Ak ?_))))))))))
     refine Al (n - (k + 1)) _ (by omega) ⟨k + 1, _, m, rfl, rfl, rfl, rfl, by omega, hO, hLe.step (by omega) R hkn fun i hi => ?_⟩ Qs
     unfold TO
     by_cases h1 : pl k ≤ i
     ·rw [if_pos ⟨h1, hi⟩, if_pos h1]
     ·rw [if_neg (by omega), if_neg h1]
 ·obtain rfl : k = n := by omega
  refine Aw (Aa (Aa (Af (Ab (Ax (Qm rfl (Qm rfl (Aq (Ao ?_)))))))))
  exact Am rfl rfl (⟨rfl, m, out, rfl, hO, hLe⟩)
end Go.Proofs.YtdnelknieikbaaaGreat
namespace Go.Proofs.YtdnelknieikbaaaGreat
open Go.Eng Go.RowKit Go.Lin
theorem Tn {h : Hp} {n d k : Nat} {w : Nat → Nat → Int} {x : Nat → Int} {vs : List Value} {vx lv : Value} (hvs : vs.length = n) (hk : k ≤ n) (hR : RdL cV 1 h [] lv (vs.take k ++ [vx] ++ vs.drop k)) (hs : ∀ t (ht : t < vs.length), RdL cI 1 h [] vs[t] (vec d (w t))) (hx : RdL cI 1 h [] vx (vec d x)) : RdV h lv (n + 1) d (Eg k x w) := by
 have hlt : (vs.take k).length = k := by rw [List.length_take]; omega
 refine ⟨_, by simp only [List.length_append, List.length_take, List.length_drop, List.length_singleton]; omega, hR, fun t ht => ?_⟩
 have ht' : t < n + 1 := by simp only [List.length_append, List.length_take, List.length_drop, List.length_singleton] at ht; omega
 have e : ∀ u, (vs.take k ++ [vx] ++ vs.drop k)[t]? = some u → RdL cI 1 h [] u (vec d (Eg k x w t)) := fun u hu => by
  rw [List.append_assoc] at hu
  rcases Nat.lt_trichotomy t k with h1 | rfl | h1
  ·rw [List.getElem?_append_left (by omega), List.getElem?_take_of_lt h1, List.getElem?_eq_getElem (by omega)] at hu
   cases hu
   rw [DN h1]; exact hs t (by omega)
  ·rw [List.getElem?_append_right (by omega), hlt, Nat.sub_self] at hu
   cases hu
   rw [Dk]; exact hx
  ·rw [List.getElem?_append_right (by omega), hlt] at hu
   obtain ⟨q, hq⟩ : ∃ q, t - k = q + 1 := ⟨t - k - 1, by omega⟩
   rw [hq, List.singleton_append, List.getElem?_cons_succ, List.getElem?_drop, show k + q = t - 1 by omega, List.getElem?_eq_getElem (by omega)] at hu
   cases hu
   rw [DM h1]; exact hs _ (by omega)
 exact e _ (List.getElem?_eq_getElem ht)
theorem J1 (p : Int) (d n g a : Nat) (f : Nat → Int) (w : Nat → Nat → Int) (pl : Nat → Nat) (lv v : Value) (h : Hp) (hp : IsP p) (hd : d ≤ 1000) (R : Go.Lin.Rows p d n w pl) (hL : RdV h lv n d w) (hf : ∀ i, i < d → 0 ≤ f i ∧ f i < p) (hV : RdL cI 1 h [] v (vec d f)) (ha : a < d) (hfa : f a ≠ 0) (h0 : ∀ i, i < a → f i = 0) (hpl : ∀ l, l < n → pl l ≠ a) :
  FnT Tryz.prog 48 #[.pointer (some ⟨g, 0, none⟩), v] h [AX g 93 [.int .i64 p, lv]] (fun r h' ms' => h.le h' ∧ ∃ k lv', ms' = [AX g 93 [.int .i64 p, lv']] ∧ k ≤ n ∧ RdV h' lv' (n + 1) d (Eg k (fun i => f i * Gf (f a) p % p) w) ∧ Go.Lin.Rows p d (n + 1) (Eg k (fun i => f i * Gf (f a) p % p) w) (Eg k a pl)) := by
 have hp1 := hp.1
 have hp2 := hp.2.1
 have hnd := E3 R
 have hvl := AQ d f
 have hfb := hf a ha
 have hob := Kh hp (show 1 ≤ f a by omega) hfb.2
 have hoi := F1 hp (show 1 ≤ f a by omega) hfb.2
 obtain ⟨vs, hvs, hLv, hLs⟩ := hL
 have hLn : ∀ h', h.le h' → Rd h' [] lv 1 n (vs.flatMap cV) := fun h' l => by have := (hLv.up l).rd; rwa [hvs] at this
 have hVn : Rd h [] v 1 d ((vec d f).flatMap cI) := by have := hV.rd; rwa [hvl] at this
 have hfst : I5 (vec d f) = a := Fg ha hfa h0
 have hfv : ∀ ms, Dq Tryz.prog 80 #[v] h ms (.int .i64 a) := fun ms => by rw [← hfst]; exact FW _ _ h hV ms
 have hvone : ∀ x ∈ vs, ∀ c ∈ cV x, c.oneCell' = true := fun x hx => by
  obtain ⟨t, ht, rfl⟩ := List.getElem_of_mem hx
  exact Cj (hLs t ht).rd.one _ List.mem_cons_self
 refine Av Tryz.func48 Tryz.ntmps48 rfl rfl (fun w0 hw0 => ?_)
 simp only [A4]
 refine Ax (Qm rfl (Qx (AG rfl Tryz.call80 rfl (hfv _)) rfl (Qm rfl (Aq (Ac (AW (n := 10) (bs := [true, true, true, true, true, true, true, false, false, false]) [true, true, true, true, true, true, true] Cd (by kernel_rfl) (by kernel_rfl) rfl rfl (Qq rfl (Qq rfl (Qp rfl (Ah (a) hVn.any rfl Tryz.underlying24 A8 rfl rfl (by omega) (by omega)) (Qp rfl (AM rfl Tryz.underlying3 rfl rfl (hV.any.ev ha)) (Qq rfl (Qq rfl (QF Eo rfl ?_)))))))))))))
 unfold CD
 simp only [List.cons_append, List.nil_append]
 refine Qo 7 rfl (Qx (AM rfl Tryz.underlying3 rfl rfl (Cell.blk 0 (k := 0) rfl rfl)) rfl (Qw (Qo 8 rfl (Qx (AG rfl Tryz.call81 rfl (Ry (f a) p _ hp (by omega) (by omega) _)) rfl (Qw (Qo 9 rfl (Qm rfl (Qw (Qe (Ab (Ax (Qm rfl (Aq (Ac (Ax (Qm rfl (Aq (Ag (BX ?_)))))))))))))))))))
 refine AD (fun q sl hh ms' => ∃ (j : Nat) (v6 : Value) (m6 : Hp), q = d - j ∧ sl = [(0, .pointer (some ⟨g, 0, none⟩)), (1, v), (4, .int .i64 a), (5, .int .i64 (Gf (f a) p)), (6, v6), (7, .int .i64 j)] ∧ h = hh ∧ ms' = [m6, AX g 93 [.int .i64 p, lv]] ∧ j ≤ d ∧ OwnL cI 1 3 m6 v6 (vec j (fun i => f i * Gf (f a) p % p)))
  (d - 0) _ ⟨0, _, _, rfl, rfl, rfl, rfl, by omega, OwnL.nil Br⟩ Qs ?_
 rintro q sl hh ms' ⟨j, v6, m6, rfl, rfl, rfl, rfl, hj, hO6⟩
 have hjl := AQ j (fun i => f i * Gf (f a) p % p)
 refine Ac (Ax (Qm rfl (Qm rfl (Qx (AJ hVn.any rfl Tryz.underlying24 rfl) rfl (Qm rfl (Aq ?_))))))
 refine AF rfl (fun hlt => ?_) (fun hlt => ?_)
 ·have hjd : j < d := by omega
  have hmb := DF (hf j hjd) (show 0 ≤ Gf (f a) p ∧ Gf (f a) p < p by omega) hp2
  refine Ai (Ab (Ac (Ag (AW (n := 15) (bs := [true, true, true, true, true, true, true, true, true, true, false, false, false, false, false]) [true, true, true, true, true, true, true, true, true, true] Cd (by kernel_rfl) (by kernel_rfl) rfl rfl (Qq rfl (Qq rfl (Qq rfl (Qp rfl (Ah (j) hVn.any rfl Tryz.underlying24 A8 rfl rfl (by omega) (by omega)) (Qp rfl (AM rfl Tryz.underlying3 rfl rfl (hV.any.ev hjd)) (Qq rfl (Qp rfl (oM rfl) (Qq rfl (Qq rfl (QF Eo rfl ?_))))))))))))))
  unfold CD
  simp only [List.cons_append, List.nil_append]
  refine Qo 10 rfl (Qx (AM rfl Tryz.underlying3 rfl rfl (Cell.blk 1 (k := 0) rfl rfl)) rfl (Qw (An 11 38 (by kernel_rfl) rfl (Hp.le_refl _) rfl (B0 rfl rfl rfl (by omega) (by omega)) (Qo 12 rfl ?_))))
  refine AB [_] rfl Tryz.underlying24 A8 rfl (by rfl) rfl rfl (by omega) rfl rfl rfl (fun g39 => ?_)
  refine Qw (Qo 13 rfl ?_)
  refine Bm 1 hO6 (RdL.one Br (x := f j * Gf (f a) p % p) (List.Mem.head _) rfl) rfl Tryz.underlying24 A8 rfl (by omega) rfl rfl rfl Cv (by simp only [List.length_singleton]; omega) (by simp only [List.length_singleton]; omega) rfl rfl rfl (fun v6b m6b hO6b => ?_)
  refine Qw (Qo 14 rfl (Qm rfl (Qw (Qe (Aj (Ab (Ad (Qm rfl (Qx (oA rfl) rfl (Qm rfl (Ak (A5 ?_))))))))))))
  refine Al (d - (j + 1)) _ (by omega) ⟨j + 1, v6b, m6b, rfl, rfl, rfl, rfl, by omega, ?_⟩ Qs
  have e : vec j (fun i => f i * Gf (f a) p % p) ++ [f j * Gf (f a) p % p] = vec (j + 1) fun i => f i * Gf (f a) p % p := La j _
  rw [e] at hO6b
  exact hO6b
 ·obtain rfl : j = d := by omega
  refine Aw (Aa (Aa (Af (Ab (Ax (Qm rfl (Aq (Bg hO6 fun h2 l2 hRx => ?_))))))))
  have o6 := hRx.rd.one
  have hLv2 := hLv.up l2
  refine Bv (fun sl hh ms' => ∃ k : Nat, sl = [(0, .pointer (some ⟨g, 0, none⟩)), (6, v6), (8, .int .i64 k)] ∧ h2 = hh ∧ ms' = [AX g 93 [.int .i64 p, lv]] ∧ k ≤ n ∧ (∀ l, l < k → pl l < a) ∧ ∀ l, k ≤ l → l < n → a < pl l) ?_ (fun s h ms hI => ?_)
  ·refine Ag ?_
   refine AD (fun q sl hh ms' => ∃ (k : Nat), q = n - k ∧ sl = [(0, .pointer (some ⟨g, 0, none⟩)), (4, .int .i64 a), (6, v6), (8, .int .i64 k)] ∧ h2 = hh ∧ ms' = [AX g 93 [.int .i64 p, lv]] ∧ k ≤ n ∧ ∀ l, l < k → pl l < a)
    (n - 0) _ ⟨0, rfl, rfl, rfl, rfl, by omega, fun l hl => by omega⟩ Qs ?_
   rintro q sl hh ms' ⟨k, rfl, rfl, rfl, rfl, hk, hlo⟩
   refine Ac (Ax (Qm rfl (Qm rfl (Qm rfl (Qf C1 rfl (Qx (AM rfl Tryz.underlying62 rfl rfl (Cell.blk 0 (k := 1) rfl rfl)) rfl (Qx (AJ (hLn _ l2).any rfl Tryz.underlying62 rfl) rfl (Qm rfl (Qm rfl ?_)))))))))
   refine AR (t := 48) rfl (fun hs1 => ?_) (fun hs1 => ?_)
   ·have hkn : k < n := by omega
    have hkv : k < vs.length := by omega
    have hfk : ∀ ms, Dq Tryz.prog 80 #[vs[k]] h2 ms (.int .i64 (pl k)) := fun ms => by
     rw [← show I5 (vec j (w k)) = pl k from Fg (R.lt k hkn) (by rw [R.one k hkn]; decide) (R.low k hkn)]
     exact FW _ _ h2 ((hLs k hkv).up l2) ms
    refine Qg (As rfl rfl) rfl (Qg (H0 rfl rfl) rfl (Qg (oF C1 rfl) rfl (Qg (AM rfl Tryz.underlying62 rfl rfl (Cell.blk 0 (k := 1) rfl rfl)) rfl (Qg (As rfl rfl) rfl (Qg (Ah (k) (hLn _ l2).any rfl Tryz.underlying62 BN rfl rfl (by omega) (by omega)) rfl (Qg (AM rfl Tryz.underlying24 rfl rfl (hLv2.any.cell0 hkv rfl)) rfl (Qg (AG rfl Tryz.call80 rfl (hfk _)) rfl (Qg (As rfl rfl) rfl (Qg (Dy rfl rfl rfl) rfl (Qm rfl (Aq ?_)))))))))))
    refine AF rfl (fun hs2 => ?_) (fun hs2 => ?_)
    ·refine Ai (Ab (Ag (Ad (Qm rfl (Qx (oA rfl) rfl (Qm rfl (Ak (Aj ?_))))))))
     refine Al (n - (k + 1)) _ (by omega) ⟨k + 1, rfl, rfl, rfl, rfl, by omega, fun l hl => ?_⟩ Qs
     rcases (by omega : l < k ∨ l = k) with h1 | rfl
     ·exact hlo l h1
     ·omega
    ·refine Aw (Aa (Aa (Af ?_)))
     refine AA _ ⟨k, rfl, rfl, rfl, hk, hlo, fun l h1 h2 => ?_⟩ Qs
     have := hpl k hkn
     rcases (by omega : l = k ∨ k < l) with rfl | h3
     ·omega
     ·have := R.inc k l h3 h2; omega
   ·obtain rfl : k = n := by omega
    refine Qk rfl (Qk rfl (Qk rfl (Qk rfl (Qk rfl (Qk rfl (Qk rfl (Qk rfl (Qk rfl (Qk rfl (Qm rfl (Aq (Bb rfl (Aw (Aa (Aa (Af ?_))))))))))))))))
    exact AA _ ⟨k, rfl, rfl, rfl, hk, hlo, fun l h1 h2 => by omega⟩ Qs
  ·obtain ⟨k, rfl, rfl, rfl, hk, hlo, hhi⟩ := hI
   have hl1 : (vs.take k).length = k := by rw [List.length_take]; omega
   have hl2 : (vs.drop k).length = n - k := by rw [List.length_drop]; omega
   have hS1 : RdL cV 1 h2 [] (Ch 1 lv 0 k) (vs.take k) := by simpa using hLv2.sub_ (i := 0) (j := k) (by omega) (by omega)
   have hS2 : RdL cV 1 h2 [] (Ch 1 lv k n) (vs.drop k) := by
    have := hLv2.sub_ (i := k) (j := n) hk (by omega)
    rwa [List.take_of_length_le (by omega)] at this
   refine Ax (Qm rfl (Aq (BX (Ax (Qm rfl (Qm rfl (Qm rfl (Qf C1 rfl (Qx (AM rfl Tryz.underlying62 rfl rfl (Cell.blk 1 (k := 1) rfl rfl)) rfl (Qm rfl (Qx (EA (k) (hLn _ l2).any rfl Tryz.underlying62 BN rfl rfl (by omega) (by omega)) rfl ?_)))))))))))
   refine Ba 0 (OwnL.nil BK) hS1.any rfl Tryz.underlying62 BN rfl (by omega) rfl rfl rfl (fun x hx => hvone x (List.mem_of_mem_take hx)) (by (try simp only [List.length_nil, List.length_append, List.length_singleton]); omega) (by (try simp only [List.length_nil, List.length_append, List.length_singleton]); omega) rfl rfl rfl (fun v9 m9 hO9 => ?_)
   rw [List.nil_append] at hO9
   refine Qm rfl (B3 (Qm rfl (Qm rfl (AB [_] rfl Tryz.underlying62 BN rfl ((RdL.rd ‹_›).cells) rfl rfl (by omega) rfl rfl rfl (fun g72 => ?_)))))
   refine Ba 1 hO9 (RdL.one BK (x := v6) (List.Mem.head _) rfl) rfl Tryz.underlying62 BN rfl (by omega) rfl rfl rfl (Cj o6) (by (try simp only [List.length_nil, List.length_append, List.length_singleton]); omega) (by (try simp only [List.length_nil, List.length_append, List.length_singleton]); omega) rfl rfl rfl (fun v9b m9b hO9b => ?_)
   refine Qm rfl (IA (Qm rfl (Qm rfl (Qm rfl (Qm rfl (Qf C1 rfl (Qx (AM rfl Tryz.underlying62 rfl rfl (Cell.blk 2 (k := 1) rfl rfl)) rfl (Qm rfl (Qx (C3 (k) (hLn _ l2).any rfl Tryz.underlying62 BN rfl rfl (by omega) (by omega)) rfl ?_)))))))))
   refine Ba 1 hO9b hS2.any rfl Tryz.underlying62 BN rfl (by omega) rfl rfl rfl (fun x hx => hvone x (List.mem_of_mem_drop hx)) (by (try simp only [List.length_nil, List.length_append, List.length_singleton]); omega) (by (try simp only [List.length_nil, List.length_append, List.length_singleton]); omega) rfl rfl rfl (fun v9c m9c hO9c => ?_)
   have o9c : v9c.oneCell' = true := (hO9c.rd (h := h) (ms := [m9c]) (List.Mem.head _)).rd.one
   refine Qm rfl (Qf C1 rfl ?_)
   refine AK 2 _ rfl Co rfl rfl (by assumption) rfl rfl (by (simp; done)) rfl rfl ?_
   refine Ak (A5 (CW hO9c fun h4 l4 hR4 => ?_))
   have l24 := Hp.le_trans l2 l4
   exact B6 rfl (⟨l24, k, v9c, rfl, hk, Tn hvs hk hR4 (fun t ht => (hLs t ht).up l24) (hRx.up l4), R.insert hk ha hlo hhi (fun i hi => ⟨Int.emod_nonneg _ (by omega), Int.emod_lt_of_pos _ (by omega)⟩) hoi (fun i hi => by show f i * Gf (f a) p % p = 0; rw [h0 i hi, Int.zero_mul, Int.zero_emod])⟩)
end Go.Proofs.YtdnelknieikbaaaGreat
namespace Go.Proofs.YtdnelknieikbaaaGreat
open Go.Eng Go.RowKit Go.Lin
theorem Q1 {p x : Int} (hp : IsP p) (h1 : 1 ≤ x) (hx : x < p) : Cg p (x * Gf x p) 1 := Cg.iff_mod.2 (by rw [F1 hp h1 hx, Int.emod_eq_of_lt (by omega) (by have := hp.1; omega)])
theorem GV {h : Hp} {d : Nat} {w : Nat → Nat → Int} : RdV h (.slice none 0 0) 0 d w := ⟨[], rfl, ⟨Rd.nil h [] 1, BK⟩, fun j hj => by simp at hj⟩
theorem FO {p : Int} {d : Nat} {w : Nat → Nat → Int} {pl : Nat → Nat} : Go.Lin.Rows p d 0 w pl := ⟨fun k h => by omega, fun k h => by omega, fun k h => by omega, fun k h => by omega, fun k l _ h => by omega⟩
theorem FU {n a k : Nat} {f : Nat → Int} (h : a + k ≤ n) : ((vec n f).drop a).take k = vec k fun i => f (a + i) := List.ext_getElem (by simp [vec]; omega) fun i h1 h2 => by simp [vec]
theorem KE (p : Int) (d n g : Nat) (f : Nat → Int) (w : Nat → Nat → Int) (pl : Nat → Nat) (lv v : Value) (h : Hp) (hp : IsP p) (hd : d ≤ 1000) (R : Go.Lin.Rows p d n w pl) (hL : RdV h lv n d w) (hf : ∀ i, i < d → 0 ≤ f i ∧ f i < p) (hV : RdL cI 1 h [] v (vec d f)) :
  FnT Tryz.prog 82 #[.pointer (some ⟨g, 0, none⟩), v] h [AX g 93 [.int .i64 p, lv]] (fun r h' ms' => h.le h' ∧ ∃ n' w' pl' lv', ms' = [AX g 93 [.int .i64 p, lv']] ∧ RdV h' lv' n' d w' ∧ Go.Lin.Rows p d n' w' pl' ∧ ∀ y, Spn p n' ty d w' y ↔ Exw (Spn p n ty d w) f y) := by
 have hp1 := hp.1
 have hp2 := hp.2.1
 have hvl := AQ d f
 have hVn : ∀ h', h.le h' → Rd h' [] v 1 d ((vec d f).flatMap cI) := fun h' l => by have := (hV.up l).rd; rwa [hvl] at this
 refine Av Tryz.func82 Tryz.ntmps82 rfl rfl (fun w0 hw0 => ?_)
 simp only [A4]
 refine CV fun h1 l1 lG dG LG => ?_
 have hG : Seg h1 [] ⟨g, 0, none⟩ [.int .i64 p, lv] := Seg.ofLe lG
 refine Ax (Qm rfl (Qm rfl (Qm rfl (Qx (AJ (hVn _ l1).any rfl Tryz.underlying24 rfl) rfl (E4 rfl Tryz.call84 rfl (Od p d n g d f w pl lv v h1 hp hd R hG (hL.up l1) hf (hV.up l1) hd) rfl rfl rfl (fun vx h2 ms2 l2 hF => ?_))))))
 obtain ⟨rfl, m, out, rfl, hO, hLe⟩ := hF
 refine Ig LG lG fun h2 l2 b2 => ?_
 have hh2 : h.le h2 := b2 h l1 dG
 refine Fe (AH hO fun h3 l3 hRx => ?_)
 have l03 := Hp.le_trans hh2 l3
 have hob := hLe.bd
 obtain ⟨s1, s2, s3⟩ := Ip out d
 refine Qm rfl (B3 (Qm rfl (Qx (AG rfl Tryz.call80 rfl (FW _ _ h3 hRx _)) rfl (Qm rfl (Aq ?_)))))
 refine AF rfl (fun hc => ?_) (fun hc => ?_)
 ·have hz : fs d out < d := Decidable.by_contra fun hz => by
   rw [JO (ME (by omega))] at hc
   omega
  have hne := s3 hz
  refine Ad (Qm rfl (Qm rfl ?_))
  refine Bs (pre := [AX g 93 [.int .i64 p, lv]]) rfl Tryz.call48 rfl (J1 p d n g (fs d out) out w pl lv vx h3 hp hd R (hL.up l03) hob hRx hz hne s2 (fun l hl he => hne (by rw [← he]; exact hLe.zero l hl (R.lt l hl)))) rfl rfl rfl rfl (fun x4 h4 ms4 l4 hF => ?_)
  obtain ⟨l4', k, lv', rfl, hk, hL', hR'⟩ := hF
  have h1 := hob _ hz
  have hcg := Q1 hp (show 1 ≤ out (fs d out) by omega) h1.2
  refine Ak ?_
  exact B6 rfl (⟨Hp.le_trans l03 l4, n + 1, _, _, lv', rfl, hL', hR', fun y => Ln hLe hk (u := Gf (out (fs d out)) p) (t := out (fs d out)) (fun i hi => (Cg.mod _ _).trans (Cg.of_eq (Int.mul_comm _ _))) hcg y⟩)
 ·have hz : ∀ i, i < d → out i = 0 := ME (Decidable.by_contra fun hz => by
   have hlt : fs d out < d := by omega
   rw [Fg hlt (s3 hlt) s2] at hc
   omega)
  refine Ai ?_
  exact B6 rfl (⟨l03, n, w, pl, lv, rfl, hL.up l03, R, fun y => R9 hLe hz y⟩)
theorem MO (p : Int) (na d N gx : Nat) (w : Nat → Nat → Int) (pl : Nat → Nat) (lv : Value) (h : Hp) (hp : IsP p) (hna : na ≤ 400) (hd : d ≤ 400) (R : Go.Lin.Rows p (na + d) N w pl) (hG : Seg h [] ⟨gx, 0, none⟩ [.int .i64 p, lv]) (hL : RdV h lv N (na + d) w) :
  FnT Tryz.prog 50 #[.agg #[.int .i64 na, .pointer (some ⟨gx, 0, none⟩)]] h [] (fun r _ _ => ∃ (nw : Nat) (ww : Nat → Nat → Int) (pw : Nat → Nat), r = .int .i64 ((nw : Int) - (cnt N fun m => decide (na ≤ pl m) : Nat)) ∧ Go.Lin.Rows p d nw ww pw ∧ Sp p d nw ww N fun m j => w m (na + j)) := by
 have hp1 := hp.1
 have hp2 := hp.2.1
 have hnd := E3 R
 obtain ⟨vs, hvs, hLv, hLs⟩ := hL
 have hLn : ∀ h', h.le h' → Rd h' [] lv 1 N (vs.flatMap cV) := fun h' l => by have := (hLv.up l).rd; rwa [hvs] at this
 refine Av Tryz.func50 Tryz.ntmps50 rfl rfl (fun w0 hw0 => ?_)
 simp only [A4]
 refine Ax ?_
 refine AS [_, _] rfl rfl (by rfl) rfl rfl rfl (fun g1 => ?_)
 refine Qm rfl (Aq (AL fun h1 l1 hS1' => ?_))
 have hA := Seg.all hS1'
 have hA0 := hA 0 _ rfl
 have hX := Seg.all (hG.le l1)
 have hX0 := hX 0 _ rfl
 refine Ax (Qf CQ rfl (Qx (AM rfl Tryz.underlying91 rfl rfl (hA _ _ rfl _)) rfl (Qm rfl (Qf Eo rfl (Qx (AM rfl Tryz.underlying3 rfl rfl (hX0 _)) rfl ?_)))))
 refine Qx (AT PK [.int .i64 0, .slice none 0 0] [(0, _)] [_, _] rfl RD rfl rfl (by repeat (first | exact trivial | refine ⟨⟨rfl, rfl, rfl⟩, ?_⟩)) rfl) rfl ?_
 refine AS [_, _] rfl rfl (by rfl) rfl rfl rfl (fun g12 => ?_)
 refine Qm rfl (B3 (Qm rfl (Aq (Ac (Ax (Qm rfl (Aq (Ag ?_))))))))
 refine AD (fun q sl hh ms' => ∃ (m nw : Nat) (ww : Nat → Nat → Int) (pw : Nat → Nat) (lw : Value), q = N - m ∧ sl = [(1, .pointer (some ⟨g1, 0, none⟩)), (3, .pointer (some ⟨g12, 0, none⟩)), (4, .int .i64 (cnt m fun m => decide (na ≤ pl m) : Nat)), (5, .int .i64 m)] ∧ h1.le hh ∧ ms' = [AX g12 93 [.int .i64 p, lw]] ∧ m ≤ N ∧ RdV hh lw nw d ww ∧ Go.Lin.Rows p d nw ww pw ∧ Sp p d nw ww m fun m j => w m (na + j))
  (N - 0) _ ⟨0, 0, fun _ _ => 0, fun _ => 0, _, rfl, rfl, Hp.le_refl _, rfl, by omega, GV, FO, Sp.start⟩ Qs ?_
 rintro q sl hh ms' ⟨m, nw, ww, pw, lw, rfl, rfl, lh, rfl, hm, hLw, Rw, S⟩
 have l0h := Hp.le_trans l1 lh
 have hA := Seg.all (hS1'.le lh)
 have hA0 := hA 0 _ rfl
 have hX := Seg.all (hG.le l0h)
 have hX0 := hX 0 _ rfl
 have hcm := QK m fun m => decide (na ≤ pl m)
 have hnw := E3 Rw
 refine Ac (Ax (Qm rfl (Qf CQ rfl (Qx (AM rfl Tryz.underlying91 rfl rfl (hA _ _ rfl _)) rfl (Qm rfl (Qf C1 rfl (Qx (AM rfl Tryz.underlying62 rfl rfl (hX _ _ rfl _)) rfl (Qx (AJ (hLn _ l0h).any rfl Tryz.underlying62 rfl) rfl (Qm rfl (Aq ?_))))))))))
 refine AF rfl (fun hlt => ?_) (fun hlt => ?_)
 ·have hmN : m < N := by omega
  have hmv : m < vs.length := by omega
  have hRm := (hLs m hmv).up l0h
  have hvl := AQ (na + d) (w m)
  have hRn : Rd hh [] vs[m] 1 (na + d) ((vec (na + d) (w m)).flatMap cI) := by have := hRm.rd; rwa [hvl] at this
  have hS1 : RdL cI 1 hh [] (Ch 1 vs[m] na (na + d)) (vec d fun j => w m (na + j)) := by
   have := hRm.sub_ (i := na) (j := na + d) (by omega) (by omega)
   rwa [Nat.add_sub_cancel_left, FU (Nat.le_refl _)] at this
  have hbm : ∀ i, i < d → 0 ≤ w m (na + i) ∧ w m (na + i) < p := fun i hi => R.bd m hmN _ (by omega)
  refine Ai (Ab (Ac (Ag (Ac (AW (n := 13) (bs := [true, true, true, true, true, true, true, true, true, true, true, true, false]) [true, true, true, true, true, true, true, true, true, true, true, true] Cd (by kernel_rfl) (by kernel_rfl) rfl rfl (Qq rfl (QF CQ rfl (Qp rfl (AM rfl Tryz.underlying91 rfl rfl (hA _ _ rfl _)) (Qq rfl (QF C1 rfl (Qp rfl (AM rfl Tryz.underlying62 rfl rfl (hX _ _ rfl _)) (Qq rfl (Qp rfl (Ah (m) (hLn _ l0h).any rfl Tryz.underlying62 BN rfl rfl (by omega) (by omega)) (Qp rfl (AM rfl Tryz.underlying24 rfl rfl ((hLv.up l0h).any.cell0 hmv rfl)) (QF D1 rfl (Qp rfl (AM rfl Tryz.underlying3 rfl rfl (hA0 _)) (Qp rfl (C3 (na) hRn.any rfl Tryz.underlying24 A8 rfl rfl (by omega) (by omega)) ?_)))))))))))))))))
  unfold CD
  simp only [List.cons_append, List.nil_append]
  refine Qo 12 rfl (Bs (pre := [AX g12 93 [.int .i64 p, lw]]) rfl Tryz.call82 rfl (KE p d nw g12 (fun j => w m (na + j)) ww pw lw _ hh hp (by omega) Rw hLw hbm hS1) rfl rfl rfl rfl (fun x4 h4 ms4 l4 hF => ?_))
  obtain ⟨l4', n', w', pl', lw', rfl, hL', hR', hSp⟩ := hF
  refine Qa (Qe ?_)
  have S' := S.next (n' := n') (w' := w') hSp
  have l04 := Hp.le_trans l0h l4
  have hA := Seg.all ((hS1'.le lh).le l4)
  have hA0 := hA 0 _ rfl
  have hX := Seg.all (hG.le l04)
  have hX0 := hX 0 _ rfl
  have hfk : ∀ ms, Dq Tryz.prog 80 #[vs[m]] h4 ms (.int .i64 (pl m)) := fun ms => by
   rw [← show I5 (vec (na + d) (w m)) = pl m from Fg (R.lt m hmN) (by rw [R.one m hmN]; decide) (R.low m hmN)]
   exact FW _ _ h4 ((hLs m hmv).up l04) ms
  refine Ab (Ac (AW (n := 12) (bs := [true, true, true, true, true, true, true, true, true, true, true, true]) [true, true, true, true, true, true, true, true, true, true, true, true] Cd (by kernel_rfl) (by kernel_rfl) rfl rfl (QF CQ rfl (Qp rfl (AM rfl Tryz.underlying91 rfl rfl (hA _ _ rfl _)) (Qq rfl (QF C1 rfl (Qp rfl (AM rfl Tryz.underlying62 rfl rfl (hX _ _ rfl _)) (Qq rfl (Qp rfl (Ah (m) (hLn _ l04).any rfl Tryz.underlying62 BN rfl rfl (by omega) (by omega)) (Qp rfl (AM rfl Tryz.underlying24 rfl rfl ((hLv.up l04).any.cell0 hmv rfl)) (Qp rfl (AG rfl Tryz.call80 rfl (hfk _)) (QF D1 rfl (Qp rfl (AM rfl Tryz.underlying3 rfl rfl (hA0 _)) (Qq rfl ?_))))))))))))))
  unfold CD
  simp only [List.cons_append, List.nil_append]
  refine Qe (Ab ?_)
  have hcs := BO m fun m => decide (na ≤ pl m)
  refine AF rfl (fun hge => ?_) (fun hge => ?_)
  ·rw [if_pos (decide_eq_true (by omega))] at hcs
   refine Ad (Qm rfl (Qx (oA rfl) rfl (Qm rfl (Ak (Aj (Ab (Ad (Qm rfl (Qx (oA rfl) rfl (Qm rfl (Ak ?_)))))))))))
   exact Al (N - (m + 1)) _ (by omega) ⟨m + 1, n', w', pl', lw', rfl, by rw [hcs], Hp.le_trans lh l4, rfl, by omega, hL', hR', S'⟩ Qs
  ·rw [if_neg (by simpa using (by omega : ¬ na ≤ pl m)), Nat.add_zero] at hcs
   refine Ai (Aj (Ab (Ad (Qm rfl (Qx (oA rfl) rfl (Qm rfl (Ak ?_)))))))
   exact Al (N - (m + 1)) _ (by omega) ⟨m + 1, n', w', pl', lw', rfl, by rw [hcs], Hp.le_trans lh l4, rfl, by omega, hL', hR', S'⟩ Qs
 ·obtain rfl : m = N := by omega
  obtain ⟨us, hus, hRw⟩ := hLw.rdn
  refine Aw (Aa (Aa (Af (Ab (Ax (Qm rfl (Qm rfl (Qf C1 rfl (Qx (AM rfl Tryz.underlying62 rfl rfl (Cell.blk 0 rfl rfl)) rfl (Qx (AJ hRw.any rfl Tryz.underlying62 rfl) rfl (Qm rfl (Qx (oS rfl) rfl (Qm rfl (Aq (Ao ?_)))))))))))))))
  exact Am rfl rfl (⟨nw, ww, pw, rfl, Rw, S⟩)
end Go.Proofs.YtdnelknieikbaaaGreat
