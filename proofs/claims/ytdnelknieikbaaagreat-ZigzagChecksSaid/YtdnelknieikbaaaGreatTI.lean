/- Parts of the proof: Yv Yw Yx Xj Xk Ye Xl Xm Yy Yz Xa Xb. -/
import Derived.Test.YtdnelknieikbaaaGreatTH
set_option linter.unusedSimpArgs false
set_option linter.unusedVariables false
set_option maxRecDepth 100000
set_option maxHeartbeats 4000000
namespace Go.Proofs.YtdnelknieikbaaaGreat
open Tryz
open Go.Eng Go.RowKit Go.Lin
variable {k : Nat}
def Zz.zg (Z : Zz) : Zg where
 p := Z.p
 n := Z.dims.length
 d k := (Z.dim k).toNat
 back k := match Z.ars[k]? with | some a => a.b | none => false
 mat k := match Z.ars[k]? with | some a => VE a.M.cols.toNat a.M.e | none => fun _ _ => 0
theorem Zz.dim_lt {Z : Zz} (hR : Z.Rt) (k : Nat) : 0 ≤ Z.dim k ∧ Z.dim k ≤ 200 := by
 unfold Zz.dim
 rcases Nat.lt_or_ge k Z.dims.length with h | h
 ·have e : Z.dims.getD k 0 = Z.dims[k] := by simp [List.getD, h]
  rw [e]
  exact hR.2.2.2.2.1 _ (List.getElem_mem h)
 ·have e : Z.dims.getD k 0 = 0 := by simp [List.getD, h]
  rw [e]; omega
theorem Zz.zg_d {Z : Zz} (hR : Z.Rt) (k : Nat) : (Z.zg.d k : Int) = Z.dim k := by
 show ((Z.dim k).toNat : Int) = _
 have := Z.dim_lt hR k
 omega
theorem Zz.d_le {Z : Zz} (hR : Z.Rt) (k : Nat) : Z.zg.d k ≤ 200 := by
 have := Z.zg_d hR k
 have := Z.dim_lt hR k
 omega
theorem Zz.nars {Z : Zz} (hR : Z.Rt) : Z.ars.length + 1 = Z.dims.length := by
 have h1 := hR.2.2.1
 have h2 := hR.1
 omega
theorem Zz.zg_back {Z : Zz} (hk : k < Z.ars.length) : Z.zg.back k = Z.ars[k].b := by
 show (match Z.ars[k]? with | some a => a.b | none => false) = _
 rw [List.getElem?_eq_getElem hk]
theorem Zz.zg_mat {Z : Zz} (hk : k < Z.ars.length) : Z.zg.mat k = VE Z.ars[k].M.cols.toNat Z.ars[k].M.e := by
 show (match Z.ars[k]? with | some a => VE a.M.cols.toNat a.M.e | none => fun _ _ => 0) = _
 rw [List.getElem?_eq_getElem hk]
theorem Zz.zg_src {Z : Zz} (hk : k < Z.ars.length) : Z.zg.src k = Z.ars[k].src k ∧ Z.zg.tgt k = Z.ars[k].tgt k := by
 unfold Zg.src Zg.tgt Ar.src Ar.tgt
 rw [Z.zg_back hk]
 exact ⟨rfl, rfl⟩
theorem Zz.arrow {Z : Zz} (hR : Z.Rt) (hk : k < Z.ars.length) : Z.ars[k].M.p = Z.p ∧ Z.ars[k].M.rows = Z.zg.d (Z.zg.tgt k) ∧ Z.ars[k].M.cols = Z.zg.d (Z.zg.src k) ∧ Z.ars[k].M.e = mat (Z.zg.d (Z.zg.tgt k)) (Z.zg.d (Z.zg.src k)) (Z.zg.mat k) ∧ RtM Z.p (Z.zg.d (Z.zg.tgt k)) (Z.zg.d (Z.zg.src k)) (Z.zg.mat k) := by
 obtain ⟨⟨h1, h2, h3, h4⟩, h5, h6, h7⟩ := hR.2.2.2.2.2 k hk
 obtain ⟨e1, e2⟩ := Z.zg_src hk
 have hd1 := Z.zg_d hR (Z.zg.tgt k)
 have hd2 := Z.zg_d hR (Z.zg.src k)
 have l1 := Z.d_le hR (Z.zg.tgt k)
 have l2 := Z.d_le hR (Z.zg.src k)
 rw [← e2, ← hd1] at h7
 rw [← e1, ← hd2] at h6
 have hl : Z.ars[k].M.e.length = Z.zg.d (Z.zg.tgt k) * Z.zg.d (Z.zg.src k) := by
  rw [h6, h7] at h3
  exact_mod_cast h3
 have hc : Z.ars[k].M.cols.toNat = Z.zg.d (Z.zg.src k) := by omega
 have hm : Z.ars[k].M.e = mat (Z.zg.d (Z.zg.tgt k)) (Z.zg.d (Z.zg.src k)) (Z.zg.mat k) := by
  rw [Z.zg_mat hk, hc]
  exact Ux hl
 refine ⟨h5, h7, h6, hm, ⟨h5 ▸ h1, by omega, by omega, fun i hi j hj => ?_⟩⟩
 have hlt := Cp hi hj
 have e : Z.zg.mat k i j = Z.ars[k].M.e[i * Z.zg.d (Z.zg.src k) + j] := by
  rw [Z.zg_mat hk, hc]
  unfold VE
  simp [List.getD, show i * Z.zg.d (Z.zg.src k) + j < Z.ars[k].M.e.length by omega]
 rw [e, ← h5]
 exact h4 _ (List.getElem_mem _)
def Cc (gb : Nat → Nat) (l : Nat) : SM := ⟨gb l, 0, 0, fun _ i => Dl i l⟩
theorem Tt (n : Nat) : cnt n tt = n := by
 induction n with
 | zero => rfl
 | succ n ih => rw [BO, ih]; rfl
theorem Pd {Z : Zg} (hp : 2 ≤ Z.p) (gb : Nat → Nat) : Mch Z 0 (Z.d 0) (Cc gb) (List.range (Z.d 0)) [] := by
 have hon : (Dr (Z.d 0) (Cc gb)).on 0 = tt := funext fun l => rfl
 refine ⟨⟨fun l hl => ⟨Nat.le_refl _, Nat.zero_lt_succ 0⟩, fun k hk => ?_, fun k hk => ?_, fun k hk => ?_⟩, by simp, fun _ _ => rfl, by simp, List.pairwise_of_forall fun _ _ => .inl rfl, fun l hl k h1 h2 i hi => ?_⟩
 ·have hk : k < 1 := hk
  obtain rfl : k = 0 := by omega
  rw [hon]
  exact Nw hp (Z.d 0)
 ·have hk : k < 1 := hk
  obtain rfl : k = 0 := by omega
  rw [hon]
  exact Tt _
 ·have hk : k + 1 < 1 := hk
  omega
 ·show 0 ≤ Dl i l ∧ Dl i l < Z.p
  unfold Dl
  split <;> omega
theorem Qy {S : Nat → SM} {L : List Nat} : ∀ a ∈ L.map (A1 S), ∀ c ∈ cV a, c.oneCell' = true := fun a ha c hc => by
 obtain ⟨l, _, rfl⟩ := List.mem_map.1 ha
 simp only [cV, List.mem_singleton] at hc
 subst hc
 rfl
theorem E9 (n : Nat) : List.range (n + 1) = List.range n ++ [n] := List.range_succ
theorem Dp {gb : Nat → Nat} {b g l : Nat} (h : l ≠ b) : Cc (Ja gb b g) l = Cc gb l := by
 unfold Cc Ja
 rw [if_neg h]
theorem Do {gb : Nat → Nat} {b g : Nat} : Cc (Ja gb b g) b = ⟨g, 0, 0, fun _ i => Dl i b⟩ := by
 unfold Cc Ja
 rw [if_pos rfl]
theorem Km (Z : Zz) (vd va : Value) (h : Hp) (hRt : Z.Rt) (hR : RdZ h vd va Z) :
  FnT Tryz.prog 57 #[.agg #[.int .i64 Z.p, vd, va]] h [] (fun r h' ms' => h.le h' ∧ ∃ (N : Nat) (S : Nat → SM) (L : List Nat) (me mB : Hp), ms' = [mB, me] ∧ N ≤ 20400 ∧ OwnL cV 1 108 me r (L.map (A1 S)) ∧ BagS Z.zg.d N S mB ∧ L.Perm (List.range N) ∧ Valid Z.zg (Dr N S) ∧ ∀ l, l < N → (S l).Bd Z.p Z.zg.d) := by
 have o1 := hR.d.rd.one
 have o2 := hR.a.rd.one
 have hp := hRt.2.2.2.1
 have hn1 := hRt.1
 have hn2 := hRt.2.1
 have hna := Z.nars hRt
 have hd := Z.d_le hRt
 have hbp := hp.1
 have hbp2 := hp.2.1
 refine Av func57 ntmps57 rfl rfl (fun w0 hw0 => ?_)
 simp only [A4]
 refine Ax ?_
 refine AS [_, _, _] rfl rfl (by rfl) rfl rfl rfl (fun g1 => ?_)
 refine Qm rfl (Aq (AL fun h1 l1 hG1 => ?_))
 have hR := hR.up l1
 have hA := Seg.all hG1
 have hc0 : ∀ ms, Cell h1 ms ((Bl vd).add (0 * 1)) (.int .i64 (Z.zg.d 0)) := fun ms => by
  rw [Z.zg_d hRt 0]
  exact H8 hR (by omega)
 refine Ax (Qf CG rfl (Ql rfl underlying3 ((hG1.at0 rfl).any) ?_))
 refine Qx (AT V2 [.int .i64 0, .int .i64 0, .slice none 0 0, .slice none 0 0] [(0, _)] [_, _, _, _] rfl V8 rfl rfl (by repeat (first | exact trivial | refine ⟨⟨rfl, rfl, rfl⟩, ?_⟩)) rfl) rfl ?_
 refine AS [_, _, _, _] rfl rfl (by rfl) rfl rfl rfl (fun g11 => ?_)
 refine Qm rfl (Aq ?_)
 refine Bv (fun s hh ms' => ∃ (g4 : Nat) (xe : Value) (mx : Hp), s = [(1, .pointer (some ⟨g1, 0, none⟩)), (3, .pointer (some ⟨g11, 0, none⟩)), (4, .pointer (some ⟨g4, 0, none⟩))] ∧ h1 = hh ∧ ms' = [AX g4 42 [.int .i64 Z.p, .int .i64 (Z.zg.d 0), .int .i64 (Z.zg.d 0), xe], mx, AX g11 132 [.int .i64 Z.p, .int .i64 0, .slice none 0 0, .slice none 0 0]] ∧ OwnL cI 1 3 mx xe (mat (Z.zg.d 0) (Z.zg.d 0) Dl)) ?_ (fun s h ms hI => ?_)
 ·refine AW (n := 9) (bs := [true, true, true, true, true, true, false, false, false]) [true, true, true, true, true, true] Cd (by kernel_rfl) (by kernel_rfl) rfl rfl (QF CG rfl (QL rfl underlying3 ((hG1.at0 rfl).any) (QF Bn rfl (QL rfl underlying24 (hA 1 _ rfl _) (Qp rfl (Ah 0 hR.d.rd.any rfl underlying24 A8 rfl rfl rfl (by omega)) (QL rfl underlying3 (hc0 _) ?_))))))
  unfold CD
  simp only [List.cons_append, List.nil_append]
  refine A2 [6, 7] (by kernel_rfl) rfl ?_
  refine Az rfl ?_ ?_
  ·refine Qc call87 rfl (J3 Z.p (Z.zg.d 0) h1 hp (Nat.le_trans (hd 0) (by omega))) (fun x7 h7 ms7 l7 hF => ?_)
   obtain ⟨rfl, xe, mx, rfl, rfl, hOx⟩ := hF
   have ox : xe.oneCell' = true := (hOx.rd (h := h) (ms := [mx]) (List.Mem.head _)).rd.one
   refine Qw (Qo 7 rfl (BZ [.int .i64 0, .int .i64 0, .int .i64 0, .slice none 0 0] rfl AI rfl rfl (fun g4 => Qw (Qo 8 rfl ?_))))
   refine Sa 0 [_, _, _, _] AI rfl (by simp [ox]) ?_
   refine Qw (Qe ?_)
   exact AA _ ⟨g4, xe, mx, rfl, rfl, rfl, hOx⟩ Qs
  refine Az rfl ?_ ?_
  ·refine BZ [.int .i64 0, .int .i64 0, .int .i64 0, .slice none 0 0] rfl AI rfl rfl (fun g4 => Qw (Qo 6 rfl (Qc call87 rfl (J3 Z.p (Z.zg.d 0) h1 hp (Nat.le_trans (hd 0) (by omega))) (fun x7 h7 ms7 l7 hF => ?_))))
   obtain ⟨rfl, xe, mx, rfl, rfl, hOx⟩ := hF
   have ox : xe.oneCell' = true := (hOx.rd (h := h) (ms := [mx]) (List.Mem.head _)).rd.one
   refine Qw (Qo 8 rfl ?_)
   refine Sa 1 [_, _, _, _] AI rfl (by simp [ox]) ?_
   refine Qw (Qe ?_)
   exact A9 (AA _ ⟨g4, xe, mx, rfl, rfl, rfl, hOx⟩ Qs)
  exact A3
 ·obtain ⟨g4, xe, mx, rfl, rfl, rfl, hOx⟩ := hI
  refine AL fun h2 l2 hG4 => (Bg hOx fun h3 l3 hRx => ?_)
  have hG4 := hG4.le l3
  have hA4 := Seg.all hG4
  have hR := hR.up (Hp.le_trans l2 l3)
  have hG1 := hG1.le (Hp.le_trans l2 l3)
  have hA := Seg.all hG1
  refine BX (BX (Cu 2 rfl (Ac (Ax (Qf A0 rfl (Ql rfl underlying3 (hA4 2 _ rfl _) (Qm rfl (Aq (Ag ?_)))))))))
  refine AD (fun q s hh ms' => ∃ (b : Nat) (gb : Nat → Nat) (va : Value) (mB ml : Hp), q = Z.zg.d 0 - b ∧ s = [(1, .pointer (some ⟨g1, 0, none⟩)), (3, .pointer (some ⟨g11, 0, none⟩)), (4, .pointer (some ⟨g4, 0, none⟩)), (20, .int .i64 (Z.zg.d 0)), (21, .int .i64 b)] ∧ h3.le hh ∧ ms' = [AX g11 132 [.int .i64 Z.p, .int .i64 0, va, .slice none 0 0], mB, ml] ∧ b ≤ Z.zg.d 0 ∧ BagS Z.zg.d b (Cc gb) mB ∧ OwnL cV 1 108 ml va ((List.range b).map (A1 (Cc gb))))
   (Z.zg.d 0 - 0) _ ⟨0, fun _ => 0, _, _, _, rfl, rfl, Hp.le_refl _, rfl, by omega, Bag.zero _, OwnL.nil BK⟩ Qs ?_
  rintro q s hh ms' ⟨b, gb, val, mB, ml, rfl, rfl, lb, rfl, hb, B, hO⟩
  have hd0 := hd 0
  refine Ax (Qm rfl (Aq (Ac ?_)))
  refine AF rfl (fun hlt => ?_) (fun hlt => ?_)
  ·have hbl : b < Z.zg.d 0 := Bx hlt
   have hRx := hRx.up lb
   have hA4 := Seg.all (hG4.le lb)
   have hG4 := hG4.le lb
   have hll : ((List.range b).map (A1 (Cc gb))).length ≤ 400 := by simp; omega
   refine Ai (Ab ?_)
   refine Bv (fun s hh ms' => ∃ (gb : Nat → Nat) (va : Value) (mB ml : Hp), s = [(1, .pointer (some ⟨g1, 0, none⟩)), (3, .pointer (some ⟨g11, 0, none⟩)), (4, .pointer (some ⟨g4, 0, none⟩)), (20, .int .i64 (Z.zg.d 0)), (21, .int .i64 b)] ∧ h3.le hh ∧ ms' = [AX g11 132 [.int .i64 Z.p, .int .i64 0, va, .slice none 0 0], mB, ml] ∧ BagS Z.zg.d (b + 1) (Cc gb) mB ∧ OwnL cV 1 108 ml va ((List.range (b + 1)).map (A1 (Cc gb)))) ?_ (fun s h ms hI => ?_)
   ·refine Ag (Ax (Qm rfl (Qm rfl (Aq (AW (n := 15) (bs := [true, true, true, true, false, true, true, true, false, false, false, false, true, true, false]) [true, true, true, true, false, true, true, true, false, false, false, false, true, true] Cd (by kernel_rfl) (by kernel_rfl) rfl rfl (Qq rfl (Qq rfl (Qq rfl (QF DL rfl (Qq rfl (Qp rfl (oG rfl underlying42 AI (Seg.any hG4)) (Qq rfl (Qq rfl (QF DL rfl ?_))))))))))))))
    unfold CD
    simp only [List.cons_append, List.nil_append]
    refine A2 [4, 8] (by kernel_rfl) rfl ?_
    refine Az rfl ?_ ?_
    ·refine Ql rfl underlying106 (Cell.blk 0 (k := 2) rfl rfl) (Qw (Qo 8 rfl (Qc call89 rfl (Eb Z.p (Z.zg.d 0) (Z.zg.d 0) Dl xe b hh (by omega) (by omega) hbl hRx) (fun v h7 ms7 l7 hF => ?_))))
     obtain ⟨rfl, mv, rfl, hOv⟩ := hF
     refine AH hOv fun h7 l7 hRv => ?_
     have ov := hRv.rd.one
     refine Qa (Qo 9 rfl (EB fun h8 l8 lM dM LM => (Qc call88 rfl (Hm Z.zg.d g11 0 (fun i => Dl i b) v _ _ _ h8 (Seg.ofLe lM) (hRv.up l8) (by omega)) (fun x h9 ms9 l9 hF => ?_))))
     obtain ⟨rfl, g, m, rfl, rfl, hS⟩ := hF
     refine Ig LM lM fun h9 q9 b9 => ?_
     have l9 := Hp.le_trans l7 (b9 _ l8 dM)
     refine Qa (Qo 10 rfl ?_)
     refine AB [_] rfl underlying106 Cf rfl (by rfl) rfl rfl (by omega) rfl rfl rfl (fun g34 => ?_)
     refine Qa (Qo 11 rfl ?_)
     refine Ba 4 hO (RdL.one BK (List.Mem.head _) rfl) rfl underlying106 Cf rfl (by omega) rfl rfl rfl (Cj rfl) (by simp only [List.length_singleton]; omega) (by simp only [List.length_singleton]; omega) rfl rfl rfl (fun vl2 ml2 hO2 => ?_)
     have ol2 : vl2.oneCell' = true := (hO2.rd (h := h) (ms := [ml2]) (List.Mem.head _)).rd.one
     refine Qa (Qo 14 rfl ?_)
     refine AK 1 _ rfl G2 rfl rfl (by assumption) rfl rfl (by (simp; done)) rfl rfl ?_
     refine Qa (Qe (Aj (A5 (Ck fun hap => ?_))))
     have hdj : mB.disj m := Hp.disj_symm ((List.pairwise_cons.1 (List.pairwise_cons.1 hap).2).1 _ (by simp))
     refine Db 1 rfl (Db 2 rfl ?_)
     refine Cq (A9 (AA _ ⟨Ja gb b g, vl2, mB.join m, ml2, rfl, Hp.le_trans lb l9, rfl, Bag.snoc (N := b) (B.mono fun l hl x O => by rw [Dp (by omega)]; exact O) (by rw [Do]; exact hS) hdj, ?_⟩ Qs))
     rw [E9, List.map_append, List.map_congr_left fun l hl => show A1 (Cc (Ja gb b g)) l = A1 (Cc gb) l by unfold A1; rw [Dp (by have := List.mem_range.1 hl; omega)]]
     have e1 : [b].map (A1 (Cc (Ja gb b g))) = [.pointer (some ⟨g, 0, none⟩)] := by show [A1 _ b] = _; unfold A1; rw [Do]
     rw [e1]
     exact hO2
    refine Az rfl ?_ ?_
    ·refine Qc call89 rfl (Eb Z.p (Z.zg.d 0) (Z.zg.d 0) Dl xe b hh (by omega) (by omega) hbl hRx) (fun v h7 ms7 l7 hF => ?_)
     obtain ⟨rfl, mv, rfl, hOv⟩ := hF
     refine AH hOv fun h7 l7 hRv => ?_
     have ov := hRv.rd.one
     refine Qa (A2 [4, 9] (by kernel_rfl) rfl ?_)
     refine Az rfl ?_ ?_
     ·refine Ql rfl underlying106 (Cell.blk 0 (k := 2) rfl rfl) (Qa (Qo 9 rfl (EB fun h8 l8 lM dM LM => (Qc call88 rfl (Hm Z.zg.d g11 0 (fun i => Dl i b) v _ _ _ h8 (Seg.ofLe lM) (hRv.up l8) (by omega)) (fun x h9 ms9 l9 hF => ?_)))))
      obtain ⟨rfl, g, m, rfl, rfl, hS⟩ := hF
      refine Ig LM lM fun h9 q9 b9 => ?_
      have l9 := Hp.le_trans l7 (b9 _ l8 dM)
      refine Qa (Qo 10 rfl ?_)
      refine AB [_] rfl underlying106 Cf rfl (by rfl) rfl rfl (by omega) rfl rfl rfl (fun g34 => ?_)
      refine Qa (Qo 11 rfl ?_)
      refine Ba 4 hO (RdL.one BK (List.Mem.head _) rfl) rfl underlying106 Cf rfl (by omega) rfl rfl rfl (Cj rfl) (by simp only [List.length_singleton]; omega) (by simp only [List.length_singleton]; omega) rfl rfl rfl (fun vl2 ml2 hO2 => ?_)
      have ol2 : vl2.oneCell' = true := (hO2.rd (h := h) (ms := [ml2]) (List.Mem.head _)).rd.one
      refine Qa (Qo 14 rfl ?_)
      refine AK 1 _ rfl G2 rfl rfl (by assumption) rfl rfl (by (simp; done)) rfl rfl ?_
      refine Qa (Qe (Aj (A5 (Ck fun hap => ?_))))
      have hdj : mB.disj m := Hp.disj_symm ((List.pairwise_cons.1 (List.pairwise_cons.1 hap).2).1 _ (by simp))
      refine Db 1 rfl (Db 2 rfl ?_)
      refine Cq (A9 (AA _ ⟨Ja gb b g, vl2, mB.join m, ml2, rfl, Hp.le_trans lb l9, rfl, Bag.snoc (N := b) (B.mono fun l hl x O => by rw [Dp (by omega)]; exact O) (by rw [Do]; exact hS) hdj, ?_⟩ Qs))
      rw [E9, List.map_append, List.map_congr_left fun l hl => show A1 (Cc (Ja gb b g)) l = A1 (Cc gb) l by unfold A1; rw [Dp (by have := List.mem_range.1 hl; omega)]]
      have e1 : [b].map (A1 (Cc (Ja gb b g))) = [.pointer (some ⟨g, 0, none⟩)] := by show [A1 _ b] = _; unfold A1; rw [Do]
      rw [e1]
      exact hO2
     refine Az rfl ?_ ?_
     ·refine EB fun h8 l8 lM dM LM => (Qc call88 rfl (Hm Z.zg.d g11 0 (fun i => Dl i b) v _ _ _ h8 (Seg.ofLe lM) (hRv.up l8) (by omega)) (fun x h9 ms9 l9 hF => ?_))
      obtain ⟨rfl, g, m, rfl, rfl, hS⟩ := hF
      refine Ig LM lM fun h9 q9 b9 => ?_
      have l9 := Hp.le_trans l7 (b9 _ l8 dM)
      refine Qa (A2 [4, 10] (by kernel_rfl) rfl ?_)
      refine Az rfl ?_ ?_
      ·refine Ql rfl underlying106 (Cell.blk 0 (k := 2) rfl rfl) (Qa (Qo 10 rfl ?_))
       refine AB [_] rfl underlying106 Cf rfl (by rfl) rfl rfl (by omega) rfl rfl rfl (fun g34 => ?_)
       refine Qa (Qo 11 rfl ?_)
       refine Ba 4 hO (RdL.one BK (List.Mem.head _) rfl) rfl underlying106 Cf rfl (by omega) rfl rfl rfl (Cj rfl) (by simp only [List.length_singleton]; omega) (by simp only [List.length_singleton]; omega) rfl rfl rfl (fun vl2 ml2 hO2 => ?_)
       have ol2 : vl2.oneCell' = true := (hO2.rd (h := h) (ms := [ml2]) (List.Mem.head _)).rd.one
       refine Qa (Qo 14 rfl ?_)
       refine AK 1 _ rfl G2 rfl rfl (by assumption) rfl rfl (by (simp; done)) rfl rfl ?_
       refine Qa (Qe (Aj (A5 (Ck fun hap => ?_))))
       have hdj : mB.disj m := Hp.disj_symm ((List.pairwise_cons.1 (List.pairwise_cons.1 hap).2).1 _ (by simp))
       refine Db 1 rfl (Db 2 rfl ?_)
       refine Cq (A9 (AA _ ⟨Ja gb b g, vl2, mB.join m, ml2, rfl, Hp.le_trans lb l9, rfl, Bag.snoc (N := b) (B.mono fun l hl x O => by rw [Dp (by omega)]; exact O) (by rw [Do]; exact hS) hdj, ?_⟩ Qs))
       rw [E9, List.map_append, List.map_congr_left fun l hl => show A1 (Cc (Ja gb b g)) l = A1 (Cc gb) l by unfold A1; rw [Dp (by have := List.mem_range.1 hl; omega)]]
       have e1 : [b].map (A1 (Cc (Ja gb b g))) = [.pointer (some ⟨g, 0, none⟩)] := by show [A1 _ b] = _; unfold A1; rw [Do]
       rw [e1]
       exact hO2
      refine Az rfl ?_ ?_
      ·refine AB [_] rfl underlying106 Cf rfl (by rfl) rfl rfl (by omega) rfl rfl rfl (fun g34 => ?_)
       refine Qa (Qo 4 rfl (Ql rfl underlying106 (Cell.blk 1 (k := 2) rfl rfl) (Qa (Qo 11 rfl ?_))))
       refine Ba 4 hO (RdL.one BK (List.Mem.head _) rfl) rfl underlying106 Cf rfl (by omega) rfl rfl rfl (Cj rfl) (by simp only [List.length_singleton]; omega) (by simp only [List.length_singleton]; omega) rfl rfl rfl (fun vl2 ml2 hO2 => ?_)
       have ol2 : vl2.oneCell' = true := (hO2.rd (h := h) (ms := [ml2]) (List.Mem.head _)).rd.one
       refine Qa (Qo 14 rfl ?_)
       refine AK 1 _ rfl G2 rfl rfl (by assumption) rfl rfl (by (simp; done)) rfl rfl ?_
       refine Qa (Qe (Aj (A5 (Ck fun hap => ?_))))
       have hdj : mB.disj m := Hp.disj_symm ((List.pairwise_cons.1 (List.pairwise_cons.1 hap).2).1 _ (by simp))
       refine Db 1 rfl (Db 2 rfl ?_)
       refine Cq (A9 (AA _ ⟨Ja gb b g, vl2, mB.join m, ml2, rfl, Hp.le_trans lb l9, rfl, Bag.snoc (N := b) (B.mono fun l hl x O => by rw [Dp (by omega)]; exact O) (by rw [Do]; exact hS) hdj, ?_⟩ Qs))
       rw [E9, List.map_append, List.map_congr_left fun l hl => show A1 (Cc (Ja gb b g)) l = A1 (Cc gb) l by unfold A1; rw [Dp (by have := List.mem_range.1 hl; omega)]]
       have e1 : [b].map (A1 (Cc (Ja gb b g))) = [.pointer (some ⟨g, 0, none⟩)] := by show [A1 _ b] = _; unfold A1; rw [Do]
       rw [e1]
       exact hO2
      exact A3
     exact A3
    exact A3
   ·obtain ⟨gb, va, mB, ml, rfl, lb, rfl, B, hO⟩ := hI
    refine Ad (Qx (oA rfl) rfl (Qm rfl (Ak ?_)))
    exact Al (Z.zg.d 0 - (b + 1)) _ (by omega) ⟨b + 1, gb, va, mB, ml, rfl, rfl, lb, rfl, by omega, B, hO⟩ Qs
  ·obtain rfl : b = Z.zg.d 0 := by omega
   have hR := hR.up lb
   have hG1 := hG1.le lb
   have hAb := Seg.all hG1
   refine Aw (Aa (Aa (Af (Ab (Cu 2 rfl (Bg hO fun h4 l4 hRal => (Di (BX (Cu 1 rfl (Cu 2 rfl (Di ?_)))))))))))
   have hR := hR.up l4
   have hG1 := hG1.le l4
   have hAb := Seg.all hG1
   refine Ac (Ax (Qf BQ rfl (Ql rfl underlying28 (hAb 2 _ rfl _) (Qx (AJ hR.a.rd.any rfl underlying28 rfl) rfl (Qm rfl (Aq (Ag ?_)))))))
   refine AD (fun q s hh ms' => ∃ (k N : Nat) (S : Nat → SM) (al en : List Nat) (val ve : Value) (mB me : Hp), q = Z.ars.length - k ∧ s = [(3, .pointer (some ⟨g11, 0, none⟩)), (40, va), (41, .int .i64 Z.ars.length), (42, .int .i64 k)] ∧ h4.le hh ∧ ms' = [mB, AX g11 132 [.int .i64 Z.p, .int .i64 k, val, ve], me] ∧ k ≤ Z.ars.length ∧ N ≤ 200 * (k + 1) ∧ RdL cV 1 hh [] val (al.map (A1 S)) ∧ OwnL cV 1 108 me ve (en.map (A1 S)) ∧ BagS Z.zg.d N S mB ∧ Mch Z.zg k N S al en)
    (Z.ars.length - 0) _ ⟨0, Z.zg.d 0, Cc gb, List.range (Z.zg.d 0), [], _, _, mB, _, rfl, rfl, Hp.le_refl _, rfl, by omega, by omega, hRal, OwnL.nil BK, B, Pd hbp gb⟩ Qs ?_
   rintro q s hh ms' ⟨k, N, S, al, en, val, ve, mB, me, rfl, rfl, lk, rfl, hk, hN, hal, hen, B, M⟩
   have hR := hR.up lk
   refine Ax (Qm rfl (Aq (Ac ?_)))
   refine AF rfl (fun hlt => ?_) (fun hlt => ?_)
   ·have hk' : k < Z.ars.length := Bx hlt
    obtain ⟨e1, e2, e3, e4, RA⟩ := Z.arrow hRt hk'
    have hRe := hR.e _ (List.getElem_mem hk')
    have oa := hRe.rd.one
    have hbk := Z.zg_back hk'
    refine Ai (Ab ?_)
    refine Bv (fun s hh2 ms' => ∃ (N : Nat) (S : Nat → SM) (al en : List Nat) (val ve : Value) (mB me : Hp), s = [(3, .pointer (some ⟨g11, 0, none⟩)), (40, va), (41, .int .i64 Z.ars.length), (42, .int .i64 k)] ∧ hh.le hh2 ∧ ms' = [mB, AX g11 132 [.int .i64 Z.p, .int .i64 ((k : Int) + 1), val, ve], me] ∧ N ≤ 200 * (k + 2) ∧ RdL cV 1 hh2 [] val (al.map (A1 S)) ∧ OwnL cV 1 108 me ve (en.map (A1 S)) ∧ BagS Z.zg.d N S mB ∧ Mch Z.zg (k + 1) N S al en) ?_ (fun s h ms hI => ?_)
    ·refine Ag (Ax (Qx (Ah _ hR.a.rd.any rfl underlying28 Cr rfl rfl rfl (by omega)) rfl (Qx (oG rfl underlying45 Cr (hR.a.any.seg hk')) rfl (BZ [.bool false, .int .i64 0, .int .i64 0, .int .i64 0, .slice none 0 0] rfl Cr rfl rfl (fun g7 => ?_)))))
     refine Sa 0 [_, _, _, _, _] Cr rfl (by simp [oa]) ?_
     refine Aq (AL fun h5 l5 hG7 => ?_)
     have hA7 := Seg.all hG7
     have hal := hal.up l5
     have hRe := hRe.up l5
     rw [e4] at hRe
     have hS7 : ∀ ms, Seg h5 ms ((⟨g7, 0, none⟩ : Addr).add 1) [.int .i64 Z.p, .int .i64 (Z.zg.d (Z.zg.tgt k)), .int .i64 (Z.zg.d (Z.zg.src k)), Z.ars[k].v] := fun ms i u hu => by
      rw [A6]
      rw [← e1, ← e2, ← e3] at hu
      exact hA7 (1 + i) u (by rw [Nat.add_comm]; exact hu) ms
     have hval := hal.rd.one
     refine Ax (Qf EK rfl (Ql rfl underlying4 (hA7 0 _ rfl _) (Aq ?_)))
     refine BJ rfl (fun hb => ?_) (fun hb => ?_)
     ·have ht : Z.zg.tgt k = k := by unfold Zg.tgt; rw [hbk, hb]; rfl
      have hs : Z.zg.src k = k + 1 := by unfold Zg.src; rw [hbk, hb]; rfl
      rw [ht, hs] at hS7 hRe RA
      refine Ad (Qm rfl (Qf Ca rfl (Qx (oG rfl underlying42 AI (hS7 _)) rfl (Bs (pre := [mB, AX g11 132 [.int .i64 Z.p, .int .i64 k, val, ve], me]) rfl call90 rfl (LK Z.zg k N S al en g11 val ve Z.ars[k].v me mB h5 hp hd (by omega) (by omega) M (hbk.trans hb) RA hRe hal hen B) rfl rfl rfl rfl (fun x h6 ms6 l6 hF => ?_)))))
      obtain ⟨l6', nb, S', al', en', val', ve', me', mB', rfl, hnb, hal', hen', B', M'⟩ := hF
      refine Ak (Aj ?_)
      exact AA _ ⟨N + nb, S', al', en', val', ve', mB', me', rfl, Hp.le_trans l5 l6, rfl, by omega, hal', hen', B', M'⟩ Qs
     ·have ht : Z.zg.tgt k = k + 1 := by unfold Zg.tgt; rw [hbk, hb]; rfl
      have hs : Z.zg.src k = k := by unfold Zg.src; rw [hbk, hb]; rfl
      rw [ht, hs] at hS7 hRe RA
      refine Ad (Qm rfl (Qf Ca rfl (Qx (oG rfl underlying42 AI (hS7 _)) rfl (Bs (pre := [mB, AX g11 132 [.int .i64 Z.p, .int .i64 k, val, ve], me]) rfl call91 rfl (Mt Z.zg k N S al en g11 val ve Z.ars[k].v me mB h5 hp hd (by omega) (by omega) M (hbk.trans hb) RA hRe hal hen B) rfl rfl rfl rfl (fun x h6 ms6 l6 hF => ?_)))))
      obtain ⟨l6', nb, S', al', en', val', ve', me', mB', rfl, hnb, hal', hen', B', M'⟩ := hF
      refine Ak (Aj ?_)
      exact AA _ ⟨N + nb, S', al', en', val', ve', mB', me', rfl, Hp.le_trans l5 l6, rfl, by omega, hal', hen', B', M'⟩ Qs
    ·obtain ⟨N', S', al', en', val', ve', mB', me', rfl, l6, rfl, hN', hal', hen', B', M'⟩ := hI
     refine Ad (Qx (oA rfl) rfl (Qm rfl (Ak ?_)))
     exact Al (Z.ars.length - (k + 1)) _ (by omega) ⟨k + 1, N', S', al', en', val', ve', mB', me', rfl, rfl, Hp.le_trans lk l6, rfl, by omega, by omega, hal', hen', B', M'⟩ Qs
   ·obtain rfl : k = Z.ars.length := by omega
    refine Aw (Aa (Aa (Af (Ab (Cu 1 rfl (AL fun h5 l5 hGm => ?_))))))
    have hAm := Seg.all hGm
    have hal := hal.up l5
    have hperm := M.perm
    have hlen := hperm.length_eq
    rw [List.length_append, List.length_range] at hlen
    have oal := hal.rd.one
    have oen : ve.oneCell' = true := (hen.rd (h := h) (ms := [me]) (List.Mem.head _)).rd.one
    refine Bv (fun s hh ms' => ∃ (ve2 : Value) (me2 : Hp), s = [(2, ve2)] ∧ h5 = hh ∧ ms' = [mB, me2] ∧ OwnL cV 1 108 me2 ve2 (en.map (A1 S) ++ al.map (A1 S))) ?_ (fun s h ms hI => ?_)
    ·refine AW (n := 10) (bs := [true, true, true, true, true, true, true, true, false, false]) [true, true, true, true, true, true, true, true] Cd (by kernel_rfl) (by kernel_rfl) rfl rfl (Qq rfl (Qq rfl (QF Hj rfl (QL rfl underlying106 (hAm 3 _ rfl _) (Qq rfl (Qq rfl (QF DL rfl (QL rfl underlying106 (hAm 2 _ rfl _) ?_))))))))
     unfold CD
     simp only [List.cons_append, List.nil_append]
     refine Qo 8 rfl ?_
     refine Ba 1 hen hal.any rfl underlying106 Cf rfl (by omega) rfl rfl rfl Qy (by simp only [List.length_map]; omega) (by simp only [List.length_map]; omega) rfl rfl rfl (fun ve2 me2 hen2 => ?_)
     refine Qw (Qo 9 rfl (Qm rfl (Qw (Qe ?_))))
     exact AA _ ⟨ve2, me2, rfl, rfl, rfl, hen2⟩ Qs
    ·obtain ⟨ve2, me2, rfl, rfl, rfl, hen2⟩ := hI
     rw [← List.map_append] at hen2
     have e : Z.zg.tr Z.ars.length = Z.zg := by
      show ({ Z.zg with n := Z.ars.length + 1 } : Zg) = Z.zg
      rw [hna]; rfl
     have hV := M.val
     rw [e] at hV
     refine Ao ?_
     exact Am rfl rfl (⟨Hp.le_trans l1 (Hp.le_trans (Hp.le_trans l2 l3) (Hp.le_trans lb (Hp.le_trans l4 (Hp.le_trans lk l5)))), N, S, en ++ al, me2, mB, rfl, by omega, hen2, B, hperm, hV, M.bd⟩)
end Go.Proofs.YtdnelknieikbaaaGreat
namespace Go.Proofs.YtdnelknieikbaaaGreat
open Tryz
open Go.Eng Go.RowKit Go.Lin
def c3 (x y : Int) : Int := if x < y then -1 else if y < x then 1 else 0
def D3 (a b : Int × Int) : Int := if c3 a.1 b.1 ≠ 0 then c3 a.1 b.1 else c3 a.2 b.2
theorem Cm (a b : Int × Int) : D3 a b < 0 ↔ a.1 < b.1 ∨ (a.1 = b.1 ∧ a.2 < b.2) := by
 unfold D3 c3
 repeat' split
 all_goals omega
theorem Oa (x : Int) (h : Hp) (ms : List Hp) : Dq Tryz.prog 105 #[.int .i64 x] h ms (.bool false) := by
 refine Ds ?_ ms
 refine Av func105 ntmps105 rfl rfl (fun w0 hw0 => ?_)
 simp only [A4]
 refine Ax (Qm rfl (B3 (Qm rfl (Qm rfl (Qm rfl (Qm rfl (Aq (Ao ?_))))))))
 exact Am rfl rfl (by simp)
theorem JF (x y : Int) (h : Hp) (ms : List Hp) : Dq Tryz.prog 79 #[.int .i64 x, .int .i64 y] h ms (.int .i64 (c3 x y)) := by
 refine Ds ?_ ms
 refine Av func79 ntmps79 rfl rfl (fun w0 hw0 => ?_)
 simp only [A4]
 refine Ax (Qm rfl (B3 (Qm rfl (Qx (AG rfl call105 rfl (Oa _ _ _)) rfl (Qm rfl (B3 (Qm rfl (Qx (AG rfl call105 rfl (Oa _ _ _)) rfl (Qm rfl (Aq (Ac (Ax (Qm rfl (Aq (Bb rfl (Ai (Ab (Ac (Ax (Qm rfl (Aq (Bb rfl (Ai (Ab (Ac (Ax (Qm rfl (Qm rfl (Qm rfl (Aq ?_))))))))))))))))))))))))))))))
 refine AF rfl (fun h1 => ?_) (fun h1 => ?_)
 ·refine Ac (Ad (Qm rfl (Aq (Ao (Ae ?_)))))
  exact Am rfl rfl (by unfold c3; rw [if_pos h1])
 ·refine Ai (Ab (Ac (Ax (Qm rfl (Qm rfl (Qm rfl (Aq ?_)))))))
  refine AF rfl (fun h2 => ?_) (fun h2 => ?_)
  ·refine Ac (Ad (Qm rfl (Aq (Ao (Ae ?_)))))
   exact Am rfl rfl (by unfold c3; rw [if_neg h1, if_pos h2])
  ·refine Ai (Ab (Ax (Qm rfl (Aq (Ao ?_)))))
   exact Am rfl rfl (by unfold c3; rw [if_neg h1, if_neg h2])
def Vv : List Int → Int
 | [] => 0
 | x :: l => if x ≠ 0 then x else Vv l
theorem Q2 {l : List Int} {k : Nat} (hk : k < l.length) : Vv (l.drop k) = if l[k] ≠ 0 then l[k] else Vv (l.drop (k + 1)) := by
 rw [List.drop_eq_getElem_cons hk]; rfl
theorem Wv (l : List Int) (v : Value) (h : Hp) (hR : RdL cI 1 h [] v l) : Dq Tryz.prog 78 #[v] h [] (.int .i64 (Vv l)) := by
 refine Ds ?_ []
 have hl := hR.len_le
 refine Av func78 ntmps78 rfl rfl (fun w0 hw0 => ?_)
 simp only [A4]
 refine Ax (Qm rfl (B3 (Qm rfl (Aq (Ac (Ax (Qm rfl (Qx (AJ hR.rd.any rfl underlying24 rfl) rfl (Qm rfl (Aq (Ag ?_)))))))))))
 refine AD (fun q s h' ms' => ∃ (k : Nat), q = l.length - k ∧ s = [(3, .int .i64 0), (6, v), (7, .int .i64 l.length), (8, .int .i64 k)] ∧ h = h' ∧ ms' = [] ∧ k ≤ l.length ∧ Vv (l.drop k) = Vv l)
  (l.length - 0) _ ⟨0, rfl, rfl, rfl, rfl, by omega, rfl⟩ Qs ?_
 rintro q s h' ms' ⟨k, rfl, rfl, rfl, rfl, hk, ho⟩
 refine Ax (Qm rfl (Aq (Ac ?_)))
 refine AF rfl (fun hlt => ?_) (fun hlt => ?_)
 ·have hkl : k < l.length := Bx hlt
  rw [Q2 hkl] at ho
  refine Ai (Ab (Ac (Ag (Ax (Qx (Ah _ hR.rd.any rfl underlying24 A8 rfl rfl rfl (by omega)) rfl (Ql rfl underlying3 (hR.any.cell0 hkl rfl) (Qm rfl (B3 (Qm rfl (Qm rfl (Qm rfl (Aq ?_))))))))))))
  refine AF rfl (fun h1 => ?_) (fun h1 => ?_)
  ·refine Ac (Ad (Qm rfl (Qm rfl (Aq (Ao (Ap (Ae (Ae (Ap (Ae ?_))))))))))
   exact Am rfl rfl (by rw [← ho, if_pos h1])
  ·refine Ai (Aj (Ab (Ad (Qx (oA rfl) rfl (Qm rfl (Ak ?_))))))
   refine Al (l.length - (k + 1)) _ (by omega) ⟨k + 1, rfl, rfl, rfl, rfl, by omega, ?_⟩ Qs
   rw [if_neg h1] at ho
   exact ho
 ·obtain rfl : k = l.length := by omega
  refine Aw (Aa (Aa (Af (Ab (Ax (Qm rfl (Qm rfl (Aq (Ao ?_)))))))))
  exact Am rfl rfl (by rw [← ho, List.drop_length]; rfl)
theorem QA {h : Hp} {g : Nat} {x y : Int} (hS : Seg h [] ⟨g, 0, none⟩ [.int .i64 x, .int .i64 y]) : RdL cI 1 h [] (.slice (some ⟨g, 0, none⟩) 2 2) [x, y] :=
 ⟨⟨_, 2, rfl, Nat.le_refl _, by omega, rfl, fun _ => ⟨_, rfl, hS⟩⟩, fun _ => rfl⟩
theorem WF (a b : Int × Int) : Vv [c3 a.1 b.1, c3 a.2 b.2] = D3 a b := by
 unfold D3
 show (if _ then _ else if _ then _ else (0 : Int)) = _
 split
 ·rfl
 ·split
  ·rfl
  ·rename_i h; omega
theorem Uj (a b : Int × Int) (h : Hp) : FnT Tryz.prog 43 #[.agg #[.int .i64 a.1, .int .i64 a.2], .agg #[.int .i64 b.1, .int .i64 b.2]] h [] (fun r h' ms' => r = .int .i64 (D3 a b)) := by
 refine Av func43 ntmps43 rfl rfl (fun w0 hw0 => ?_)
 simp only [A4]
 refine Ax ?_
 refine AS [_, _] rfl rfl (by rfl) rfl rfl rfl (fun g2 => ?_)
 refine AS [_, _] rfl rfl (by rfl) rfl rfl rfl (fun g3 => ?_)
 refine Qm rfl (Aq (AL fun h1 l1 hG3 => (AL fun h2 l2 hG2 => ?_)))
 have hG3 := hG3.le l2
 have hA2 := Seg.all hG2
 have hA3 := Seg.all hG3
 refine Bv (fun s hh ms' => s = [(4, .int .i64 (D3 a b))] ∧ ms' = [] ∧ h2.le hh) ?_ (fun s h ms hI => ?_)
 ·refine AW (n := 13) (bs := [true, true, true, true, true, true, true, true, true, true, false, false, false]) [true, true, true, true, true, true, true, true, true, true] Cd (by kernel_rfl) (by kernel_rfl) rfl rfl (Qp rfl (C8 0 rfl underlying53 A8 rfl rfl rfl (by omega)) (QL rfl underlying3 (hA2 0 _ rfl _) (Qp rfl (C8 0 rfl underlying53 A8 rfl rfl rfl (by omega)) (QL rfl underlying3 (hA3 0 _ rfl _) (Qp rfl (AG rfl call79 rfl (JF _ _ _ _)) (Qp rfl (C8 1 rfl underlying53 A8 rfl rfl rfl (by omega)) (QL rfl underlying3 (hA2 1 _ rfl _) (Qp rfl (C8 1 rfl underlying53 A8 rfl rfl rfl (by omega)) (QL rfl underlying3 (hA3 1 _ rfl _) (Qp rfl (AG rfl call79 rfl (JF _ _ _ _)) ?_))))))))))
  unfold CD
  simp only [List.cons_append, List.nil_append]
  refine Qo 10 rfl ?_
  refine AZ [(0, _), (1, _)] [.int .i64 0, .int .i64 0] [_, _] rfl underlying24 A8 rfl (by omega) (by kernel_rfl) (by repeat (first | exact trivial | refine ⟨⟨by rfl, rfl, rfl⟩, ?_⟩)) rfl rfl rfl rfl (fun g15 => ?_)
  refine Qw (Qo 11 rfl (BD fun h3 l3 hS => (Qx (AG rfl call78 rfl (Wv [c3 a.1 b.1, c3 a.2 b.2] _ h3 (QA hS))) rfl (Qa (Qo 12 rfl (Qm rfl (Qa (Qe ?_))))))))
  rw [WF]
  exact AA _ ⟨rfl, rfl, l3⟩ Qs
 ·obtain ⟨rfl, rfl, hle⟩ := hI
  refine Ao ?_
  exact Am rfl rfl (rfl)
end Go.Proofs.YtdnelknieikbaaaGreat
namespace Go.Proofs.YtdnelknieikbaaaGreat
open Tryz
open Go.Eng Go.RowKit Go.Lin Go.Sort Go.Srt
variable {m h : Hp} {v : Value} {ms : List Hp}
structure StE where
 fr : Int
 to : Int
 v : Value
 one : v.oneCell' = true
instance : Inhabited StE := ⟨⟨0, 0, .slice none 0 0, rfl⟩⟩
def StE.key (s : StE) : Int × Int := (s.fr, s.to)
def cS (s : StE) : List Value := [.int .i64 s.fr, .int .i64 s.to, s.v]
theorem ML : ∀ s, (cS s).length = 3 := fun _ => rfl
theorem Mi (s : StE) : ∀ c ∈ cS s, c.oneCell' = true := fun c hc => by
 simp only [cS, List.mem_cons, List.not_mem_nil, or_false] at hc
 rcases hc with rfl | rfl | rfl
 ·rfl
 ·rfl
 ·exact s.one
def Ep (x y : StE) : Bool := decide (D3 x.key y.key < 0)
theorem Ik : SWO Ep := by
 refine ⟨fun x => ?_, fun x y z h1 h2 => ?_, fun x y z h1 h2 => ?_⟩
 ·unfold Ep; rw [decide_eq_false_iff_not, Cm]; omega
 ·unfold Ep at *; rw [decide_eq_true_iff, Cm] at *; omega
 ·unfold Ep at *; rw [decide_eq_false_iff_not, Cm] at *; omega
theorem Kp (x y : StE) (h : Hp) (ms : List Hp) : Dq Tryz.prog 59 #[.agg (cS x).toArray, .agg (cS y).toArray] h ms (.int .i64 (D3 x.key y.key)) := by
 refine Ds ?_ ms
 have o1 := x.one
 have o2 := y.one
 show FnT _ _ #[.agg #[.int .i64 x.fr, .int .i64 x.to, x.v], .agg #[.int .i64 y.fr, .int .i64 y.to, y.v]] _ _ _
 refine Av func59 ntmps59 rfl rfl (fun w0 hw0 => ?_)
 simp only [A4]
 refine Ax ?_
 refine AS [_, _, _] rfl rfl (by rfl) rfl rfl rfl (fun g2 => ?_)
 refine AS [_, _, _] rfl rfl (by rfl) rfl rfl rfl (fun g3 => ?_)
 refine Qm rfl (Aq (AL fun h1 l1 hG3 => (AL fun h2 l2 hG2 => ?_)))
 have hG3 := hG3.le l2
 have hA2 := Seg.all hG2
 have hA3 := Seg.all hG3
 refine Ax (Qf E0 rfl (Ql rfl underlying3 (hA2 0 _ rfl _) (Qf Fd rfl (Ql rfl underlying3 (hA2 1 _ rfl _) ?_))))
 refine Qx (EO [.int .i64 0, .int .i64 0] [(0, [_]), (1, [_])] [_, _] rfl underlying53 Fx rfl A8 rfl (by repeat (first | exact trivial | refine ⟨⟨by rfl, rfl, rfl⟩, ?_⟩)) rfl) rfl ?_
 refine Qf E0 rfl (Ql rfl underlying3 (hA3 0 _ rfl _) (Qf Fd rfl (Ql rfl underlying3 (hA3 1 _ rfl _) ?_)))
 refine Qx (EO [.int .i64 0, .int .i64 0] [(0, [_]), (1, [_])] [_, _] rfl underlying53 Fx rfl A8 rfl (by repeat (first | exact trivial | refine ⟨⟨by rfl, rfl, rfl⟩, ?_⟩)) rfl) rfl ?_
 refine Qx (AG rfl call43 rfl (Ds (Uj x.key y.key _) _)) rfl (Qm rfl (Aq (Ao ?_)))
 exact Am rfl rfl (rfl)
abbrev OS (m : Hp) (v : Value) (d : Array StE) : Prop := OwnL cS 3 64 m v d.toList
theorem OS.rd {d : Array StE} (O : OS m v d) (hm : m ∈ ms) : Rd h ms v 3 d.size (d.toList.flatMap cS) := by
 have := (OwnL.rd O hm (h := h)).rd; rwa [Array.length_toList] at this
theorem OS.get {d : Array StE} (O : OS m v d) (hm : m ∈ ms) {j : Nat} (hj : j < d.size) : Seg h ms ((Bl v).add (j * 3)) (cS d[j]!) := by
 have := (OwnL.rd O hm (h := h)).seg (j := j) (by simpa using hj)
 simpa [hj] using this
theorem Dn {e : Entry} {Q : Exit → Act → World → Prop} {ops : Array Oper} {rest : List Oper} {o : Oper} {s : Ay} {t : TypeId} {x y : Operand} {z : Value} {bytes : Nat} {a : StE} {d : Array StE} (i j : Nat) (O : OS m v d) (ho : o.op = .store t x y) (hs : Elem e.P t 3 z bytes) (hx : ev s x = some (.pointer (some ((Bl v).add (j * 3))))) (hy : ev s y = some (.agg (cS a).toArray))
  (hm : ms[i]? = some m) (hj : j < d.size) (hd : o.dst = none) (hg : o.guard = none)
  (K : ∀ m', (d.setIfInBounds j a).size = d.size → OS m' v (d.setIfInBounds j a) → WL e ops Q rest s h (ms.set i m')) : WL e ops Q (o :: rest) s h ms :=
 M2 i j a O ho hs hx hy rfl (Mi a) hm (by simpa using hj) hd hg fun m' O' => K m' (by simp) (by
  show OwnL cS 3 64 m' v (d.setIfInBounds j a).toList
  rw [Array.toList_setIfInBounds]; exact O')
theorem Fo (d : Array StE) (v cv : Value) (m : Hp) (hO : OS m v d) (a b n lo hi : Nat) (hab : a + n ≤ b) (hb : b + n ≤ d.size) (hsz : d.size ≤ 1000000) (hlo : lo ≤ a) (hhi : b + n ≤ hi) (hhs : hi ≤ d.size) (h : Hp) {a' b' n' : Int} (ea : a' = a) (eb : b' = b) (en : n' = n) :
  FnT Tryz.prog 152 #[v, .int .i64 a', .int .i64 b', .int .i64 n', cv] h [m] (fun _ h' ms' => h = h' ∧ ∃ m' d', ms' = [m'] ∧ OS m' v d' ∧ SwR d d' a b n ∧ PermIn lo hi d d') := by
 subst ea eb en
 refine Av func152 ntmps152 rfl rfl (fun w0 hw0 => ?_)
 simp only [A4]
 refine Ax (Qm rfl (Aq (Ag ?_)))
 refine AD (fun q s h' ms' => ∃ (i : Nat) (d0 : Array StE) (m : Hp), q = n - i ∧ s = [(0, v), (1, .int .i64 a), (2, .int .i64 b), (3, .int .i64 n), (10, .int .i64 i)] ∧ h = h' ∧ ms' = [m] ∧ i ≤ n ∧ OS m v d0 ∧ SwR d d0 a b i ∧ PermIn lo hi d d0)
  (n - 0) _ ⟨0, d, m, rfl, rfl, rfl, rfl, by omega, hO, SwR.start d a b, permIn_refl d lo hi⟩ Qs ?_
 rintro q s h' ms' ⟨i, d0, m0, rfl, rfl, rfl, rfl, hi2, hO0, S, P⟩
 have hds := S.1
 refine Ac (Ax (Qm rfl (Qm rfl (Qm rfl (Aq ?_)))))
 refine AF rfl (fun hlt => ?_) (fun hlt => ?_)
 ·refine Ai (Ab (Ac (Ag (Hd 20 [false, false, false, false, true, true, true, true] Cd (by kernel_rfl) (by kernel_rfl) (by kernel_rfl) (HK rfl rfl rfl rfl (D4 rfl rfl) (HK rfl rfl rfl rfl (D4 rfl rfl) (HK rfl rfl rfl rfl (D4 rfl rfl) (HK rfl rfl rfl rfl (QY rfl rfl rfl (by omega)) ?_))))))))
  refine ⟨rfl, ?_⟩
  simp only [EH, zap, List.cons_append, List.nil_append, List.take_succ_cons, List.take_zero, List.drop_succ_cons, List.drop_zero, List.take_nil, List.drop_nil]
  refine Wm rfl (Wm rfl (Wm rfl (AV (oA rfl) rfl rfl (HL rfl rfl rfl (HL rfl rfl rfl (HL rfl rfl rfl (HL rfl rfl rfl (Wm rfl (Wm rfl (Wm rfl (AV (oA rfl) rfl rfl (AV (Ah (b + i) (hO0.rd (.head _)) rfl underlying60 BP rfl rfl (by omega) (by omega)) rfl rfl (AV (oG rfl underlying64 BP (hO0.get (.head _) (by omega))) rfl rfl (Wm rfl (Wm rfl (Wm rfl (AV (oA rfl) rfl rfl (AV (Ah (a + i) (hO0.rd (.head _)) rfl underlying60 BP rfl rfl (by omega) (by omega)) rfl rfl (AV (oG rfl underlying64 BP (hO0.get (.head _) (by omega))) rfl rfl (BC (Qx (Ah (a + i) (hO0.rd (.head _)) rfl underlying60 BP rfl rfl (by omega) (by omega)) rfl (Dn 0 _ hO0 rfl BP rfl rfl rfl (by omega) rfl rfl (fun mhO1 hzhO1 hO1 => Qx (Ah (b + i) (hO1.rd (.head _)) rfl underlying60 BP rfl rfl (by omega) (by omega)) rfl (Dn 0 _ hO1 rfl BP rfl rfl rfl (by omega) rfl rfl (fun mhO2 hzhO2 hO2 => Ak (NQ (Aj (Ab (Ad (Qm rfl (Qx (oA rfl) rfl (Qm rfl (Ak ?_)))))))))))))))))))))))))))))))))
  refine Al (n - (i + 1)) _ (by omega) ⟨i + 1, _, mhO2, rfl, rfl, rfl, rfl, by omega, hO2, S.step (by omega) (by omega), permIn_trans _ _ _ _ _ P (swp_permIn d0 lo hi (a + i) (b + i) (by omega) (by omega) (by omega) (by omega) (by omega))⟩ Qs
 ·obtain rfl : i = n := by omega
  refine Aw (Aa (Aa (Af ?_)))
  exact B6 rfl (⟨rfl, m0, d0, rfl, hO0, S, P⟩)
theorem Ot (d : Array StE) (v cv : Value) (m : Hp) (hO : OS m v d) (a t b lo hi : Nat) (hat : a < t) (htb : t < b) (hb : b ≤ d.size) (hsz : d.size ≤ 1000000) (hlo : lo ≤ a) (hhi : b ≤ hi) (hhs : hi ≤ d.size) (h : Hp) {a' t' b' : Int} (ea : a' = a) (et : t' = t) (eb : b' = b) :
  FnT Tryz.prog 139 #[v, .int .i64 a', .int .i64 t', .int .i64 b', cv] h [m] (fun _ h' ms' => h = h' ∧ ∃ m' d', ms' = [m'] ∧ OS m' v d' ∧ (∀ k, d'[k]! = EZ d a t b k) ∧ PermIn lo hi d d') := by
 subst ea et eb
 refine Av func139 ntmps139 rfl rfl (fun w0 hw0 => ?_)
 simp only [A4]
 refine Ax (Qm rfl (Qm rfl (Qx (oS rfl) rfl (Qm rfl (B3 (Qm rfl (Qm rfl (Qx (oS rfl) rfl (Qm rfl (Aq (Ac (Ag ?_))))))))))))
 refine AD (fun q s h' ms' => ∃ (i j : Nat) (x y : Int) (d0 : Array StE) (m : Hp), q = i + j ∧ s = [(0, v), (2, .int .i64 t), (4, cv), (10, .int .i64 x), (11, .int .i64 y)] ∧ h = h' ∧ ms' = [m] ∧ x = i ∧ y = j ∧ 0 < i ∧ 0 < j ∧ a + i ≤ t ∧ t + j ≤ b ∧ OS m v d0 ∧ (∀ k, EZ d0 (t - i) t (t + j) k = EZ d a t b k) ∧ PermIn lo hi d d0)
  ((t - a) + (b - t)) _ ⟨t - a, b - t, (t : Int) - a, (b : Int) - t, d, m, rfl, rfl, rfl, rfl, by omega, by omega, by omega, by omega, by omega, by omega, hO, fun k => by rw [show t - (t - a) = a by omega, show t + (b - t) = b by omega], permIn_refl d lo hi⟩ Qs ?_
 rintro q s h' ms' ⟨i, j, x, y, d0, m0, rfl, rfl, rfl, rfl, rfl, rfl, hi0, hj0, hai, hjb, hO0, hR, P⟩
 have hds := P.1
 refine Ac (Ax (Qm rfl (Qm rfl (Qm rfl (Aq ?_)))))
 refine AF rfl (fun hne => ?_) (fun hne => ?_)
 ·refine Ai (Ab (Ag (Ax (Qm rfl (Qm rfl (Qm rfl (Aq ?_)))))))
  refine AF rfl (fun hgt => ?_) (fun hgt => ?_)
  ·refine Ac (Ad (Qm rfl (Qm rfl (Qm rfl (Qx (oS rfl) rfl (Qm rfl (Qm rfl (Qm rfl (Bs (pre := [m0]) rfl call152 rfl (Fo d0 v cv m0 hO0 (t - i) t j lo hi (by omega) (by omega) (by omega) (by omega) (by omega) (by omega) h (by omega) rfl rfl) rfl rfl rfl rfl (fun r h1 ms1 l1 hF => ?_))))))))))
   obtain ⟨rfl, m1, d1, rfl, hO1, S, P1⟩ := hF
   refine IA (Qm rfl (Qm rfl (Qx (oS rfl) rfl (Qm rfl (Ak (Aj ?_))))))
   refine Al ((i - j) + j) _ (by omega) ⟨i - j, j, (i : Int) - j, j, d1, m1, rfl, rfl, rfl, rfl, by omega, rfl, by omega, by omega, by omega, by omega, hO1, fun k => (QZ (by omega) (by omega) S k).trans (hR k), permIn_trans _ _ _ _ _ P P1⟩ Qs
  ·refine Ac (Ad (Qm rfl (Qm rfl (Qm rfl (Qx (oS rfl) rfl (Qm rfl (Qm rfl (Qx (oA rfl) rfl (Qm rfl (Qx (oS rfl) rfl (Qm rfl (Qm rfl (Bs (pre := [m0]) rfl call152 rfl (Fo d0 v cv m0 hO0 (t - i) (t + j - i) i lo hi (by omega) (by omega) (by omega) (by omega) (by omega) (by omega) h (by omega) (by omega) rfl) rfl rfl rfl rfl (fun r h1 ms1 l1 hF => ?_))))))))))))))
   obtain ⟨rfl, m1, d1, rfl, hO1, S, P1⟩ := hF
   refine IA (Qm rfl (Qm rfl (Qx (oS rfl) rfl (Qm rfl (Ak (Aj ?_))))))
   refine Al (i + (j - i)) _ (by omega) ⟨i, j - i, i, (j : Int) - i, d1, m1, rfl, rfl, rfl, rfl, rfl, by omega, by omega, by omega, by omega, by omega, hO1, fun k => (M5 (by omega) (by omega) S k).trans (hR k), permIn_trans _ _ _ _ _ P P1⟩ Qs
 ·obtain rfl : i = j := by omega
  refine Aw (Aa (Aa (Af (Ab (Ad (Qm rfl (Qm rfl (Qm rfl (Qx (oS rfl) rfl (Qm rfl (Qm rfl (Qm rfl (Bs (pre := [m0]) rfl call152 rfl (Fo d0 v cv m0 hO0 (t - i) t i lo hi (by omega) (by omega) (by omega) (by omega) (by omega) (by omega) h (by omega) rfl rfl) rfl rfl rfl rfl (fun r h1 ms1 l1 hF => ?_))))))))))))))
  obtain ⟨rfl, m1, d1, rfl, hO1, S, P1⟩ := hF
  refine Ak ?_
  exact B6 rfl (⟨rfl, m1, d1, rfl, hO1, fun k => (PM (by omega) S k).trans (hR k), permIn_trans _ _ _ _ _ P P1⟩)
end Go.Proofs.YtdnelknieikbaaaGreat
namespace Go.Proofs.YtdnelknieikbaaaGreat
open Tryz
open Go.Eng Go.RowKit Go.Lin Go.Sort Go.Srt
variable {h : Hp} {P : Prop}
noncomputable def bl (P : Prop) : Bool := @decide P (Classical.propDecidable P)
theorem Jf (h : P) : bl P = true := @decide_eq_true P (Classical.propDecidable P) h
theorem E6 (h : ¬ P) : bl P = false := @decide_eq_false P (Classical.propDecidable P) h
theorem bl_iff : bl P = true ↔ P := @decide_eq_true_iff P (Classical.propDecidable P)
structure SV where
 e : StE
 es : List Value
 vs : List (List Int)
instance : Inhabited SV := ⟨⟨default, [], []⟩⟩
def VZ (s : SV) : List Value := [.int .i64 s.e.fr, .int .i64 s.e.to, s.e.v]
theorem Ts : ∀ s, (VZ s).length = 3 := fun _ => rfl
structure RdW (h : Hp) (s : SV) : Prop where
 len : s.es.length = s.vs.length
 l : RdL cV 1 h [] s.e.v s.es
 r : ∀ j, j < s.vs.length → RdL cI 1 h [] (s.es.getD j undef) (s.vs.getD j [])
theorem RdW.up {h' : Hp} {s : SV} (R : RdW h s) (hl : h.le h') : RdW h' s := ⟨R.len, R.l.up hl, fun j hj => (R.r j hj).up hl⟩
theorem RdW.cell {s : SV} (R : RdW h s) {j : Nat} (hj : j < s.vs.length) (ms : List Hp) : Cell h ms ((Bl s.e.v).add (j * 1)) (s.es.getD j undef) := by
 have hj' : j < s.es.length := by rw [R.len]; exact hj
 rw [Ev hj']
 exact R.l.any.cell0 hj' rfl
structure RdSs (h : Hp) (v : Value) (l : List SV) : Prop where
 q : RdL VZ 3 h [] v l
 w : ∀ s ∈ l, RdW h s
theorem RdSs.up {h' : Hp} {v : Value} {l : List SV} (R : RdSs h v l) (hl : h.le h') : RdSs h' v l := ⟨R.q.up hl, fun s hs => (R.w s hs).up hl⟩
def SV.on (s : SV) (k : Nat) : Prop := s.e.fr ≤ k ∧ (k : Int) ≤ s.e.to
instance (s : SV) (k : Nat) : Decidable (s.on k) := by unfold SV.on; infer_instance
def SV.at_ (s : SV) (k : Nat) : List Int := s.vs.getD (k - s.e.fr.toNat) []
def SV.vv (s : SV) (k : Nat) : Value := if s.on k then s.es.getD (k - s.e.fr.toNat) undef else .slice none 0 0
def SV.Long (s : SV) : Prop := 0 ≤ s.e.fr ∧ (s.vs.length : Int) = s.e.to - s.e.fr + 1
theorem SV.ix {s : SV} (hL : s.Long) {k : Nat} (h : s.on k) : k - s.e.fr.toNat < s.vs.length := by
 obtain ⟨h1, h2⟩ := hL
 obtain ⟨h3, h4⟩ := h
 omega
theorem RdW.vv {s : SV} (R : RdW h s) (hL : s.Long) {k : Nat} (ho : s.on k) : RdL cI 1 h [] (s.vv k) (s.at_ k) := by
 unfold SV.vv SV.at_
 rw [if_pos ho]
 exact R.r _ (SV.ix hL ho)
theorem RdW.vv_one {s : SV} (R : RdW h s) (hL : s.Long) (k : Nat) : (s.vv k).oneCell' = true := by
 by_cases ho : s.on k
 ·exact (R.vv hL ho).rd.one
 ·unfold SV.vv; rw [if_neg ho]; rfl
def SV.Shp (Z : Zz) (s : SV) : Prop := 0 ≤ s.e.fr ∧ s.e.fr ≤ s.e.to ∧ s.e.to < Z.dims.length ∧ (s.vs.length : Int) = s.e.to - s.e.fr + 1 ∧ ∀ j, j < s.vs.length → ((s.vs.getD j []).length : Int) = Z.dim (s.e.fr.toNat + j) ∧ ∀ x ∈ s.vs.getD j [], 0 ≤ x ∧ x < Z.p
theorem SV.Shp.long {Z : Zz} {s : SV} (h : s.Shp Z) : s.Long := ⟨h.1, h.2.2.2.1⟩
theorem Hq (s : SV) (k : Nat) (h : Hp) (hW : RdW h s) (hL : s.Long) (hk : k ≤ 1000) (ms : List Hp) : Dq Tryz.prog 93 #[.agg #[.int .i64 s.e.fr, .int .i64 s.e.to, s.e.v], .int .i64 k] h ms (.tuple #[s.vv k, .bool (decide (s.on k))]) := by
 refine Ds ?_ ms
 have ov := s.e.one
 have hl := hW.l.len_le
 have hL1 := hL.1
 have hL2 := hL.2
 have hle := hW.len
 refine Av func93 ntmps93 rfl rfl (fun w0 hw0 => ?_)
 simp only [A4]
 refine Ax ?_
 refine AS [_, _, _] rfl rfl (by rfl) rfl rfl rfl (fun g2 => ?_)
 refine Qm rfl (Qm rfl (Aq (AL fun h1 l1 hS => ?_)))
 have hW := hW.up l1
 have hA := Seg.all hS
 have hA0 := hA 0 _ rfl
 refine Ac (Ax (Qm rfl (Qf E0 rfl (Ql rfl underlying3 (hA0 _) (Qm rfl (Qm rfl ?_))))))
 refine AR (t := 10) rfl (fun h1 => ?_) (fun h1 => ?_)
 ·refine Qk rfl (Qk rfl (Qk rfl (Qk rfl (Qm rfl (Aq (AU rfl (Ax (Qm rfl (Qm rfl (Aq (Ao (Ae ?_))))))))))))
  exact FX rfl rfl rfl (by rw [show s.vv k = .slice none 0 0 from if_neg (fun ho => by have := ho.1; omega), decide_eq_false (fun ho : s.on k => by have := ho.1; omega)])
 ·refine Qg (As rfl rfl) rfl (Qg (oF Fd rfl) rfl (Qg (oL rfl underlying3 (hA _ _ rfl _)) rfl (Qg (Dd rfl rfl rfl) rfl (Qm rfl (Aq ?_)))))
  refine AF rfl (fun h2 => ?_) (fun h2 => ?_)
  ·refine Ac (Ad (Qm rfl (Qm rfl (Aq (Ao (Ae ?_))))))
   exact FX rfl rfl rfl (by rw [show s.vv k = .slice none 0 0 from if_neg (fun ho => by have := ho.2; omega), decide_eq_false (fun ho : s.on k => by have := ho.2; omega)])
  ·have ho : s.on k := ⟨by omega, by omega⟩
   have hix := SV.ix hL ho
   have hc := hW.cell hix
   refine Ai (Ab (Ax (Qf CY rfl (Ql rfl underlying62 (hA _ _ rfl _) (Qm rfl (Qf E0 rfl (Ql rfl underlying3 (hA0 _) (Qx (oS rfl) rfl (Qx (Ah (k - s.e.fr.toNat) hW.l.rd.any rfl underlying62 BN rfl rfl (by omega) (by omega)) rfl (Ql rfl underlying24 (hc _) (Qm rfl (Qm rfl (Aq (Ao ?_))))))))))))))
   exact FX rfl rfl rfl (by rw [show s.vv k = s.es.getD (k - s.e.fr.toNat) undef from if_pos ho, decide_eq_true ho])
end Go.Proofs.YtdnelknieikbaaaGreat
namespace Go.Proofs.YtdnelknieikbaaaGreat
open Tryz
open Go.Eng Go.RowKit Go.Lin Go.Sort Go.Srt
theorem Ps (Z : Zz) (vd va : Value) (s : SV) (h : Hp) (hRt : Z.Rt) (hR : RdZ h vd va Z) (hW : RdW h s) (ms : List Hp) : Dq Tryz.prog 60 #[.agg #[.int .i64 Z.p, vd, va], .agg #[.int .i64 s.e.fr, .int .i64 s.e.to, s.e.v]] h ms (.bool (bl (s.Shp Z))) := by
 refine Ds ?_ ms
 have o1 := hR.d.rd.one
 have o2 := hR.a.rd.one
 have ov := s.e.one
 have n1 := hRt.2.1
 have hl := hW.l.len_le
 have hle := hW.len
 refine Av func60 ntmps60 rfl rfl (fun w0 hw0 => ?_)
 simp only [A4]
 refine Ax ?_
 refine AS [_, _, _] rfl rfl (by rfl) rfl rfl rfl (fun g2 => ?_)
 refine AS [_, _, _] rfl rfl (by rfl) rfl rfl rfl (fun g3 => ?_)
 refine Qm rfl (Aq (AL fun h1 l1 hS3 => (AL fun h2 l2 hS2 => ?_)))
 have hS3 := hS3.le l2
 have hR := hR.up (Hp.le_trans l1 l2)
 have hW := hW.up (Hp.le_trans l1 l2)
 have hA := Seg.all hS2
 have hA0 := hA 0 _ rfl
 have hB := Seg.all hS3
 have hB0 := hB 0 _ rfl
 refine Ac (Ax (Qf E0 rfl (Ql rfl underlying3 (hB0 _) (Qm rfl (Qm rfl ?_)))))
 refine AR (t := 10) rfl (fun hs1 => ?_) (fun hs1 => ?_)
 ·refine Qk rfl (Qk rfl (Qk rfl (Qk rfl (Qk rfl (Qm rfl (Qm rfl (Qk rfl (Qk rfl (Qk rfl (Qk rfl (Qk rfl (Qk rfl (Qm rfl (Qm rfl (Qk rfl (Qk rfl (Qk rfl (Qk rfl (Qk rfl (Qk rfl (Qk rfl (Qk rfl (Qk rfl (Qk rfl (Qm rfl (Aq (AU rfl (Ax (Qm rfl (Aq (Ao (Ae ?_))))))))))))))))))))))))))))))))
  exact Am rfl rfl (by rw [E6]; rintro ⟨h, _⟩; omega)
 ·refine Qg (oF E0 rfl) rfl (Qg (oL rfl underlying3 (hB0 _)) rfl (Qg (oF Fd rfl) rfl (Qg (oL rfl underlying3 (hB _ _ rfl _)) rfl (Qg (Dd rfl rfl rfl) rfl (Qm rfl (Qm rfl ?_))))))
  refine AR (t := 17) rfl (fun hs2 => ?_) (fun hs2 => ?_)
  ·refine Qk rfl (Qk rfl (Qk rfl (Qk rfl (Qk rfl (Qk rfl (Qm rfl (Qm rfl (Qk rfl (Qk rfl (Qk rfl (Qk rfl (Qk rfl (Qk rfl (Qk rfl (Qk rfl (Qk rfl (Qk rfl (Qm rfl (Aq (AU rfl (Ax (Qm rfl (Aq (Ao (Ae ?_)))))))))))))))))))))))))
   exact Am rfl rfl (by rw [E6]; rintro ⟨_, h, _⟩; omega)
  ·refine Qg (oF Fd rfl) rfl (Qg (oL rfl underlying3 (hB _ _ rfl _)) rfl (Qg (oF Bn rfl) rfl (Qg (oL rfl underlying24 (hA _ _ rfl _)) rfl (Qg (AJ hR.d.rd.any rfl underlying24 rfl) rfl (Qg (DU rfl rfl rfl) rfl (Qm rfl (Qm rfl ?_)))))))
   refine AR (t := 25) rfl (fun hs3 => ?_) (fun hs3 => ?_)
   ·refine Qk rfl (Qk rfl (Qk rfl (Qk rfl (Qk rfl (Qk rfl (Qk rfl (Qk rfl (Qk rfl (Qk rfl (Qm rfl (Aq (AU rfl (Ax (Qm rfl (Aq (Ao (Ae ?_)))))))))))))))))
    exact Am rfl rfl (by rw [E6]; rintro ⟨_, _, h, _⟩; omega)
   ·refine Qg (oF CY rfl) rfl (Qg (oL rfl underlying62 (hB _ _ rfl _)) rfl (Qg (AJ hW.l.rd.any rfl underlying62 rfl) rfl (Qg (oF Fd rfl) rfl (Qg (oL rfl underlying3 (hB _ _ rfl _)) rfl (Qg (oF E0 rfl) rfl (Qg (oL rfl underlying3 (hB0 _)) rfl (Qg (oS rfl) rfl (Qg (oA rfl) rfl (Qg (B4 rfl rfl rfl) rfl (Qm rfl (Aq ?_)))))))))))
    refine AF rfl (fun hs4 => ?_) (fun hs4 => ?_)
    ·refine Ac (Ad (Qm rfl (Aq (Ao (Ae ?_)))))
     exact Am rfl rfl (by rw [E6]; rintro ⟨_, _, _, h, _⟩; omega)
    ·have hlen : (s.vs.length : Int) = s.e.to - s.e.fr + 1 := by omega
     refine Ai (Ab (Ac (Ax (Qm rfl (Aq (Ag ?_))))))
     refine AD (fun q sl hh ms' => ∃ (j : Nat), q = s.es.length - j ∧ sl = [(2, .pointer (some ⟨g2, 0, none⟩)), (3, .pointer (some ⟨g3, 0, none⟩)), (5, .int .i64 j)] ∧ h2 = hh ∧ ms' = [] ∧ j ≤ s.es.length ∧ ∀ j', j' < j → ((s.vs.getD j' []).length : Int) = Z.dim (s.e.fr.toNat + j') ∧ ∀ x ∈ s.vs.getD j' [], 0 ≤ x ∧ x < Z.p)
      (s.es.length - 0) _ ⟨0, rfl, rfl, rfl, rfl, by omega, fun j' h => by omega⟩ Qs ?_
     rintro q sl hh ms' ⟨j, rfl, rfl, rfl, rfl, hj, hno⟩
     refine Ac (Ax (Qm rfl (Qf CY rfl (Ql rfl underlying62 (hB _ _ rfl _) (Qx (AJ hW.l.rd.any rfl underlying62 rfl) rfl (Qm rfl (Aq ?_)))))))
     refine AF rfl (fun hlt => ?_) (fun hlt => ?_)
     ·have hjl : j < s.vs.length := by omega
      have hc := hW.cell hjl
      have hRj := hW.r j hjl
      have hk : s.e.fr.toNat + j < Z.dims.length := by omega
      refine Ai (Ab (Ac (Ag (Ac (Ac (BB 14 Cd (by kernel_rfl) rfl (Wf CY rfl (Wl rfl underlying62 (hB _ _ rfl _) (Wm rfl (AV (Ah (j) hW.l.rd.any rfl underlying62 BN rfl rfl (by omega) (by omega)) rfl rfl (Wl rfl underlying24 (hc _) (AV (AJ hRj.rd.any rfl underlying24 rfl) rfl rfl (Wf Bn rfl (Wl rfl underlying24 (hA _ _ rfl _) (Wf E0 rfl (Wl rfl underlying3 (hB0 _) (Wm rfl (AV (oA rfl) rfl rfl (AV (Ah (s.e.fr.toNat + j) hR.d.rd.any rfl underlying24 A8 rfl rfl (by omega) (by omega)) rfl rfl (Wl rfl underlying3 (H8 hR hk) (BC (Qm rfl (Aq ?_)))))))))))))))))))))))
      refine AF rfl (fun h5 => ?_) (fun h5 => ?_)
      ·refine Ac (Ad (Qm rfl (Aq (Ao (Ae (Ap (Ae (Ae (Ap (Ae ?_))))))))))
       exact Am rfl rfl (by rw [E6]; rintro ⟨_, _, _, _, h⟩; exact h5 (h j hjl).1)
      ·refine Ai (Ab (Ax (Qm rfl (Aq (Ag ?_)))))
       have hll := hRj.len_le
       refine AD (fun q sl hh ms' => ∃ (i : Nat), q = (s.vs.getD j []).length - i ∧ sl = [(2, .pointer (some ⟨g2, 0, none⟩)), (3, .pointer (some ⟨g3, 0, none⟩)), (5, .int .i64 j), (6, .int .i64 i)] ∧ h2 = hh ∧ ms' = [] ∧ i ≤ (s.vs.getD j []).length ∧ ∀ x ∈ (s.vs.getD j []).take i, 0 ≤ x ∧ x < Z.p)
        ((s.vs.getD j []).length - 0) _ ⟨0, rfl, rfl, rfl, rfl, by omega, fun x h => by simp at h⟩ Qs ?_
       rintro q sl hh ms' ⟨i, rfl, rfl, rfl, rfl, hi, hin⟩
       refine Ac (Ax (Qm rfl (Qf CY rfl (Ql rfl underlying62 (hB _ _ rfl _) (Qm rfl (Qx (Ah (j) hW.l.rd.any rfl underlying62 BN rfl rfl (by omega) (by omega)) rfl (Ql rfl underlying24 (hc _) (Qx (AJ hRj.rd.any rfl underlying24 rfl) rfl (Qm rfl (Aq ?_))))))))))
       refine AF rfl (fun hlt2 => ?_) (fun hlt2 => ?_)
       ·have hil : i < (s.vs.getD j []).length := Bx hlt2
        refine Ai (Ab (Ac (Ag (Ac (BB 20 Cd (by kernel_rfl) rfl (Wf CY rfl (Wl rfl underlying62 (hB _ _ rfl _) (Wm rfl (AV (Ah (j) hW.l.rd.any rfl underlying62 BN rfl rfl (by omega) (by omega)) rfl rfl (Wl rfl underlying24 (hc _) (Wm rfl (AV (Ah (i) hRj.rd.any rfl underlying24 A8 rfl rfl (by omega) (by omega)) rfl rfl (Wl rfl underlying3 (hRj.any.cell0 hil rfl) (Wm rfl (Wm rfl ?_)))))))))))))))
        refine DR (t := 78) rfl (fun h6 => ?_) (fun h6 => ?_)
        ·refine AN rfl rfl rfl rfl rfl (AN rfl rfl rfl rfl rfl (AN rfl rfl rfl rfl rfl (AN rfl rfl rfl rfl rfl (AN rfl rfl rfl rfl rfl (AN rfl rfl rfl rfl rfl (AN rfl rfl rfl rfl rfl (AN rfl rfl rfl rfl rfl (AN rfl rfl rfl rfl rfl (AN rfl rfl rfl rfl rfl (BC (Qk rfl (Qm rfl (Aq (AU rfl (Ax (Qm rfl (Aq (Ao (Ap (Ae (Ae (Ap (Ap (Ae (Ae (Ap (Ae ?_)))))))))))))))))))))))))))
         exact Am rfl rfl (by rw [E6]; rintro ⟨_, _, _, _, h⟩; have := (h j hjl).2 _ (List.getElem_mem hil); omega)
        ·refine Bp (oF CY rfl) rfl rfl rfl rfl (Bp (oL rfl underlying62 (hB _ _ rfl _)) rfl rfl rfl rfl (Bp (As rfl rfl) rfl rfl rfl rfl (Bp (Ah (j) hW.l.rd.any rfl underlying62 BN rfl rfl (by omega) (by omega)) rfl rfl rfl rfl (Bp (oL rfl underlying24 (hc _)) rfl rfl rfl rfl (Bp (As rfl rfl) rfl rfl rfl rfl (Bp (Ah (i) hRj.rd.any rfl underlying24 A8 rfl rfl (by omega) (by omega)) rfl rfl rfl rfl (Bp (oL rfl underlying3 (hRj.any.cell0 hil rfl)) rfl rfl rfl rfl (Bp (oF CG rfl) rfl rfl rfl rfl (Bp (oL rfl underlying3 (hA0 _)) rfl rfl rfl rfl (BC (Qg (DU rfl rfl rfl) rfl (Qm rfl (Aq ?_)))))))))))))
         refine AF rfl (fun h7 => ?_) (fun h7 => ?_)
         ·refine Ac (Ad (Qm rfl (Aq (Ao (Ap (Ae (Ae (Ap (Ap (Ae (Ae (Ap (Ae ?_)))))))))))))
          exact Am rfl rfl (by rw [E6]; rintro ⟨_, _, _, _, h⟩; have := (h j hjl).2 _ (List.getElem_mem hil); omega)
         ·refine Ai (Aj (Ab (Ad (Qm rfl (Qx (oA rfl) rfl (Qm rfl (Ak ?_)))))))
          refine Al ((s.vs.getD j []).length - (i + 1)) _ (by omega) ⟨i + 1, rfl, rfl, rfl, rfl, by omega, fun x hx => ?_⟩ Qs
          rw [List.take_succ_eq_append_getElem hil] at hx
          rcases List.mem_append.1 hx with hx | hx
          ·exact hin x hx
          ·have := List.mem_singleton.1 hx
           subst this
           omega
       ·obtain rfl : i = (s.vs.getD j []).length := by omega
        rw [List.take_length] at hin
        refine Aw (Aa (Aa (Af (Aj (Ab (Ad (Qm rfl (Qx (oA rfl) rfl (Qm rfl (Ak ?_))))))))))
        refine Al (s.es.length - (j + 1)) _ (by omega) ⟨j + 1, rfl, rfl, rfl, rfl, by omega, fun j' hj' => ?_⟩ Qs
        rcases (by omega : j' < j ∨ j' = j) with h | rfl
        ·exact hno j' h
        ·exact ⟨Decidable.not_not.1 h5, hin⟩
     ·refine Aw (Aa (Aa (Af (Ab (Ax (Qm rfl (Aq (Ao ?_))))))))
      exact Am rfl rfl (by rw [Jf]; exact ⟨by omega, by omega, by omega, hlen, fun j' hj' => hno j' (by omega)⟩)
end Go.Proofs.YtdnelknieikbaaaGreat
namespace Go.Proofs.YtdnelknieikbaaaGreat
open Tryz
open Go.Eng Go.RowKit Go.Lin
theorem LZ (p : Int) (r c : Nat) (f : Nat → Nat → Int) (ev : Value) (h : Hp) (R : RtM p r c f) (hR : RdL cI 1 h [] ev (mat r c f)) :
  FnT Tryz.prog 56 #[.agg #[.int .i64 p, .int .i64 r, .int .i64 c, ev]] h [] (fun x h' ms' => h.le h' ∧ ∃ (F : Nat → Nat → Int) (pv : List Nat) (eu vp : Value) (m m2 : Hp), x = .tuple #[.agg #[.int .i64 p, .int .i64 r, .int .i64 c, eu], vp] ∧ ms' = [m, m2] ∧ OwnL cI 1 3 m eu (mat r c F) ∧ OwnL cI 1 3 m2 vp (HY pv) ∧ Ho p r c f F pv) := by
 refine Av func56 ntmps56 rfl rfl (fun w0 hw0 => ?_)
 simp only [A4]
 refine Ax ?_
 refine AS [_, _, _, _] rfl rfl (by rfl) rfl rfl rfl (fun g1 => ?_)
 refine BZ [.int .i64 0, .int .i64 0, .int .i64 0, .slice none 0 0] rfl AI rfl rfl (fun g2 => Qm rfl (B3 (Qx (oG rfl underlying42 AI (Seg.blk 1 rfl)) rfl (Qx (AG rfl call46 rfl (Sn R hR _)) rfl (Qm rfl (Aq (Ac (Ax (Qm rfl (Qm rfl (Aq (Bb rfl (Ai (Ab (Ax (Qx (oG rfl underlying42 AI (Seg.blk 1 rfl)) rfl ?_))))))))))))))))
 refine Qc call86 rfl (MA p r c f ev h R.pr R.rl (by have := R.cl; omega) R.en hR) (fun x h1 ms1 l1 hF => ?_)
 obtain ⟨l2, F, pv, eu, vp, m, m2, rfl, rfl, hO, hO2, hE⟩ := hF
 have oe : eu.oneCell' = true := (hO.rd (h := h) (ms := [m]) (List.Mem.head _)).rd.one
 refine Qm rfl (Qm rfl ?_)
 refine Sa 2 [_, _, _, _] AI rfl (by simp [oe]) ?_
 refine Qm rfl (Aq (Ao (AP 3 rfl ?_)))
 exact CX (vs := [_, _, _, _]) 2 rfl rfl rfl underlying42 rfl AI rfl rfl (⟨l1, F, pv, eu, vp, m, m2, rfl, rfl, hO, hO2, hE⟩)
theorem Q9 (p : Int) (r c : Nat) (f : Nat → Nat → Int) (ev : Value) (h : Hp) (R : RtM p r c f) (hR : RdL cI 1 h [] ev (mat r c f)) :
  FnT Tryz.prog 29 #[.agg #[.int .i64 p, .int .i64 r, .int .i64 c, ev]] h [] (fun x h' ms' => h.le h' ∧ ms' = [] ∧ ∃ (F : Nat → Nat → Int) (pv : List Nat), x = .int .i64 pv.length ∧ Ho p r c f F pv) := by
 refine Av func29 ntmps29 rfl rfl (fun w0 hw0 => ?_)
 simp only [A4]
 refine Ax ?_
 refine AS [_, _, _, _] rfl rfl (by rfl) rfl rfl rfl (fun g1 => ?_)
 refine Qm rfl (B3 (Qx (oG rfl underlying42 AI (Seg.blk 0 rfl)) rfl (Qc call56 rfl (LZ p r c f ev h R hR) (fun x h1 ms1 l1 hF => ?_))))
 obtain ⟨l2, F, pv, eu, vp, m, m2, rfl, rfl, hO, hO2, hE⟩ := hF
 have oe : eu.oneCell' = true := (hO.rd (h := h) (ms := [m]) (List.Mem.head _)).rd.one
 refine Qm rfl (Qm rfl (Qm rfl (BZ [.int .i64 0, .int .i64 0, .int .i64 0, .slice none 0 0] rfl AI rfl rfl (fun g3 => ?_))))
 refine Sa 0 [_, _, _, _] AI rfl (by simp [oe]) ?_
 refine Qm rfl (B3 (Qm rfl (Qx (CH (DA (h := h) (ms := [m2]) hO2 (List.Mem.head _)) rfl underlying24 rfl) rfl (Qm rfl (Aq (Ao (AP 3 rfl (AP 2 rfl (AP 1 rfl (AP 0 rfl ?_))))))))))
 exact Am rfl rfl (⟨l1, rfl, F, pv, rfl, hE⟩)
end Go.Proofs.YtdnelknieikbaaaGreat
namespace Go.Proofs.YtdnelknieikbaaaGreat
open Tryz
open Go.Eng Go.RowKit Go.Lin Go.Sort Go.Srt
variable {k r c n t : Nat} {p : Int} {f : Nat → Nat → Int}
theorem QM (Fp : Lin.Fld p) {F F' : Nat → Nat → Int} {pv pv' : List Nat} (E : Ho p r c f F pv) (E' : Ho p r c f F' pv') : pv.length = pv'.length := by
 have go : ∀ {F F' : Nat → Nat → Int} {pv pv' : List Nat}, Red p r c f F pv c → Red p r c f F' pv' c → pv.length ≤ pv'.length := fun {F F' pv pv'} R R' => by
  have := CA Fp (F7 R) fun l hl _ => F4 R' hl
  rwa [C6 R, C6 R'] at this
 exact Nat.le_antisymm (go E.red E'.red) (go E'.red E.red)
open Classical in
noncomputable def VF (p : Int) (r c : Nat) (f : Nat → Nat → Int) : Nat := if h : ∃ (F : Nat → Nat → Int) (pv : List Nat), Ho p r c f F pv then (Classical.choose (Classical.choose_spec h)).length else 0
theorem MS (Fp : Lin.Fld p) {F : Nat → Nat → Int} {pv : List Nat} (E : Ho p r c f F pv) : VF p r c f = pv.length := by
 unfold VF
 rw [dif_pos ⟨F, pv, E⟩]
 exact QM Fp (Classical.choose_spec (Classical.choose_spec (⟨F, pv, E⟩ : ∃ (F : Nat → Nat → Int) (pv : List Nat), Ho p r c f F pv))) E
theorem Nz (p : Int) (r c : Nat) (f : Nat → Nat → Int) (ev : Value) (h : Hp) (R : RtM p r c f) (hR : RdL cI 1 h [] ev (mat r c f)) (ms : List Hp) : Dq Tryz.prog 29 #[.agg #[.int .i64 p, .int .i64 r, .int .i64 c, ev]] h ms (.int .i64 (VF p r c f)) :=
 Ds ((Q9 p r c f ev h R hR).mono fun x h' ms' ⟨_, _, F, pv, e, hE⟩ => by rw [e, MS R.pr.fld hE]) ms
theorem SJ (Fp : Lin.Fld p) (hf : UO p r c f) : ∃ (F : Nat → Nat → Int) (pv : List Nat), Ho p r c f F pv := by
 have key : ∀ j, j ≤ c → ∃ (F : Nat → Nat → Int) (pv : List Nat), Red p r c f F pv j := fun j => by
  induction j with
  | zero => exact fun _ => ⟨f, [], Red.start hf⟩
  | succ j ih =>
   intro hj
   obtain ⟨F, pv, R⟩ := ih (by omega)
   by_cases hz : ∃ i, i < r ∧ pv.length ≤ i ∧ F i j ≠ 0
   ·obtain ⟨i, hi, hl, hne⟩ := hz
    have hb := R.bd i hi j (by omega)
    obtain ⟨v, hv⟩ := Fp.inv (F i j) fun hd => by
     have := Int.le_of_dvd (by omega) hd
     omega
    have h1 := Cg.iff_mod.1 hv
    have h2 := Fp.two
    rw [Int.emod_eq_of_lt (show (0 : Int) ≤ 1 by omega) (by omega)] at h1
    exact ⟨_, _, R.step Fp.two hi hl (by omega) h1⟩
   ·exact ⟨F, pv, R.skip fun i hi hl => Classical.byContradiction fun hn => hz ⟨i, hi, hl, hn⟩⟩
 obtain ⟨F, pv, R⟩ := key c (Nat.le_refl _)
 exact ⟨F, pv, ⟨R⟩⟩
theorem PY (Fp : Lin.Fld p) (hf : UO p r c f) : VF p r c f = c ↔ Ind p c tt r (fun l i => f i l) := by
 obtain ⟨F, pv, E⟩ := SJ Fp hf
 rw [MS Fp E]
 exact LN Fp E.red
theorem Gw {l : List Int} {j : Nat} (h : j < l.length) : l.getD j 0 = l[j] := by simp [List.getD, h]
def Fj (l : List SV) : Dc := ⟨l.length, fun t => (l.getD t default).e.fr.toNat, fun t => (l.getD t default).e.to.toNat, fun t k i => ((l.getD t default).at_ k).getD i 0⟩
theorem Et {l : List SV} (ht : t < l.length) : l.getD t default = l[t] := by simp [List.getD, ht]
theorem IX {Z : Zz} {l : List SV} (hS : ∀ s ∈ l, s.Shp Z) (ht : t < l.length) (k : Nat) : (Fj l).on k t = decide (l[t].on k) := by
 have h := hS _ (List.getElem_mem ht)
 have h1 := h.1
 have h2 := h.2.1
 rw [Bool.eq_iff_iff, Dc.on_iff, decide_eq_true_iff]
 show (l.getD t default).e.fr.toNat ≤ k ∧ k ≤ (l.getD t default).e.to.toNat ↔ l[t].e.fr ≤ k ∧ (k : Int) ≤ l[t].e.to
 rw [Et ht]
 omega
theorem SV.Shp.row {Z : Zz} (hRt : Z.Rt) {s : SV} (h : s.Shp Z) (ho : s.on k) : (s.at_ k).length = Z.zg.d k ∧ ∀ x ∈ s.at_ k, 0 ≤ x ∧ x < Z.p := by
 have h1 := h.2.2.2.2 _ (SV.ix h.long ho)
 have h2 := h.1
 have h3 := ho.1
 rw [show s.e.fr.toNat + (k - s.e.fr.toNat) = k by omega, ← Z.zg_d hRt k] at h1
 exact ⟨by have := h1.1; unfold SV.at_; omega, h1.2⟩
def Gj (l : List SV) (k n : Nat) : List Int := (Df n ((Fj l).on k)).flatMap fun t => (l.getD t default).at_ k
theorem Jm {l : List SV} (h : (Fj l).on k n = true) : Gj l k (n + 1) = Gj l k n ++ (l.getD n default).at_ k ∧ cnt (n + 1) ((Fj l).on k) = cnt n ((Fj l).on k) + 1 := by
 unfold Gj
 rw [EP, h, BO, h]
 simp
theorem KL {l : List SV} (h : (Fj l).on k n = false) : Gj l k (n + 1) = Gj l k n ∧ cnt (n + 1) ((Fj l).on k) = cnt n ((Fj l).on k) := by
 unfold Gj
 rw [EP, h, BO, h]
 simp
theorem PP {d : Nat} (f : Nat → List Int) : ∀ (L : List Nat), (∀ t ∈ L, (f t).length = d) → L.flatMap f = mat L.length d fun i j => (f (L.getD i 0)).getD j 0 := by
 intro L
 have key : ∀ n, n ≤ L.length → (∀ t ∈ L, (f t).length = d) → (L.take n).flatMap f = mat n d fun i j => (f (L.getD i 0)).getD j 0 := fun n => by
  induction n with
  | zero => intro _ _; simp [mat]
  | succ n ih =>
   intro hn hl
   have hn' : n < L.length := by omega
   rw [List.take_succ_eq_append_getElem hn', List.flatMap_append, ih (by omega) hl, ← Hh]
   congr 1
   have e : L.getD n 0 = L[n] := by simp [List.getD, hn']
   rw [List.flatMap_singleton, e]
   have h2 := I2 (f L[n])
   rw [hl _ (List.getElem_mem hn')] at h2
   exact h2
 intro hl
 have := key L.length (Nat.le_refl _) hl
 rwa [List.take_length] at this
def IH (l : List SV) (k i j : Nat) : Int := ((l.getD ((Df l.length ((Fj l).on k)).getD i 0) default).at_ k).getD j 0
def OK (Z : Zz) (l : List SV) (k : Nat) : Prop := cnt l.length ((Fj l).on k) = Z.zg.d k ∧ Ind Z.p l.length ((Fj l).on k) (Z.zg.d k) fun t => (Fj l).vec t k
section
variable {Z : Zz} {l : List SV}
theorem RZ (hS : ∀ s ∈ l, s.Shp Z) (hn : n ≤ l.length) (h : t ∈ Df n ((Fj l).on k)) : ∃ ht : t < l.length, l[t].on k := by
 obtain ⟨h1, h2⟩ := mem_sel.1 h
 have ht : t < l.length := by omega
 rw [IX hS ht] at h2
 exact ⟨ht, of_decide_eq_true h2⟩
theorem Pg (hRt : Z.Rt) (hS : ∀ s ∈ l, s.Shp Z) (k : Nat) : Gj l k l.length = mat (cnt l.length ((Fj l).on k)) (Z.zg.d k) (IH l k) :=
 PP (fun t => (l.getD t default).at_ k) _ fun t ht => by
  obtain ⟨h1, h2⟩ := RZ hS (Nat.le_refl _) ht
  rw [Et h1]
  exact ((hS _ (List.getElem_mem h1)).row hRt h2).1
theorem Tj (hRt : Z.Rt) (hS : ∀ s ∈ l, s.Shp Z) {i j : Nat} (hi : i < cnt l.length ((Fj l).on k)) (hj : j < Z.zg.d k) : 0 ≤ IH l k i j ∧ IH l k i j < Z.p := by
 have hi' : i < (Df l.length ((Fj l).on k)).length := hi
 have hm : (Df l.length ((Fj l).on k)).getD i 0 ∈ Df l.length ((Fj l).on k) := by simp [List.getD, hi']
 obtain ⟨h1, h2⟩ := RZ hS (Nat.le_refl _) hm
 obtain ⟨h3, h4⟩ := (hS _ (List.getElem_mem h1)).row hRt h2
 unfold IH
 rw [Et h1]
 have hj' : j < (l[(Df l.length ((Fj l).on k)).getD i 0].at_ k).length := by omega
 rw [Gw hj']
 exact h4 _ (List.getElem_mem hj')
theorem R8 (Fp : Lin.Fld Z.p) (hn : cnt l.length ((Fj l).on k) = n) : Ind Z.p n tt n (fun t i => IH l k i t) ↔ Ind Z.p l.length ((Fj l).on k) n fun t => (Fj l).vec t k := by
 have h1 : Ind Z.p n tt n (fun t i => IH l k i t) ↔ Ind Z.p n tt n (fun t i => IH l k t i) := ⟨fun h => LP (f := IH l k) Fp h, fun h => LP (f := fun i j => IH l k j i) Fp h⟩
 rw [h1]
 subst hn
 exact ⟨fun h => FJ (L := Df l.length ((Fj l).on k)) (v := fun t => (Fj l).vec t k) (List.Perm.refl _) h, fun h => FB (v := fun t => (Fj l).vec t k) (List.Perm.refl _) h⟩
end
theorem JM {Z : Zz} (hRt : Z.Rt) {l : List SV} (hS : ∀ s ∈ l, s.Shp Z) (k : Nat) : ∀ n, n ≤ l.length → (Gj l k n).length ≤ n * 200
 | 0, _ => by simp [Gj, Df]
 | n + 1, hn => by
  have ih := JM hRt hS k n (by omega)
  have hn' : n < l.length := by omega
  cases h : (Fj l).on k n with
  | false => rw [(KL h).1]; omega
  | true =>
   rw [(Jm h).1, List.length_append, Et hn']
   rw [IX hS hn'] at h
   have := ((hS _ (List.getElem_mem hn')).row hRt (of_decide_eq_true h)).1
   have := Z.d_le hRt k
   omega
theorem QK (n : Nat) (b : Nat → Bool) : cnt n b ≤ n := by
 unfold cnt Df
 exact Nat.le_trans (List.length_filter_le _ _) (by simp)
theorem ON (Z : Zz) (vd va : Value) (l : List SV) (vl : Value) (k : Nat) (h : Hp) (hRt : Z.Rt) (hR : RdZ h vd va Z) (hL : RdSs h vl l) (hS : ∀ s ∈ l, s.Shp Z) (hk : k < Z.dims.length) (hN : l.length ≤ 1000000) :
  FnT Tryz.prog 61 #[.agg #[.int .i64 Z.p, vd, va], vl, .int .i64 k] h [] (fun r _ _ => r = .bool (bl (OK Z l k))) := by
 have o1 := hR.d.rd.one
 have o2 := hR.a.rd.one
 have hp := hRt.2.2.2.1
 have hbp := hp.1
 have hbp2 := hp.2.1
 have n1 := hRt.2.1
 have hd := Z.d_le hRt k
 refine Av func61 ntmps61 rfl rfl (fun w0 hw0 => ?_)
 simp only [A4]
 refine Ax ?_
 refine AS [_, _, _] rfl rfl (by rfl) rfl rfl rfl (fun g3 => ?_)
 refine Qm rfl (Aq (AL fun h1 l1 hS3 => ?_))
 have hR := hR.up l1
 have hL := hL.up l1
 have hA := Seg.all hS3
 have hA0 := hA 0 _ rfl
 have hdk : ∀ ms, Cell h1 ms ((Bl vd).add (k * 1)) (.int .i64 (Z.zg.d k)) := fun ms => by
  rw [Z.zg_d hRt k]
  exact H8 hR hk
 refine Bv (fun s hh ms' => ∃ (g7 : Nat) (xe : Value) (mx : Hp), s = [(1, vl), (2, .int .i64 k), (3, .pointer (some ⟨g3, 0, none⟩)), (7, .pointer (some ⟨g7, 0, none⟩))] ∧ h1 = hh ∧ ms' = [AX g7 42 [.int .i64 Z.p, .int .i64 (0 : Nat), .int .i64 (Z.zg.d k), xe], mx] ∧ OwnL cI 1 3 mx xe []) ?_ (fun s h ms hI => ?_)
 ·refine AW (n := 10) (bs := [true, true, true, true, true, true, true, false, false, false]) [true, true, true, true, true, true, true] Cd (by kernel_rfl) (by kernel_rfl) rfl rfl (QF CG rfl (QL rfl underlying3 (hA0 _) (QF Bn rfl (QL rfl underlying24 (hA _ _ rfl _) (Qq rfl (Qp rfl (Ah (k) hR.d.rd.any rfl underlying24 A8 rfl rfl (by omega) (by omega)) (QL rfl underlying3 (hdk _) ?_)))))))
  unfold CD
  simp only [List.cons_append, List.nil_append]
  refine A2 [7, 8] (by kernel_rfl) rfl ?_
  refine Az rfl ?_ ?_
  ·refine Qc call23 rfl (FN Z.p ((0 : Nat) : Int) (Z.zg.d k) h1 ⟨by omega, by omega⟩) (fun x7 h7 ms7 l7 hF => ?_)
   rw [DO hp (show 0 ≤ 400 by omega) (show Z.zg.d k ≤ 400 by omega)] at hF
   obtain ⟨rfl, xe, mx, rfl, rfl, hOx⟩ := hF
   have ox : xe.oneCell' = true := (hOx.rd (h := h) (ms := [mx]) (List.Mem.head _)).rd.one
   have e0 : (EM Z.p 0 (Z.zg.d k) fun _ _ => 0).e = [] := by simp [EM, mat]
   rw [e0] at hOx
   refine Qw (Qo 8 rfl (BZ [.int .i64 0, .int .i64 0, .int .i64 0, .slice none 0 0] rfl AI rfl rfl (fun g7 => Qw (Qo 9 rfl ?_))))
   refine Sa 0 [_, _, _, _] AI rfl (by simp [ox]) ?_
   refine Qw (Qe ?_)
   exact AA _ ⟨g7, xe, mx, rfl, rfl, rfl, hOx⟩ Qs
  refine Az rfl ?_ ?_
  ·refine BZ [.int .i64 0, .int .i64 0, .int .i64 0, .slice none 0 0] rfl AI rfl rfl (fun g7 => Qw (Qo 7 rfl ?_))
   refine Qc call23 rfl (FN Z.p ((0 : Nat) : Int) (Z.zg.d k) h1 ⟨by omega, by omega⟩) (fun x7 h7 ms7 l7 hF => ?_)
   rw [DO hp (show 0 ≤ 400 by omega) (show Z.zg.d k ≤ 400 by omega)] at hF
   obtain ⟨rfl, xe, mx, rfl, rfl, hOx⟩ := hF
   have ox : xe.oneCell' = true := (hOx.rd (h := h) (ms := [mx]) (List.Mem.head _)).rd.one
   have e0 : (EM Z.p 0 (Z.zg.d k) fun _ _ => 0).e = [] := by simp [EM, mat]
   rw [e0] at hOx
   refine Qw (Qo 9 rfl ?_)
   refine Sa 1 [_, _, _, _] AI rfl (by simp [ox]) ?_
   refine Qw (Qe ?_)
   exact A9 (AA _ ⟨g7, xe, mx, rfl, rfl, rfl, hOx⟩ Qs)
  exact A3
 ·obtain ⟨g7, xe, mx, rfl, rfl, rfl, hOx⟩ := hI
  refine Ac (Ax (Qm rfl (Aq (Ag ?_))))
  refine AD (fun q sl hh ms' => ∃ (i : Nat) (xe : Value) (mx : Hp), q = l.length - i ∧ sl = [(1, vl), (2, .int .i64 k), (3, .pointer (some ⟨g3, 0, none⟩)), (7, .pointer (some ⟨g7, 0, none⟩)), (8, .int .i64 i)] ∧ h1 = hh ∧ ms' = [AX g7 42 [.int .i64 Z.p, .int .i64 (cnt i ((Fj l).on k)), .int .i64 (Z.zg.d k), xe], mx] ∧ i ≤ l.length ∧ OwnL cI 1 3 mx xe (Gj l k i))
   (l.length - 0) _ ⟨0, xe, mx, rfl, rfl, rfl, rfl, by omega, hOx⟩ Qs ?_
  rintro q sl hh ms' ⟨i, xe, mx, rfl, rfl, rfl, rfl, hi, hOx⟩
  refine Ac (Ax (Qm rfl (Qm rfl (Qx (AJ hL.q.rd.any rfl underlying60 rfl) rfl (Qm rfl (Aq ?_))))))
  refine AF rfl (fun hlt => ?_) (fun hlt => ?_)
  ·have hil : i < l.length := Bx hlt
   have hmem : l[i] ∈ l := List.getElem_mem hil
   have hsh := hS _ hmem
   have hW := hL.w _ hmem
   have hseg : ∀ ms, Seg h1 ms ((Bl vl).add (i * 3)) (VZ l[i]) := fun ms => (hL.q.any (ms := ms)).seg hil
   have hvo := hW.vv_one hsh.long k
   have hon := IX hS hil k
   have hrl := JM hRt hS k i hi
   have hcl := QK i ((Fj l).on k)
   refine Ai (Ab (Ac (Ag (Ax (Qm rfl (Qm rfl (Qx (Ah (i) hL.q.rd.any rfl underlying60 BP rfl rfl (by omega) (by omega)) rfl (Qx (oG rfl underlying64 BP (hseg _)) rfl (Qm rfl (Qx (AG rfl call93 rfl (Hq l[i] k h1 hW hsh.long (by omega) _)) rfl (Qm rfl (Qm rfl (Qm rfl (Qm rfl (Qm rfl (B3 (Qm rfl (Aq ?_))))))))))))))))))
   refine AF rfl (fun hc => ?_) (fun hc => ?_)
   ·have hRv := hW.vv hsh.long hc
    have hrw := hsh.row hRt hc
    rw [decide_eq_true hc] at hon
    obtain ⟨e1, e2⟩ := Jm hon
    rw [Et hil] at e1
    refine Ax (Qf Bc rfl (Ql rfl underlying24 (Cell.blk 0 (k := 3) rfl rfl) (Qm rfl (Bm 1 hOx hRv.any rfl underlying24 A8 rfl (by omega) rfl rfl rfl Cv (by omega) (by omega) rfl rfl rfl (fun xe2 mx2 hOx2 => ?_)))))
    have ox2 : xe2.oneCell' = true := (hOx2.rd (h := h1) (ms := [mx2]) (List.Mem.head _)).rd.one
    refine Qf Bc rfl ?_
    refine AK 0 _ rfl BN rfl rfl (by assumption) rfl rfl (by (simp; done)) rfl rfl ?_
    refine IA (Qf Bh rfl (Ql rfl underlying3 (Cell.blk 0 (k := 1) rfl rfl) (Qx (oA rfl) rfl (Qf Bh rfl ?_))))
    refine AK 0 _ rfl A8 rfl rfl (by rfl) rfl rfl (by (simp; done)) rfl rfl ?_
    refine Ak (Aj (Ab (Ad (Qm rfl (Qx (oA rfl) rfl (Qm rfl (Ak ?_)))))))
    refine Al (l.length - (i + 1)) _ (by omega) ⟨i + 1, xe2, mx2, rfl, rfl, rfl, by rw [e2]; rfl, by omega, by rw [e1]; exact hOx2⟩ Qs
   ·rw [decide_eq_false hc] at hon
    obtain ⟨e1, e2⟩ := KL hon
    refine Ai (Aj (Ab (Ad (Qm rfl (Qx (oA rfl) rfl (Qm rfl (Ak ?_)))))))
    refine Al (l.length - (i + 1)) _ (by omega) ⟨i + 1, xe, mx, rfl, rfl, rfl, by rw [e2], by omega, by rw [e1]; exact hOx⟩ Qs
  ·obtain rfl : i = l.length := by omega
   rw [Pg hRt hS k] at hOx
   have hone : xe.oneCell' = true := (hOx.rd (h := h1) (ms := [mx]) (List.Mem.head _)).rd.one
   refine AL fun h4 l4 hS7 => (Bg hOx fun h5 l5 hRx => ?_)
   have hS7 := hS7.le l5
   have hC := Seg.all hS7
   have hR := hR.up (Hp.le_trans l4 l5)
   have hA := Seg.all (hS3.le (Hp.le_trans l4 l5))
   have hdk : ∀ ms, Cell h5 ms ((Bl vd).add (k * 1)) (.int .i64 (Z.zg.d k)) := fun ms => by
    rw [Z.zg_d hRt k]
    exact H8 hR hk
   refine Aw (Aa (Aa (Af (Ab (Ac (BB 16 Cd (by kernel_rfl) rfl (Wf Bh rfl (Wl rfl underlying3 (hC _ _ rfl _) (Wf Bn rfl (Wl rfl underlying24 (hA _ _ rfl _) (Wm rfl (AV (Ah (k) hR.d.rd.any rfl underlying24 A8 rfl rfl (by omega) (by omega)) rfl rfl (Wl rfl underlying3 (hdk _) (Wm rfl (Wm rfl ?_)))))))))))))))
   refine DR (t := 52) rfl (fun hc => ?_) (fun hc => ?_)
   ·have hce : cnt l.length ((Fj l).on k) = Z.zg.d k := by omega
    have RM : RtM Z.p (cnt l.length ((Fj l).on k)) (Z.zg.d k) (IH l k) := ⟨hp, by omega, by omega, fun a ha b hb => Tj hRt hS ha hb⟩
    refine Bp (oG rfl underlying42 AI (Seg.any hS7)) rfl rfl rfl rfl (Bp (AG rfl call29 rfl (Nz Z.p _ _ (IH l k) xe h5 RM hRx _)) rfl rfl rfl rfl (Bp (oF Bn rfl) rfl rfl rfl rfl (Bp (oL rfl underlying24 (hA _ _ rfl _)) rfl rfl rfl rfl (Bp (As rfl rfl) rfl rfl rfl rfl (Bp (Ah (k) hR.d.rd.any rfl underlying24 A8 rfl rfl (by omega) (by omega)) rfl rfl rfl rfl (Bp (oL rfl underlying3 (hdk _)) rfl rfl rfl rfl (BC (Qg (EJ rfl rfl rfl) rfl (Qm rfl (Qm rfl (Aq (Ao ?_))))))))))))
    exact Am rfl rfl (by unfold bl; congr 1; rw [decide_eq_decide, OK, ← R8 hp.fld hce, hce]; rw [← PY hp.fld (hce ▸ RM.en)]; exact ⟨fun h => ⟨rfl, by omega⟩, fun h => by rw [h.2]⟩)
   ·refine AN rfl rfl rfl rfl rfl (AN rfl rfl rfl rfl rfl (AN rfl rfl rfl rfl rfl (AN rfl rfl rfl rfl rfl (AN rfl rfl rfl rfl rfl (AN rfl rfl rfl rfl rfl (AN rfl rfl rfl rfl rfl (BC (Qk rfl (Qm rfl (Qm rfl (Aq (Ao ?_))))))))))))
    exact Am rfl rfl (by rw [E6]; rintro ⟨h, _⟩; omega)
end Go.Proofs.YtdnelknieikbaaaGreat
namespace Go.Proofs.YtdnelknieikbaaaGreat
open Tryz
open Go.Eng Go.RowKit Go.Lin Go.Sort Go.Srt
def Vj (p : Int) (r c : Nat) (f : Nat → Nat → Int) (s : SV) (a b : Nat) : Prop := s.on a → ∀ i, i < r → ap f c (fun j => (s.at_ a).getD j 0) i % p = if s.on b then (s.at_ b).getD i 0 else 0
theorem Mv (p : Int) (r c : Nat) (f : Nat → Nat → Int) (ev : Value) (s : SV) (a b : Nat) (h : Hp) (R : RtM p r c f) (hM : RdL cI 1 h [] ev (mat r c f)) (hW : RdW h s) (hL : s.Long) (hv : s.on a → (s.at_ a).length = c ∧ ∀ x ∈ s.at_ a, 0 ≤ x ∧ x < p) (hw : s.on b → (s.at_ b).length = r) (ha : a ≤ 1000) (hb : b ≤ 1000) (ms : List Hp) :
  Dq Tryz.prog 62 #[.agg #[.int .i64 p, .int .i64 r, .int .i64 c, ev], .agg #[.int .i64 s.e.fr, .int .i64 s.e.to, s.e.v], .int .i64 a, .int .i64 b] h ms (.bool (bl (Vj p r c f s a b))) := by
 refine Ds ?_ ms
 have ov := s.e.one
 have o1 := hM.rd.one
 have hbd := R.bd
 have rl := R.rl
 have cl := R.cl
 have hrc : r * c ≤ 400 * 400 := Nat.mul_le_mul rl cl
 have el : (mat r c f).length = r * c := AY _ _ _
 have oa := hW.vv_one hL a
 have ob := hW.vv_one hL b
 refine Av func62 ntmps62 rfl rfl (fun w0 hw0 => ?_)
 simp only [A4]
 refine Ax ?_
 refine AS [_, _, _, _] rfl rfl (by rfl) rfl rfl rfl (fun g4 => ?_)
 refine AS [_, _, _] rfl rfl (by rfl) rfl rfl rfl (fun g5 => ?_)
 refine Qm rfl (Aq (AL fun h1 l1 hS5 => (AL fun h2 l2 hS4 => ?_)))
 have hS5 := hS5.le l2
 have hM := hM.up (Hp.le_trans l1 l2)
 have hW := hW.up (Hp.le_trans l1 l2)
 have hA := Seg.all hS4
 refine Ax (Qx (oG rfl underlying64 BP (Seg.any hS5)) rfl (Qm rfl (Qx (AG rfl call93 rfl (Hq s a h2 hW hL ha _)) rfl (Qm rfl (Qm rfl (Qm rfl (Qm rfl (Qm rfl (Aq (Ac (Ax (Qm rfl (Qm rfl (Aq ?_))))))))))))))
 refine BJ rfl (fun hc => ?_) (fun hc => ?_)
 ·have hc : ¬ s.on a := by simpa using hc
  refine Ax (Qm rfl (Aq (Ao (Ae ?_))))
  exact Am rfl rfl (by rw [Jf]; exact fun h => absurd h hc)
 ·have hc : s.on a := by simpa using hc
  obtain ⟨e1, e2⟩ := hv hc
  have hV := hW.vv hL hc
  have ew := I2 (s.at_ a)
  rw [e1] at ew
  rw [ew] at hV
  have hwb : ∀ j, j < c → 0 ≤ (s.at_ a).getD j 0 ∧ (s.at_ a).getD j 0 < p := fun j hj => by
   have hj' : j < (s.at_ a).length := by omega
   rw [Gw hj']
   exact e2 _ (List.getElem_mem hj')
  have evl := AQ c fun j => (s.at_ a).getD j 0
  have hM0 := hA 0 _ rfl
  refine Ai (Ab (Ax (Qx (oG rfl underlying64 BP (Seg.any hS5)) rfl (Qm rfl (Qx (AG rfl call93 rfl (Hq s b h2 hW hL hb _)) rfl (Qm rfl (Qm rfl (Qm rfl (Qm rfl (Qm rfl (Aq (Ac (Ax (Qm rfl (Aq (Ag ?_))))))))))))))))
  refine AD (fun q sl hh ms' => ∃ (i : Nat), q = r - i ∧ sl = [(4, .pointer (some ⟨g4, 0, none⟩)), (9, s.vv a), (11, s.vv b), (12, .bool (decide (s.on b))), (13, .int .i64 i)] ∧ h2 = hh ∧ ms' = [] ∧ i ≤ r ∧ ∀ i', i' < i → ap f c (fun j => (s.at_ a).getD j 0) i' % p = if s.on b then (s.at_ b).getD i' 0 else 0)
   (r - 0) _ ⟨0, rfl, rfl, rfl, rfl, by omega, fun i' h => by omega⟩ Qs ?_
  rintro q sl hh ms' ⟨i, rfl, rfl, rfl, rfl, hi, hno⟩
  refine Ac (Ax (Qm rfl (Qf Bh rfl (Ql rfl underlying3 (hA _ _ rfl _) (Qm rfl (Aq ?_))))))
  refine AF rfl (fun hlt => ?_) (fun hlt => ?_)
  ·have hir : i < r := by omega
   refine Ai (Ab (Ac (Ag (Ax (Qm rfl (Aq (Ac (Ax (Qm rfl (Aq (Ag ?_)))))))))))
   refine AD (fun q sl hh ms' => ∃ (j : Nat) (x : Int), q = c - j ∧ sl = [(4, .pointer (some ⟨g4, 0, none⟩)), (9, s.vv a), (11, s.vv b), (12, .bool (decide (s.on b))), (13, .int .i64 i), (14, .int .i64 x), (15, .int .i64 j)] ∧ h2 = hh ∧ ms' = [] ∧ j ≤ c ∧ x = sm j (fun t => f i t * (s.at_ a).getD t 0) % p)
    (c - 0) _ ⟨0, 0, rfl, rfl, rfl, rfl, by omega, (Int.zero_emod p).symm⟩ Qs ?_
   rintro q sl hh ms' ⟨j, x, rfl, rfl, rfl, rfl, hj, hx⟩
   have x0 : 0 ≤ x := by rw [hx]; exact Int.emod_nonneg _ (by omega)
   have x1 : x < p := by rw [hx]; exact Int.emod_lt_of_pos _ (by omega)
   refine Ac (Ax (Qm rfl (Qf A0 rfl (Ql rfl underlying3 (hA _ _ rfl _) (Qm rfl (Aq ?_))))))
   refine AF rfl (fun hlt2 => ?_) (fun hlt2 => ?_)
   ·have hjc : j < c := by omega
    have hix := Cp hir hjc
    have hbm := DF (R.en i hir j hjc) (hwb j hjc) hbd.2
    refine Ai (Ab (Ac (Ag (BB 19 Cd (by kernel_rfl) rfl (Wm rfl (Wf Bc rfl (Wl rfl underlying24 (hA _ _ rfl _) (Wm rfl (Wf A0 rfl (Wl rfl underlying3 (hA _ _ rfl _) (AV (oM rfl) rfl rfl (Wm rfl (AV (oA rfl) rfl rfl (AV (Ah (i * c + j) hM.rd.any rfl underlying24 A8 rfl rfl (by omega) (by omega)) rfl rfl (Wl rfl underlying3 (hM.any.ent hir hjc) (Wm rfl (Wm rfl (AV (Ah (j) hV.rd.any rfl underlying24 A8 rfl rfl (by omega) (by omega)) rfl rfl (Wl rfl underlying3 (hV.any.ev hjc) (AV (oM rfl) rfl rfl (AV (oA rfl) rfl rfl (Wf BE rfl (Wl rfl underlying3 (hM0 _) (BC (Qx (B0 rfl rfl rfl (by omega) (by omega)) rfl (Qm rfl (Ak (Aj (Ab (Ad (Qm rfl (Qx (oA rfl) rfl (Qm rfl (Ak ?_))))))))))))))))))))))))))))))))))
    refine Al (c - (j + 1)) _ (by omega) ⟨j + 1, (x + f i j * (s.at_ a).getD j 0) % p, rfl, rfl, rfl, rfl, by omega, ?_⟩ Qs
    rw [hx, Int.emod_add_emod]
    rfl
   ·obtain rfl : j = c := by omega
    have hx : ap f j (fun j => (s.at_ a).getD j 0) i % p = x := hx.symm
    by_cases hto : s.on b
    ·have hw' := hw hto
     have hV2 := hW.vv hL hto
     have ew2 := I2 (s.at_ b)
     rw [hw'] at ew2
     rw [ew2] at hV2
     have evl2 := AQ r fun j => (s.at_ b).getD j 0
     rw [decide_eq_true hto]
     refine Aw (Aa (Aa (Af (Ab (Ax (Qm rfl (Qm rfl (Qg (As rfl rfl) rfl (Qg (As rfl rfl) rfl (Qg (As rfl rfl) rfl (Qg (Ah (i) hV2.rd.any rfl underlying24 A8 rfl rfl (by omega) (by omega)) rfl (Qg (oL rfl underlying3 (hV2.any.ev hir)) rfl (Qg (B4 rfl rfl rfl) rfl (Qm rfl (Qm rfl ?_)))))))))))))))
     refine AR (t := 71) rfl (fun hne => ?_) (fun hne => ?_)
     ·refine Qk rfl (Qk rfl (Qk rfl (LQ rfl rfl rfl rfl rfl rfl (LQ rfl rfl rfl rfl rfl rfl (Qk rfl (Qm rfl (Aq (AU rfl (Ax (Qm rfl (Aq (Ao (Ap (Ae (Ae (Ap (Ae ?_)))))))))))))))))
      exact Am rfl rfl (by rw [E6]; intro h; have := h hc i hir; rw [if_pos hto, hx] at this; exact hne this)
     ·refine Qg (As rfl rfl) rfl (Qg (CP rfl rfl) rfl (Qg (As rfl rfl) rfl (Qk rfl (Qk rfl (Qg (JJ rfl rfl rfl) rfl (Qm rfl (Aq (Bb rfl (Ai (Aj (Ab (Ad (Qm rfl (Qx (oA rfl) rfl (Qm rfl (Ak ?_))))))))))))))))
      refine Al (r - (i + 1)) _ (by omega) ⟨i + 1, rfl, rfl, rfl, rfl, by omega, fun i' hi' => ?_⟩ Qs
      rcases (by omega : i' < i ∨ i' = i) with h | rfl
      ·exact hno i' h
      ·rw [if_pos hto, hx]; exact Decidable.not_not.1 hne
    ·rw [decide_eq_false hto]
     refine Aw (Aa (Aa (Af (Ab (Ax (Qm rfl (Qm rfl (Qk rfl (Qk rfl (Qk rfl (Qk rfl (Qk rfl (Qk rfl (Qm rfl (Qm rfl (Qg (As rfl rfl) rfl (Qg (CP rfl rfl) rfl (Qg (As rfl rfl) rfl (Qg (As rfl rfl) rfl (Qg (B4 rfl rfl rfl) rfl (Qg (Jv rfl rfl rfl) rfl (Qm rfl (Aq ?_)))))))))))))))))))))))
     refine AF rfl (fun hne => ?_) (fun hne => ?_)
     ·refine Ac (Ad (Qm rfl (Aq (Ao (Ap (Ae (Ae (Ap (Ae ?_)))))))))
      exact Am rfl rfl (by rw [E6]; intro h; have := h hc i hir; rw [if_neg hto, hx] at this; exact hne this)
     ·refine Ai (Aj (Ab (Ad (Qm rfl (Qx (oA rfl) rfl (Qm rfl (Ak ?_)))))))
      refine Al (r - (i + 1)) _ (by omega) ⟨i + 1, rfl, rfl, rfl, rfl, by omega, fun i' hi' => ?_⟩ Qs
      rcases (by omega : i' < i ∨ i' = i) with h | rfl
      ·exact hno i' h
      ·rw [if_neg hto, hx]; exact Decidable.not_not.1 hne
  ·refine Aw (Aa (Aa (Af (Ab (Ax (Qm rfl (Aq (Ao ?_))))))))
   exact Am rfl rfl (by rw [Jf]; exact fun _ i' hi' => hno i' (by omega))
def Vo (Z : Zz) (l : List SV) : Prop := Z.Rt ∧ (∀ s ∈ l, s.Shp Z) ∧ Valid Z.zg (Fj l)
def Ll (Z : Zz) (k : Nat) (s : SV) : Prop := Vj Z.p (Z.zg.d (Z.zg.tgt k)) (Z.zg.d (Z.zg.src k)) (Z.zg.mat k) s (Z.zg.src k) (Z.zg.tgt k)
theorem Nf {Z : Zz} (hRt : Z.Rt) {l : List SV} (hS : ∀ s ∈ l, s.Shp Z) {k t : Nat} (hk : k < Z.ars.length) (ht : t < l.length) : Ll Z k l[t] ↔ ((Fj l).on (Z.zg.src k) t = true → ∀ i, i < Z.zg.d (Z.zg.tgt k) → Cg Z.p (ap (Z.zg.mat k) (Z.zg.d (Z.zg.src k)) ((Fj l).vec t (Z.zg.src k)) i) (if (Fj l).on (Z.zg.tgt k) t then (Fj l).vec t (Z.zg.tgt k) i else 0)) := by
 have hsh := hS _ (List.getElem_mem ht)
 have hp := hRt.2.2.2.1.1
 have ev : ∀ k i, (Fj l).vec t k i = (l[t].at_ k).getD i 0 := fun k i => by
  show ((l.getD t default).at_ k).getD i 0 = _
  rw [Et ht]
 rw [IX hS ht, IX hS ht, decide_eq_true_iff]
 unfold Ll Vj
 refine forall_congr' fun ho => forall_congr' fun i => forall_congr' fun hi => ?_
 rw [Cg.iff_mod]
 have e1 : ap (Z.zg.mat k) (Z.zg.d (Z.zg.src k)) (fun j => (l[t].at_ (Z.zg.src k)).getD j 0) i = ap (Z.zg.mat k) (Z.zg.d (Z.zg.src k)) ((Fj l).vec t (Z.zg.src k)) i := AE fun j _ => by rw [ev]
 rw [e1]
 have e2 : (if decide (l[t].on (Z.zg.tgt k)) = true then (Fj l).vec t (Z.zg.tgt k) i else 0) % Z.p = if l[t].on (Z.zg.tgt k) then (l[t].at_ (Z.zg.tgt k)).getD i 0 else 0 := by
  by_cases h : l[t].on (Z.zg.tgt k)
  ·rw [if_pos (decide_eq_true h), if_pos h, ev]
   obtain ⟨h1, h2⟩ := hsh.row hRt h
   have hi' : i < (l[t].at_ (Z.zg.tgt k)).length := by omega
   rw [Gw hi']
   have := h2 _ (List.getElem_mem hi')
   exact Int.emod_eq_of_lt this.1 this.2
  ·rw [if_neg (by simpa using h), if_neg h, Int.zero_emod]
 rw [e2]
theorem HA {Z : Zz} (hRt : Z.Rt) {l : List SV} (hS : ∀ s ∈ l, s.Shp Z) : Valid Z.zg (Fj l) ↔ (∀ k, k < Z.dims.length → OK Z l k) ∧ ∀ k, k < Z.ars.length → ∀ t (ht : t < l.length), Ll Z k l[t] := by
 have hna := Z.nars hRt
 constructor
 ·exact fun V => ⟨fun k hk => ⟨V.cnt k hk, V.ind k hk⟩, fun k hk t ht => (Nf hRt hS hk ht).2 fun ho i hi => V.arr k (show k + 1 < Z.dims.length by omega) t ht ho i hi⟩
 ·rintro ⟨h1, h2⟩
  refine ⟨fun t ht => ?_, fun k hk => (h1 k hk).2, fun k hk => (h1 k hk).1, fun k hk t ht ho i hi => ?_⟩
  ·have ht' : t < l.length := ht
   have hsh := hS _ (List.getElem_mem ht')
   show (l.getD t default).e.fr.toNat ≤ (l.getD t default).e.to.toNat ∧ (l.getD t default).e.to.toNat < Z.dims.length
   rw [Et ht']
   have q1 := hsh.1
   have q2 := hsh.2.1
   have q3 := hsh.2.2.1
   omega
  ·have hk' : k + 1 < Z.dims.length := hk
   exact (Nf hRt hS (by omega) ht).1 (h2 k (by omega) t ht) ho i hi
theorem OF (Z : Zz) (vd va : Value) (l : List SV) (vl : Value) (h : Hp) (hO : Z.Ok) (hR : RdZ h vd va Z) (hL : RdSs h vl l) (hN : l.length ≤ 1000000) : FnT Tryz.prog 31 #[.agg #[.int .i64 Z.p, vd, va], vl] h [] (fun r _ _ => r = .bool (bl (Vo Z l))) := by
 have o1 := hR.d.rd.one
 have o2 := hR.a.rd.one
 refine Av func31 ntmps31 rfl rfl (fun w0 hw0 => ?_)
 simp only [A4]
 refine Ax ?_
 refine AS [_, _, _] rfl rfl (by rfl) rfl rfl rfl (fun g2 => ?_)
 refine Qm rfl (Aq (AL fun h1 l1 hS2 => ?_))
 have hR := hR.up l1
 have hL := hL.up l1
 have hA := Seg.all hS2
 refine Ax (Qx (oG rfl underlying30 Bz (Seg.any hS2)) rfl (Qx (AG rfl call22 rfl (Ds (Ff Z vd va _ hO hR) _)) rfl (Qm rfl (Aq (Ac (Ax (Qm rfl (Qm rfl (Aq ?_)))))))))
 refine BJ rfl (fun hb => ?_) (fun hb => ?_)
 ·have hb : ¬ Z.Rt := by simpa using hb
  refine Ax (Qm rfl (Aq (Ao (Ae ?_))))
  exact Am rfl rfl (by rw [E6]; exact fun h => hb h.1)
 ·have hRt : Z.Rt := by simpa using hb
  have n1 := hRt.1
  have n2 := hRt.2.1
  have hna := Z.nars hRt
  refine Ai (Ab (Ac (Ax (Qm rfl (Aq (Ag ?_))))))
  refine AD (fun q sl hh ms' => ∃ (i : Nat), q = l.length - i ∧ sl = [(1, vl), (2, .pointer (some ⟨g2, 0, none⟩)), (6, .int .i64 i)] ∧ h1 = hh ∧ ms' = [] ∧ i ≤ l.length ∧ ∀ i' (hi' : i' < l.length), i' < i → l[i'].Shp Z)
   (l.length - 0) _ ⟨0, rfl, rfl, rfl, rfl, by omega, fun i' _ h => by omega⟩ Qs ?_
  rintro q sl hh ms' ⟨i, rfl, rfl, rfl, rfl, hi, hno⟩
  refine Ac (Ax (Qm rfl (Qm rfl (Qx (AJ hL.q.rd.any rfl underlying60 rfl) rfl (Qm rfl (Aq ?_))))))
  refine AF rfl (fun hlt => ?_) (fun hlt => ?_)
  ·have hil : i < l.length := Bx hlt
   have hW := hL.w _ (List.getElem_mem hil)
   have hseg : ∀ ms, Seg h1 ms ((Bl vl).add (i * 3)) (VZ l[i]) := fun ms => (hL.q.any (ms := ms)).seg hil
   refine Ai (Ab (Ac (Ag (Ac (BB 5 Cd (by kernel_rfl) rfl (AV (oG rfl underlying30 Bz (Seg.any hS2)) rfl rfl (Wm rfl (Wm rfl (AV (Ah (i) hL.q.rd.any rfl underlying60 BP rfl rfl (by omega) (by omega)) rfl rfl (AV (oG rfl underlying64 BP (hseg _)) rfl rfl (BC (Qx (AG rfl call60 rfl (Ps Z vd va l[i] h1 hRt hR hW _)) rfl (Qm rfl (B3 (Qm rfl (Qm rfl (Aq ?_)))))))))))))))))
   refine BJ rfl (fun hb2 => ?_) (fun hb2 => ?_)
   ·refine Ac (Ad (Qm rfl (Aq (Ao (Ap (Ae (Ae (Ap (Ae ?_)))))))))
    exact Am rfl rfl (by rw [E6]; intro h; rw [Jf (h.2.1 _ (List.getElem_mem hil))] at hb2; simp at hb2)
   ·have hs : l[i].Shp Z := bl_iff.1 (by simpa using hb2)
    refine Ai (Aj (Ab (Ad (Qm rfl (Qx (oA rfl) rfl (Qm rfl (Ak ?_)))))))
    refine Al (l.length - (i + 1)) _ (by omega) ⟨i + 1, rfl, rfl, rfl, rfl, by omega, fun i' hi' h => ?_⟩ Qs
    rcases (by omega : i' < i ∨ i' = i) with h | rfl
    ·exact hno i' hi' h
    ·exact hs
  ·have hS : ∀ s ∈ l, s.Shp Z := fun s hs => by
    obtain ⟨t, ht, rfl⟩ := List.mem_iff_getElem.1 hs
    exact hno t ht (by omega)
   have hA0 := hA 0 _ rfl
   refine Aw (Aa (Aa (Af (Ab (Ac (Ax (Qm rfl (Aq (Ag ?_)))))))))
   refine AD (fun q sl hh ms' => ∃ (k : Nat), q = Z.dims.length - k ∧ sl = [(1, vl), (2, .pointer (some ⟨g2, 0, none⟩)), (8, .int .i64 k)] ∧ h1 = hh ∧ ms' = [] ∧ k ≤ Z.dims.length ∧ ∀ k', k' < k → OK Z l k')
    (Z.dims.length - 0) _ ⟨0, rfl, rfl, rfl, rfl, by omega, fun k' h => by omega⟩ Qs ?_
   rintro q sl hh ms' ⟨k, rfl, rfl, rfl, rfl, hk, hbas⟩
   refine Ac (Ax (Qm rfl (Qf Bn rfl (Ql rfl underlying24 (hA _ _ rfl _) (Qx (AJ hR.d.rd.any rfl underlying24 rfl) rfl (Qm rfl (Aq ?_)))))))
   refine AF rfl (fun hlt2 => ?_) (fun hlt2 => ?_)
   ·have hkl : k < Z.dims.length := by omega
    refine Ai (Ab (Ac (Ag (Ax (Qx (oG rfl underlying30 Bz (Seg.any hS2)) rfl (Qm rfl (Qm rfl (Qx (AG rfl call61 rfl (Ds (ON Z vd va l vl k h1 hRt hR hL hS hkl hN) _)) rfl (Qm rfl (B3 (Qm rfl (Qm rfl (Aq ?_)))))))))))))
    refine BJ rfl (fun hb3 => ?_) (fun hb3 => ?_)
    ·refine Ac (Ad (Qm rfl (Aq (Ao (Ap (Ae (Ae (Ap (Ae ?_)))))))))
     exact Am rfl rfl (by rw [E6]; intro h; rw [Jf (((HA hRt hS).1 h.2.2).1 k hkl)] at hb3; simp at hb3)
    ·have hs : OK Z l k := bl_iff.1 (by simpa using hb3)
     refine Ai (Aj (Ab (Ad (Qm rfl (Qx (oA rfl) rfl (Qm rfl (Ak ?_)))))))
     refine Al (Z.dims.length - (k + 1)) _ (by omega) ⟨k + 1, rfl, rfl, rfl, rfl, by omega, fun k' h => ?_⟩ Qs
     rcases (by omega : k' < k ∨ k' = k) with h | rfl
     ·exact hbas k' h
     ·exact hs
   ·have hB : ∀ k, k < Z.dims.length → OK Z l k := fun k' h => hbas k' (by omega)
    refine Aw (Aa (Aa (Af (Ab (Ac (Ax (Qm rfl (Aq (Ag ?_)))))))))
    refine AD (fun q sl hh ms' => ∃ (k : Nat), q = Z.ars.length - k ∧ sl = [(1, vl), (2, .pointer (some ⟨g2, 0, none⟩)), (10, .int .i64 k)] ∧ h1 = hh ∧ ms' = [] ∧ k ≤ Z.ars.length ∧ ∀ k', k' < k → ∀ t (ht : t < l.length), Ll Z k' l[t])
     (Z.ars.length - 0) _ ⟨0, rfl, rfl, rfl, rfl, by omega, fun k' h => by omega⟩ Qs ?_
    rintro q sl hh ms' ⟨k, rfl, rfl, rfl, rfl, hk, harr⟩
    refine Ac (Ax (Qm rfl (Qf BQ rfl (Ql rfl underlying28 (hA _ _ rfl _) (Qx (AJ hR.a.rd.any rfl underlying28 rfl) rfl (Qm rfl (Aq ?_)))))))
    refine AF rfl (fun hlt3 => ?_) (fun hlt3 => ?_)
    ·have hka : k < Z.ars.length := by omega
     refine Ai (Ab (Ac (Ag (Ax (Qm rfl (Aq (Ag ?_)))))))
     refine AD (fun q sl hh ms' => ∃ (t : Nat), q = l.length - t ∧ sl = [(1, vl), (2, .pointer (some ⟨g2, 0, none⟩)), (10, .int .i64 k), (11, .int .i64 t)] ∧ h1 = hh ∧ ms' = [] ∧ t ≤ l.length ∧ ∀ t' (ht : t' < l.length), t' < t → Ll Z k l[t'])
      (l.length - 0) _ ⟨0, rfl, rfl, rfl, rfl, by omega, fun t' _ h => by omega⟩ Qs ?_
     rintro q sl hh ms' ⟨t, rfl, rfl, rfl, rfl, ht, harr2⟩
     refine Ac (Ax (Qm rfl (Qm rfl (Qx (AJ hL.q.rd.any rfl underlying60 rfl) rfl (Qm rfl (Aq ?_))))))
     refine AF rfl (fun hlt4 => ?_) (fun hlt4 => ?_)
     ·have htl : t < l.length := Bx hlt4
      have hmem := List.getElem_mem htl
      have hW := hL.w _ hmem
      have hsh := hS _ hmem
      have hseg : ∀ ms, Seg h1 ms ((Bl vl).add (t * 3)) (VZ l[t]) := fun ms => (hL.q.any (ms := ms)).seg htl
      obtain ⟨f1, f2, f3, f4, f5⟩ := Z.arrow hRt hka
      have ho := hR.e _ (List.getElem_mem hka)
      have oav := ho.rd.one
      obtain ⟨es, et⟩ := Z.zg_src hka
      have hb4 := Z.zg_back hka
      refine Ai (Ab ?_)
      refine Bv (fun sl hh ms' => sl = [(1, vl), (2, .pointer (some ⟨g2, 0, none⟩)), (10, .int .i64 k), (11, .int .i64 t)] ∧ h1 = hh ∧ ms' = [] ∧ Ll Z k l[t]) ?_ (fun s h ms hI => ?_)
      ·refine Ag (Ax (Qm rfl (Qm rfl (B3 (Qm rfl (Qx (oA rfl) rfl (Qm rfl (Aq ?_))))))))
       refine Bv (fun sl hh ms' => ∃ a b : Int, sl = [(1, vl), (2, .pointer (some ⟨g2, 0, none⟩)), (10, .int .i64 k), (11, .int .i64 t), (12, .int .i64 a), (13, .int .i64 b)] ∧ h1 = hh ∧ ms' = [] ∧ a = Z.zg.src k ∧ b = Z.zg.tgt k) ?_ (fun s h ms hI => ?_)
       ·refine Ac (Ad (Qf BQ rfl (Ql rfl underlying28 (hA _ _ rfl _) (Qm rfl (Qx (Ah (k) hR.a.rd.any rfl underlying28 Cr rfl rfl (by omega) (by omega)) rfl (Qf EK rfl (Ql rfl underlying4 (hR.a.any.cell hka rfl) (Aq ?_))))))))
        refine BJ rfl (fun hb5 => ?_) (fun hb5 => ?_)
        ·refine Ac (Ad (Qm rfl (Qx (oA rfl) rfl (Qm rfl (IA (Qm rfl (Qm rfl (Ak ?_))))))))
         exact AA _ ⟨(k : Int) + 1, (k : Int), rfl, rfl, rfl, by rw [es]; unfold Ar.src; rw [hb5]; rfl, by rw [et]; unfold Ar.tgt; rw [hb5]; rfl⟩ Qs
        ·refine Ai ?_
         exact AA _ ⟨(k : Int), (k : Int) + 1, rfl, rfl, rfl, by rw [es]; unfold Ar.src; rw [hb5]; rfl, by rw [et]; unfold Ar.tgt; rw [hb5]; rfl⟩ Qs
       ·obtain ⟨a, b, rfl, rfl, rfl, rfl, rfl⟩ := hI
        have hsrc : Z.zg.src k ≤ 1000 := by rcases Z.zg.src_tgt k with ⟨e, _, _⟩ | ⟨e, _, _⟩ <;> omega
        have htgt : Z.zg.tgt k ≤ 1000 := by rcases Z.zg.src_tgt k with ⟨_, e, _⟩ | ⟨_, e, _⟩ <;> omega
        have hcar : ∀ ms, Dq Tryz.prog 62 #[.agg #[.int .i64 Z.ars[k].M.p, .int .i64 Z.ars[k].M.rows, .int .i64 Z.ars[k].M.cols, Z.ars[k].v], .agg #[.int .i64 l[t].e.fr, .int .i64 l[t].e.to, l[t].e.v], .int .i64 (Z.zg.src k), .int .i64 (Z.zg.tgt k)] h1 ms (.bool (bl (Ll Z k l[t]))) := fun ms => by
         rw [f1, f2, f3]
         rw [f4] at ho
         exact Mv Z.p _ _ _ _ l[t] _ _ h1 f5 ho hW hsh.long (fun h => hsh.row hRt h) (fun h => (hsh.row hRt h).1) hsrc htgt ms
        refine Ac (BB 12 Cd (by kernel_rfl) rfl (Wf BQ rfl (Wl rfl underlying28 (hA _ _ rfl _) (Wm rfl (AV (Ah (k) hR.a.rd.any rfl underlying28 Cr rfl rfl (by omega) (by omega)) rfl rfl (Wf Ca rfl (AV (oG rfl underlying42 AI (FQ hR hka)) rfl rfl (Wm rfl (Wm rfl (AV (Ah (t) hL.q.rd.any rfl underlying60 BP rfl rfl (by omega) (by omega)) rfl rfl (AV (oG rfl underlying64 BP (hseg _)) rfl rfl (Wm rfl (Wm rfl (BC (Qx (AG rfl call62 rfl (hcar _)) rfl (Qm rfl (B3 (Qm rfl (Qm rfl (Aq ?_))))))))))))))))))))
        refine BJ rfl (fun hb6 => ?_) (fun hb6 => ?_)
        ·refine Ac (Ad (Qm rfl (Aq (Ao (Ap (Ae (Ae (Ap (Ap (Ae (Ae (Ap (Ae ?_)))))))))))))
         exact Am rfl rfl (by rw [E6]; intro h; rw [Jf (((HA hRt hS).1 h.2.2).2 k hka t htl)] at hb6; simp at hb6)
        ·have hs : Ll Z k l[t] := bl_iff.1 (by simpa using hb6)
         refine Ai (Aj ?_)
         exact AA _ ⟨rfl, rfl, rfl, hs⟩ Qs
      ·obtain ⟨rfl, rfl, rfl, hs⟩ := hI
       refine Ad (Qm rfl (Qx (oA rfl) rfl (Qm rfl (Ak ?_))))
       refine Al (l.length - (t + 1)) _ (by omega) ⟨t + 1, rfl, rfl, rfl, rfl, by omega, fun t' ht' h => ?_⟩ Qs
       rcases (by omega : t' < t ∨ t' = t) with h | rfl
       ·exact harr2 t' ht' h
       ·exact hs
     ·refine Aw (Aa (Aa (Af (Aj (Ab (Ad (Qm rfl (Qx (oA rfl) rfl (Qm rfl (Ak ?_))))))))))
      refine Al (Z.ars.length - (k + 1)) _ (by omega) ⟨k + 1, rfl, rfl, rfl, rfl, by omega, fun k' h t' ht' => ?_⟩ Qs
      rcases (by omega : k' < k ∨ k' = k) with h | rfl
      ·exact harr k' h t' ht'
      ·exact harr2 t' ht' (by omega)
    ·refine Aw (Aa (Aa (Af (Ab (Ax (Qm rfl (Aq (Ao ?_))))))))
     exact Am rfl rfl (by rw [Jf]; exact ⟨hRt, hS, (HA hRt hS).2 ⟨hB, fun k' hk' t ht => harr k' (by omega) t ht⟩⟩)
end Go.Proofs.YtdnelknieikbaaaGreat
namespace Go.Proofs.YtdnelknieikbaaaGreat
open Tryz
open Go.Eng Go.RowKit Go.Lin Go.Sort Go.Srt
def Mc : Value := .func (.func 59) #[] #[]
theorem Ng (d : Array StE) (v : Value) (m : Hp) (hO : OS m v d) (a b : Nat) (hab : a ≤ b) (hb : b ≤ d.size) (hsz : d.size ≤ 1000000) (h : Hp) {a' b' : Int} (ea : a' = a) (eb : b' = b) :
  FnT Tryz.prog 117 #[v, .int .i64 a', .int .i64 b', Mc] h [m] (fun _ h' ms' => h = h' ∧ ∃ m' d', ms' = [m'] ∧ OS m' v d' ∧ PermIn a b d d' ∧ SortedIn Ep a b d') := by
 subst ea eb
 have hfin := insertionSort_holds (lt := Ep) Ik d a b hab hb
 refine Av func117 ntmps117 rfl rfl (fun w0 hw0 => ?_)
 simp only [A4]
 refine Ax (Qm rfl (Qx (oA rfl) rfl (Qm rfl (Aq (Ag ?_)))))
 refine AD (fun n s h' ms' => ∃ (i : Nat) (z : Int) (d' : Array StE) (m : Hp), n = b - i ∧ s = [(0, v), (1, .int .i64 a), (2, .int .i64 b), (3, Mc), (8, .int .i64 z)] ∧ h = h' ∧ ms' = [m] ∧ z = i ∧ a < i ∧ i ≤ 4611686018427387905 ∧ OS m v d' ∧ d'.size = d.size ∧ insOuter Ep a b i d' = insertionSort Ep d a b)
  _ _ ⟨a + 1, (a : Int) + 1, d, m, rfl, rfl, rfl, rfl, by omega, by omega, by omega, hO, rfl, rfl⟩ Qs ?_
 rintro n s h' ms' ⟨i, z, d', m, rfl, rfl, rfl, rfl, hz, hai, hi, hO, hds, hR⟩
 refine Ac (Ax (Qm rfl (Qm rfl (Qm rfl (Aq ?_)))))
 refine AF rfl (fun hlt => ?_) (fun hlt => ?_)
 ·refine Ai (Ab (Ac (Ag (Ax (Qm rfl (Qm rfl (Aq (Ag ?_))))))))
  refine AD (fun n s h' ms' => ∃ (j : Nat) (y : Int) (d' : Array StE) (m : Hp), j = n ∧ s = [(0, v), (1, .int .i64 a), (2, .int .i64 b), (3, Mc), (8, .int .i64 z), (9, .int .i64 y)] ∧ h = h' ∧ ms' = [m] ∧ y = j ∧ j ≤ i ∧ OS m v d' ∧ d'.size = d.size ∧ insOuter Ep a b (i + 1) (insInner Ep a j d') = insertionSort Ep d a b)
   _ _ ⟨i, z, d', m, rfl, rfl, rfl, rfl, hz, by omega, hO, hds, by rw [← hR]; conv => rhs; unfold insOuter; rw [if_pos (by omega)]⟩ Qs ?_
  rintro n s h' ms' ⟨j, y, d1, m1, rfl, rfl, rfl, rfl, hy, hji, hO1, hds1, hR1⟩
  refine Ac (Ac (BB 14 Cd (by kernel_rfl) rfl (Wm rfl (Wm rfl (Wm rfl (Wm rfl ?_))))))
  refine DR (t := 21) rfl (fun hja => ?_) (fun hja => ?_)
  ·refine Bp (As rfl rfl) rfl rfl rfl rfl (Bp (As rfl rfl) rfl rfl rfl rfl (Bp (As rfl rfl) rfl rfl rfl rfl (Bp (Ah (j) (hO1.rd (.head _)) rfl underlying60 BP rfl rfl (by omega) (by omega)) rfl rfl rfl rfl (Bp (oG rfl underlying64 BP (hO1.get (.head _) (by omega))) rfl rfl rfl rfl (Bp (As rfl rfl) rfl rfl rfl rfl (Bp (As rfl rfl) rfl rfl rfl rfl (Bp (oS rfl) rfl rfl rfl rfl (Bp (Ah (j - 1) (hO1.rd (.head _)) rfl underlying60 BP rfl rfl (by omega) (by omega)) rfl rfl rfl rfl (Bp (oG rfl underlying64 BP (hO1.get (.head _) (by omega))) rfl rfl rfl rfl (BC (Qg (En rfl rfl call59 rfl (Kp _ _ _ _)) rfl (Qg (Dy rfl rfl rfl) rfl (Qm rfl (Aq ?_))))))))))))))
   refine BJ rfl (fun hl => ?_) (fun hl => ?_)
   ·refine Ai (Ab (Ac (Ag (Hd 14 [false, false, true, true, true] Cd (by kernel_rfl) (by kernel_rfl) (by kernel_rfl) (HK rfl rfl rfl rfl (D4 rfl rfl) (HK rfl rfl rfl rfl (D4 rfl rfl) (HK rfl rfl rfl rfl (RI rfl rfl rfl (by omega)) ?_)))))))
    refine ⟨rfl, ?_⟩
    simp only [EH, zap, List.cons_append, List.nil_append, List.take_succ_cons, List.take_zero, List.drop_succ_cons, List.drop_zero, List.take_nil, List.drop_nil]
    refine Wm rfl (Wm rfl (HL rfl rfl rfl (HL rfl rfl rfl (HL rfl rfl rfl (Wm rfl (Wm rfl (AV (oS rfl) rfl rfl (AV (Ah (j - 1) (hO1.rd (.head _)) rfl underlying60 BP rfl rfl (by omega) (by omega)) rfl rfl (AV (oG rfl underlying64 BP (hO1.get (.head _) (by omega))) rfl rfl (Wm rfl (Wm rfl (AV (Ah (j) (hO1.rd (.head _)) rfl underlying60 BP rfl rfl (by omega) (by omega)) rfl rfl (AV (oG rfl underlying64 BP (hO1.get (.head _) (by omega))) rfl rfl (BC (Qx (Ah (j) (hO1.rd (.head _)) rfl underlying60 BP rfl rfl (by omega) (by omega)) rfl (Dn 0 _ hO1 rfl BP rfl rfl rfl (by omega) rfl rfl (fun mhO2 hzhO2 hO2 => Qx (Ah (j - 1) (hO2.rd (.head _)) rfl underlying60 BP rfl rfl (by omega) (by omega)) rfl (Dn 0 _ hO2 rfl BP rfl rfl rfl (by omega) rfl rfl (fun mhO3 hzhO3 hO3 => Ak (NQ (Aj (Ab (Ad (Qm rfl (Qx (oS rfl) rfl (Qm rfl (Ak ?_)))))))))))))))))))))))))))
    obtain ⟨j', rfl⟩ : ∃ j', j = j' + 1 := ⟨j - 1, by omega⟩
    refine Al j' _ (by omega) ⟨j', y - 1, _, mhO3, rfl, rfl, rfl, rfl, by omega, by omega, hO3, by simp [hds1], ?_⟩ Qs
    rw [← hR1]
    conv => rhs; unfold insInner
    rw [if_pos (by rw [Bool.and_eq_true]; exact ⟨decide_eq_true (by omega), hl⟩)]
    rfl
   ·refine Aw (Aa (Aa (Af (Aj (Ab (Ad (Qm rfl (Qx (oA rfl) rfl (Qm rfl (Ak ?_))))))))))
    refine Al (b - (i + 1)) _ (by omega) ⟨i + 1, z + 1, d1, m1, rfl, rfl, rfl, rfl, by omega, by omega, by omega, hO1, hds1, ?_⟩ Qs
    rw [← hR1]
    obtain ⟨j', rfl⟩ : ∃ j', j = j' + 1 := ⟨j - 1, by omega⟩
    conv => rhs; unfold insInner
    rw [if_neg (by rw [Bool.and_eq_true]; rintro ⟨_, h2⟩; exact absurd (hl.symm.trans h2) (by decide))]
  ·refine AN rfl rfl rfl rfl rfl (AN rfl rfl rfl rfl rfl (AN rfl rfl rfl rfl rfl (AN rfl rfl rfl rfl rfl (AN rfl rfl rfl rfl rfl (AN rfl rfl rfl rfl rfl (AN rfl rfl rfl rfl rfl (AN rfl rfl rfl rfl rfl (AN rfl rfl rfl rfl rfl (AN rfl rfl rfl rfl rfl (BC (Qk rfl (Qk rfl (Qm rfl (Aq (Bb rfl (Aw (Aa (Aa (Af (Aj (Ab (Ad (Qm rfl (Qx (oA rfl) rfl (Qm rfl (Ak ?_))))))))))))))))))))))))))
   refine Al (b - (i + 1)) _ (by omega) ⟨i + 1, z + 1, d1, m1, rfl, rfl, rfl, rfl, by omega, by omega, by omega, hO1, hds1, ?_⟩ Qs
   rw [← hR1]
   cases j with
   | zero => rfl
   | succ j' =>
    conv => rhs; unfold insInner
    rw [if_neg (by simp; intro h'; omega)]
 ·refine Aw (Aa (Aa (Af ?_)))
  exact B6 rfl (⟨rfl, m, insertionSort Ep d a b, rfl, by rw [← hR]; unfold insOuter; rw [if_neg (by omega)]; exact hO, hfin.1, hfin.2⟩)
end Go.Proofs.YtdnelknieikbaaaGreat
namespace Go.Proofs.YtdnelknieikbaaaGreat
open Tryz
open Go.Eng Go.RowKit Go.Lin Go.Sort Go.Srt
theorem J2 (i j : Nat) (h : i + j < 4611686018427387904) : IntKind.i64.wrap (((i + j) % ((2 : Int) ^ IntKind.u64.bits).natAbs / 2 ^ 1 : Nat) : Int) = (((i + j) / 2 : Nat) : Int) := by
 have e1 : (2 ^ IntKind.u64.bits : Int).natAbs = 18446744073709551616 := by decide
 rw [e1, Nat.mod_eq_of_lt (by omega)]
 show IntKind.i64.wrap (((i + j) / 2 : Nat) : Int) = _
 unfold IntKind.wrap
 simp [IntKind.bits, IntKind.signed]
 omega
theorem HX : ∀ (N : Nat) (d : Array StE) (v : Value) (m : Hp) (hO : OS m v d) (a t b : Nat) (hN : b - a ≤ N) (hat : a < t) (htb : t < b) (hb : b ≤ d.size) (hsz : d.size ≤ 1000000) (hA : SortedIn Ep a t d) (hB : SortedIn Ep t b d) (h : Hp) {a' t' b' : Int} (ea : a' = a) (et : t' = t) (eb : b' = b),
  FnT Tryz.prog 118 #[v, .int .i64 a', .int .i64 t', .int .i64 b', Mc] h [m] (fun _ h' ms' => h = h' ∧ ∃ m' d', ms' = [m'] ∧ OS m' v d' ∧ PermIn a b d d' ∧ SortedIn Ep a b d') := by
 intro N
 induction N with
 | zero => intro d v m hO a t b hN hat htb; omega
 | succ N ih =>
 intro d v m hO a t b hN hat htb hb hsz hA hB h a' t' b' ea et eb
 subst ea et eb
 refine Av func118 ntmps118 rfl rfl (fun w0 hw0 => ?_)
 simp only [A4]
 refine Ac (Ax (Qm rfl (Qm rfl (Qx (oS rfl) rfl (Qm rfl (Aq ?_))))))
 refine AF rfl (fun h1 => ?_) (fun h1 => ?_)
 ·-- one element on the left
  obtain rfl : t = a + 1 := by omega
  refine Ax (Qm rfl (Qm rfl (B3 (Qm rfl (Qm rfl (Aq (Ac (Ag ?_))))))))
  refine AD (fun n s h' ms' => ∃ (i j : Nat), n = j - i ∧ s = [(0, v), (1, .int .i64 a), (4, Mc), (10, .int .i64 i), (11, .int .i64 j)] ∧ h = h' ∧ ms' = [m] ∧ a + 1 ≤ i ∧ i ≤ j ∧ j ≤ b ∧ (i = a + 1 ∨ Ep d[i - 1]! d[a]! = true) ∧ (j = b ∨ Ep d[j]! d[a]! = false))
   (b - (a + 1)) _ ⟨a + 1, b, rfl, rfl, rfl, rfl, by omega, by omega, by omega, .inl rfl, .inl rfl⟩ Qs ?_
  rintro n s h' ms' ⟨i, j, rfl, rfl, rfl, rfl, hi, hij, hj, c1, c2⟩
  refine Ac (Ax (Qm rfl (Qm rfl (Qm rfl (Aq ?_)))))
  refine AF rfl (fun hlt => ?_) (fun hlt => ?_)
  ·refine Ai (Ab (Ag (Ax (Qm rfl (Qm rfl (Qx (oA rfl) rfl (Qx (DQ rfl underlying3 underlying143 rfl) rfl (Qx (Ie (n := 1) rfl rfl rfl (by omega)) rfl (Qx (DQ rfl underlying143 underlying3 rfl) rfl (Qm rfl (Aq ?_)))))))))))
   rw [J2 i j (by omega)]
   refine Ac (BB 9 Cd (by kernel_rfl) rfl (Wm rfl (Wm rfl (Wm rfl (AV (Ah ((i + j) / 2) (hO.rd (.head _)) rfl underlying60 BP rfl rfl (by omega) (by omega)) rfl rfl (AV (oG rfl underlying64 BP (hO.get (.head _) (by omega))) rfl rfl (Wm rfl (Wm rfl (AV (Ah (a) (hO.rd (.head _)) rfl underlying60 BP rfl rfl (by omega) (by omega)) rfl rfl (AV (oG rfl underlying64 BP (hO.get (.head _) (by omega))) rfl rfl (BC (Qx (En rfl rfl call59 rfl (Kp _ _ _ _)) rfl (Qm rfl (Aq ?_))))))))))))))
   refine BJ rfl (fun hl => ?_) (fun hl => ?_)
   ·refine Ad (Qm rfl (Qx (oA rfl) rfl (Qm rfl (Ak (Aj ?_)))))
    exact Al (j - ((i + j) / 2 + 1)) _ (by omega) ⟨(i + j) / 2 + 1, j, rfl, rfl, rfl, rfl, by omega, by omega, by omega, .inr (by rw [Nat.add_sub_cancel]; exact hl), c2⟩ Qs
   ·refine Ad (Qm rfl (Qm rfl (Ak (Aj ?_))))
    exact Al ((i + j) / 2 - i) _ (by omega) ⟨i, (i + j) / 2, rfl, rfl, rfl, rfl, by omega, by omega, by omega, c1, .inr hl⟩ Qs
  ·obtain rfl : i = j := by omega
   refine Aw (Aa (Aa (Af (Ab (Ac (Ax (Qm rfl (Qm rfl (Aq (Ag ?_))))))))))
   refine AD (fun n s h' ms' => ∃ (k : Nat) (d0 : Array StE) (m : Hp), n = i - 1 - k ∧ s = [(0, v), (10, .int .i64 i), (13, .int .i64 k)] ∧ h = h' ∧ ms' = [m] ∧ a ≤ k ∧ k ≤ i - 1 ∧ OS m v d0 ∧ InsR d d0 a k ∧ PermIn a b d d0)
    (i - 1 - a) _ ⟨a, d, m, rfl, rfl, rfl, rfl, by omega, by omega, hO, InsR.start d a, permIn_refl d a b⟩ Qs ?_
   rintro n s h' ms' ⟨k, d0, m0, rfl, rfl, rfl, rfl, hak, hki, hO0, R, P⟩
   have hds := R.1
   refine Ac (Ax (Qm rfl (Qm rfl (Qx (oS rfl) rfl (Qm rfl (Aq ?_))))))
   refine AF rfl (fun hltk => ?_) (fun hltk => ?_)
   ·refine Ai (Ab (Ac (Ag (Hd 14 [false, false, true, true, true] Cd (by kernel_rfl) (by kernel_rfl) (by kernel_rfl) (HK rfl rfl rfl rfl (D4 rfl rfl) (HK rfl rfl rfl rfl (D4 rfl rfl) (HK rfl rfl rfl rfl (QY rfl rfl rfl (by omega)) ?_)))))))
    refine ⟨rfl, ?_⟩
    simp only [EH, zap, List.cons_append, List.nil_append, List.take_succ_cons, List.take_zero, List.drop_succ_cons, List.drop_zero, List.take_nil, List.drop_nil]
    refine Wm rfl (Wm rfl (HL rfl rfl rfl (HL rfl rfl rfl (HL rfl rfl rfl (Wm rfl (Wm rfl (AV (oA rfl) rfl rfl (AV (Ah (k + 1) (hO0.rd (.head _)) rfl underlying60 BP rfl rfl (by omega) (by omega)) rfl rfl (AV (oG rfl underlying64 BP (hO0.get (.head _) (by omega))) rfl rfl (Wm rfl (Wm rfl (AV (Ah (k) (hO0.rd (.head _)) rfl underlying60 BP rfl rfl (by omega) (by omega)) rfl rfl (AV (oG rfl underlying64 BP (hO0.get (.head _) (by omega))) rfl rfl (BC (Qx (Ah (k) (hO0.rd (.head _)) rfl underlying60 BP rfl rfl (by omega) (by omega)) rfl (Dn 0 _ hO0 rfl BP rfl rfl rfl (by omega) rfl rfl (fun mhO1 hzhO1 hO1 => Qx (Ah (k + 1) (hO1.rd (.head _)) rfl underlying60 BP rfl rfl (by omega) (by omega)) rfl (Dn 0 _ hO1 rfl BP rfl rfl rfl (by omega) rfl rfl (fun mhO2 hzhO2 hO2 => Ak (NQ (Aj (Ab (Ad (Qm rfl (Qx (oA rfl) rfl (Qm rfl (Ak ?_)))))))))))))))))))))))))))
    exact Al (i - 1 - (k + 1)) _ (by omega) ⟨k + 1, _, mhO2, rfl, rfl, rfl, rfl, by omega, by omega, hO2, R.step hak (by omega), permIn_trans _ _ _ _ _ P (swp_permIn d0 a b k (k + 1) (by omega) (by omega) (by omega) (by omega) (by omega))⟩ Qs
   ·obtain rfl : k = i - 1 := by omega
    refine Aw (Aa (Aa (Af (Ab (Ao (Ae ?_))))))
    exact NT rfl (⟨rfl, m0, d0, rfl, hO0, P, Mg Ik hB ⟨hi, hj⟩ c1 c2 R⟩)
 ·refine Ai (Ab (Ac (Ax (Qm rfl (Qm rfl (Qx (oS rfl) rfl (Qm rfl (Aq ?_))))))))
  refine AF rfl (fun h2 => ?_) (fun h2 => ?_)
  ·-- one element on the right
   obtain rfl : b = t + 1 := by omega
   refine Ax (Qm rfl (Qm rfl (B3 (Qm rfl (Qm rfl (Aq (Ac (Ag ?_))))))))
   refine AD (fun n s h' ms' => ∃ (i j : Nat), n = j - i ∧ s = [(0, v), (1, .int .i64 a), (2, .int .i64 t), (4, Mc), (14, .int .i64 i), (15, .int .i64 j)] ∧ h = h' ∧ ms' = [m] ∧ a ≤ i ∧ i ≤ j ∧ j ≤ t ∧ (i = a ∨ Ep d[t]! d[i - 1]! = false) ∧ (j = t ∨ Ep d[t]! d[j]! = true))
    (t - a) _ ⟨a, t, rfl, rfl, rfl, rfl, by omega, by omega, by omega, .inl rfl, .inl rfl⟩ Qs ?_
   rintro n s h' ms' ⟨i, j, rfl, rfl, rfl, rfl, hi, hij, hj, c1, c2⟩
   refine Ac (Ax (Qm rfl (Qm rfl (Qm rfl (Aq ?_)))))
   refine AF rfl (fun hlt => ?_) (fun hlt => ?_)
   ·refine Ai (Ab (Ag (Ax (Qm rfl (Qm rfl (Qx (oA rfl) rfl (Qx (DQ rfl underlying3 underlying143 rfl) rfl (Qx (Ie (n := 1) rfl rfl rfl (by omega)) rfl (Qx (DQ rfl underlying143 underlying3 rfl) rfl (Qm rfl (Aq ?_)))))))))))
    rw [J2 i j (by omega)]
    refine Ac (BB 9 Cd (by kernel_rfl) rfl (Wm rfl (Wm rfl (Wm rfl (AV (Ah (t) (hO.rd (.head _)) rfl underlying60 BP rfl rfl (by omega) (by omega)) rfl rfl (AV (oG rfl underlying64 BP (hO.get (.head _) (by omega))) rfl rfl (Wm rfl (Wm rfl (AV (Ah ((i + j) / 2) (hO.rd (.head _)) rfl underlying60 BP rfl rfl (by omega) (by omega)) rfl rfl (AV (oG rfl underlying64 BP (hO.get (.head _) (by omega))) rfl rfl (BC (Qx (En rfl rfl call59 rfl (Kp _ _ _ _)) rfl (Qm rfl (Qm rfl (Aq ?_)))))))))))))))
    refine BJ rfl (fun hl => ?_) (fun hl => ?_)
    ·have hl : Ep d[t]! d[(i + j) / 2]! = false := by unfold Ep; simpa using hl
     refine Ad (Qm rfl (Qx (oA rfl) rfl (Qm rfl (Ak (Aj ?_)))))
     exact Al (j - ((i + j) / 2 + 1)) _ (by omega) ⟨(i + j) / 2 + 1, j, rfl, rfl, rfl, rfl, by omega, by omega, by omega, .inr (by rw [Nat.add_sub_cancel]; exact hl), c2⟩ Qs
    ·have hl : Ep d[t]! d[(i + j) / 2]! = true := by unfold Ep; simpa using hl
     refine Ad (Qm rfl (Qm rfl (Ak (Aj ?_))))
     exact Al ((i + j) / 2 - i) _ (by omega) ⟨i, (i + j) / 2, rfl, rfl, rfl, rfl, by omega, by omega, by omega, c1, .inr hl⟩ Qs
   ·obtain rfl : i = j := by omega
    refine Aw (Aa (Aa (Af (Ab (Ac (Ax (Qm rfl (Qm rfl (Aq (Ag ?_))))))))))
    refine AD (fun n s h' ms' => ∃ (k : Nat) (d0 : Array StE) (m : Hp), n = k - i ∧ s = [(0, v), (14, .int .i64 i), (17, .int .i64 k)] ∧ h = h' ∧ ms' = [m] ∧ i ≤ k ∧ k ≤ t ∧ OS m v d0 ∧ ShR d d0 t k ∧ PermIn a (t + 1) d d0)
     (t - i) _ ⟨t, d, m, rfl, rfl, rfl, rfl, by omega, by omega, hO, ShR.start d t, permIn_refl d a (t + 1)⟩ Qs ?_
    rintro n s h' ms' ⟨k, d0, m0, rfl, rfl, rfl, rfl, hik, hkt, hO0, R, P⟩
    have hds := R.1
    refine Ac (Ax (Qm rfl (Qm rfl (Qm rfl (Aq ?_)))))
    refine AF rfl (fun hltk => ?_) (fun hltk => ?_)
    ·have st : ShR d (Go.Sort.swp d0 k (k - 1)) t (k - 1) := by
      obtain ⟨k', rfl⟩ : ∃ k', k = k' + 1 := ⟨k - 1, by omega⟩
      exact R.step (by omega) (by omega)
     have e : (k : Int) - 1 = ((k - 1 : Nat) : Int) := by omega
     refine Ai (Ab (Ac (Ag (Hd 14 [false, false, true, true, true] Cd (by kernel_rfl) (by kernel_rfl) (by kernel_rfl) (HK rfl rfl rfl rfl (D4 rfl rfl) (HK rfl rfl rfl rfl (D4 rfl rfl) (HK rfl rfl rfl rfl (RI rfl rfl rfl (by omega)) ?_)))))))
     refine ⟨rfl, ?_⟩
     simp only [EH, zap, List.cons_append, List.nil_append, List.take_succ_cons, List.take_zero, List.drop_succ_cons, List.drop_zero, List.take_nil, List.drop_nil]
     refine Wm rfl (Wm rfl (HL rfl rfl rfl (HL rfl rfl rfl (HL rfl rfl rfl (Wm rfl (Wm rfl (AV (oS rfl) rfl rfl (AV (Ah (k - 1) (hO0.rd (.head _)) rfl underlying60 BP rfl rfl (by omega) (by omega)) rfl rfl (AV (oG rfl underlying64 BP (hO0.get (.head _) (by omega))) rfl rfl (Wm rfl (Wm rfl (AV (Ah (k) (hO0.rd (.head _)) rfl underlying60 BP rfl rfl (by omega) (by omega)) rfl rfl (AV (oG rfl underlying64 BP (hO0.get (.head _) (by omega))) rfl rfl (BC (Qx (Ah (k) (hO0.rd (.head _)) rfl underlying60 BP rfl rfl (by omega) (by omega)) rfl (Dn 0 _ hO0 rfl BP rfl rfl rfl (by omega) rfl rfl (fun mhO1 hzhO1 hO1 => Qx (Ah (k - 1) (hO1.rd (.head _)) rfl underlying60 BP rfl rfl (by omega) (by omega)) rfl (Dn 0 _ hO1 rfl BP rfl rfl rfl (by omega) rfl rfl (fun mhO2 hzhO2 hO2 => Ak (NQ (Aj (Ab (Ad (Qm rfl (Qx (oS rfl) rfl (Qm rfl (Ak ?_)))))))))))))))))))))))))))
     rw [e]
     exact Al (k - 1 - i) _ (by omega) ⟨k - 1, _, mhO2, rfl, rfl, rfl, rfl, by omega, by omega, hO2, st, permIn_trans _ _ _ _ _ P (swp_permIn d0 a (t + 1) k (k - 1) (by omega) (by omega) (by omega) (by omega) (by omega))⟩ Qs
    ·obtain rfl : k = i := by omega
     refine Aw (Aa (Aa (Af (Ab (Ao (Ae ?_))))))
     exact NT rfl (⟨rfl, m0, d0, rfl, hO0, P, OH Ik hA ⟨hi, hj⟩ c1 c2 R⟩)
  ·refine Ai (Ab (Ax (Qm rfl (Qm rfl (Qx (oA rfl) rfl (Qx (DQ rfl underlying3 underlying143 rfl) rfl (Qx (Ie (n := 1) rfl rfl rfl (by omega)) rfl (Qx (DQ rfl underlying143 underlying3 rfl) rfl (Qm rfl (Aq ?_))))))))))
   rw [J2 a b (by omega)]
   obtain ⟨mid, hmid⟩ : ∃ mid, mid = (a + b) / 2 := ⟨_, rfl⟩
   rw [← hmid]
   refine Ax (Qm rfl (Qm rfl (Qx (oA rfl) rfl (Qm rfl (B3 (Qm rfl (Qm rfl (Aq ?_))))))))
   refine Bv (fun s h' ms' => ∃ (s0 r0 : Nat), s = [(0, v), (1, .int .i64 a), (2, .int .i64 t), (3, .int .i64 b), (4, Mc), (18, .int .i64 mid), (19, .int .i64 ((mid : Int) + t)), (20, .int .i64 s0), (21, .int .i64 r0)] ∧ h = h' ∧ ms' = [m] ∧ ((mid < t ∧ s0 + b = mid + t ∧ r0 = mid) ∨ (t ≤ mid ∧ s0 = a ∧ r0 = t))) ?_ (fun s h ms hI => ?_)
   ·refine Ac (Ad (Qm rfl (Qm rfl (Qm rfl (Aq ?_)))))
    refine AF rfl (fun hgt => ?_) (fun hgt => ?_)
    ·refine Ac (Ad (Qm rfl (Qm rfl (Qx (oS rfl) rfl (Qm rfl (IA (Qm rfl (Qm rfl (Ak ?_)))))))))
     have e : (mid : Int) + t - b = ((mid + t - b : Nat) : Int) := by omega
     rw [e]
     exact AA _ ⟨mid + t - b, mid, rfl, rfl, rfl, .inl ⟨by omega, by omega, rfl⟩⟩ Qs
    ·refine Ac (Ad (Qm rfl (Qm rfl (IA (Qm rfl (Qm rfl (Ak ?_)))))))
     exact AA _ ⟨a, t, rfl, rfl, rfl, .inr ⟨by omega, rfl, rfl⟩⟩ Qs
   ·obtain ⟨s0, r0, rfl, rfl, rfl, hc⟩ := hI
    refine Ax (Qm rfl (Qx (oS rfl) rfl (Qm rfl (Aq (Ac (Ag ?_))))))
    refine AD (fun n s h' ms' => ∃ (i j : Nat), n = j - i ∧ s = [(0, v), (1, .int .i64 a), (2, .int .i64 t), (3, .int .i64 b), (4, Mc), (18, .int .i64 mid), (19, .int .i64 ((mid : Int) + t)), (20, .int .i64 i), (21, .int .i64 j), (22, .int .i64 ((mid : Int) + t - 1))] ∧ h = h' ∧ ms' = [m] ∧ s0 ≤ i ∧ i ≤ j ∧ j ≤ r0 ∧ (i = s0 ∨ Ep d[mid + t - i]! d[i - 1]! = false) ∧ (j = r0 ∨ Ep d[mid + t - 1 - j]! d[j]! = true))
     (r0 - s0) _ ⟨s0, r0, rfl, rfl, rfl, rfl, by omega, by omega, by omega, .inl rfl, .inl rfl⟩ Qs ?_
    rintro n s h' ms' ⟨i, j, rfl, rfl, rfl, rfl, hi, hij, hj, c1, c2⟩
    refine Ac (Ax (Qm rfl (Qm rfl (Qm rfl (Aq ?_)))))
    refine AF rfl (fun hlt => ?_) (fun hlt => ?_)
    ·refine Ai (Ab (Ag (Ax (Qm rfl (Qm rfl (Qx (oA rfl) rfl (Qx (DQ rfl underlying3 underlying143 rfl) rfl (Qx (Ie (n := 1) rfl rfl rfl (by omega)) rfl (Qx (DQ rfl underlying143 underlying3 rfl) rfl (Qm rfl (Aq ?_)))))))))))
     rw [J2 i j (by omega)]
     refine Ac (BB 11 Cd (by kernel_rfl) rfl (Wm rfl (Wm rfl (Wm rfl (Wm rfl (AV (oS rfl) rfl rfl (AV (Ah (mid + t - 1 - (i + j) / 2) (hO.rd (.head _)) rfl underlying60 BP rfl rfl (by omega) (by omega)) rfl rfl (AV (oG rfl underlying64 BP (hO.get (.head _) (by omega))) rfl rfl (Wm rfl (Wm rfl (AV (Ah ((i + j) / 2) (hO.rd (.head _)) rfl underlying60 BP rfl rfl (by omega) (by omega)) rfl rfl (AV (oG rfl underlying64 BP (hO.get (.head _) (by omega))) rfl rfl (BC (Qx (En rfl rfl call59 rfl (Kp _ _ _ _)) rfl (Qm rfl (Qm rfl (Aq ?_)))))))))))))))))
     refine BJ rfl (fun hl => ?_) (fun hl => ?_)
     ·have hl : Ep d[mid + t - 1 - (i + j) / 2]! d[(i + j) / 2]! = false := by unfold Ep; simpa using hl
      refine Ad (Qm rfl (Qx (oA rfl) rfl (Qm rfl (Ak (Aj ?_)))))
      exact Al (j - ((i + j) / 2 + 1)) _ (by omega) ⟨(i + j) / 2 + 1, j, rfl, rfl, rfl, rfl, by omega, by omega, by omega, .inr (by rw [Nat.add_sub_cancel, show mid + t - ((i + j) / 2 + 1) = mid + t - 1 - (i + j) / 2 by omega]; exact hl), c2⟩ Qs
     ·have hl : Ep d[mid + t - 1 - (i + j) / 2]! d[(i + j) / 2]! = true := by unfold Ep; simpa using hl
      refine Ad (Qm rfl (Qm rfl (Ak (Aj ?_))))
      exact Al ((i + j) / 2 - i) _ (by omega) ⟨i, (i + j) / 2, rfl, rfl, rfl, rfl, by omega, by omega, by omega, c1, .inr hl⟩ Qs
    ·obtain rfl : i = j := by omega
     obtain ⟨e, he⟩ : ∃ e, e = mid + t - i := ⟨_, rfl⟩
     have he2 : (mid : Int) + t - i = (e : Int) := by omega
     refine Aw (Aa (Aa (Af (Ab (Ax (Qm rfl (Qm rfl (Qx (oS rfl) rfl (Qm rfl (Aq ?_))))))))))
     rw [he2]
     have k1 : i = a ∨ e = b ∨ Ep d[e]! d[i - 1]! = false := by
      rcases c1 with c | c
      ·rcases hc with hc | hc
       ·right; left; omega
       ·left; omega
      ·right; right; rw [he]; exact c
     have k2 : i = t ∨ e = t ∨ Ep d[e - 1]! d[i]! = true := by
      rcases c2 with c | c
      ·rcases hc with hc | hc
       ·right; left; omega
       ·left; omega
      ·right; right; rw [show e - 1 = mid + t - 1 - i by omega]; exact c
     have hg : a ≤ i ∧ i ≤ t ∧ i ≤ mid ∧ t ≤ e ∧ e ≤ b := by rcases hc with hc | hc <;> omega
     have hs2 : i + e = mid + t := by omega
     refine Bv (fun s h' ms' => ∃ (d1 : Array StE) (m1 : Hp), s = [(0, v), (1, .int .i64 a), (3, .int .i64 b), (4, Mc), (18, .int .i64 mid), (20, .int .i64 i), (24, .int .i64 e)] ∧ h = h' ∧ ms' = [m1] ∧ OS m1 v d1 ∧ (∀ k, d1[k]! = EZ d i t e k) ∧ PermIn a b d d1) ?_ (fun s h ms hI => ?_)
     ·refine Ac (Ad (Qm rfl (Qm rfl (Qm rfl (Qm rfl ?_)))))
      refine AR (t := 181) rfl (fun q1 => ?_) (fun q1 => ?_)
      ·refine Qg (As rfl rfl) rfl (Qg (As rfl rfl) rfl (Qg (Dy rfl rfl rfl) rfl (Qm rfl (Aq ?_))))
       refine AF rfl (fun q2 => ?_) (fun q2 => ?_)
       ·refine Ad (Qm rfl (Qm rfl (Qm rfl (Qm rfl (Qm rfl (Bs (pre := [m]) rfl call139 rfl (Ot d v Mc m hO i t e a b (by omega) (by omega) (by omega) (by omega) (by omega) (by omega) (by omega) h rfl rfl rfl) rfl rfl rfl rfl (fun r h1 ms1 l1 hF => ?_)))))))
        obtain ⟨rfl, m1, d1, rfl, hO1, hr, P⟩ := hF
        refine Ak ?_
        exact AA _ ⟨d1, m1, rfl, rfl, rfl, hO1, hr, P⟩ Qs
       ·refine Ai ?_
        exact AA _ ⟨d, m, rfl, rfl, rfl, hO, fun k => (Js (by omega) k).symm, permIn_refl d a b⟩ Qs
      ·refine Qk rfl (Qk rfl (Qk rfl (Qm rfl (Aq (Bb rfl (Ai ?_))))))
       exact AA _ ⟨d, m, rfl, rfl, rfl, hO, fun k => (Js (by omega) k).symm, permIn_refl d a b⟩ Qs
     ·obtain ⟨d1, m1, rfl, rfl, rfl, hO1, hr, P⟩ := hI
      have C := Vx Ik hA hB hg hs2 hr k1 k2
      have hd1 := P.1
      refine Bv (fun s h' ms' => ∃ (d2 : Array StE) (m2 : Hp), s = [(0, v), (3, .int .i64 b), (4, Mc), (18, .int .i64 mid), (24, .int .i64 e)] ∧ h = h' ∧ ms' = [m2] ∧ OS m2 v d2 ∧ PermIn a mid d1 d2 ∧ SortedIn Ep a mid d2) ?_ (fun s h ms hI => ?_)
      ·refine Ac (Ad (Qm rfl (Qm rfl (Qm rfl (Qm rfl ?_)))))
       refine AR (t := 195) rfl (fun q1 => ?_) (fun q1 => ?_)
       ·refine Qg (As rfl rfl) rfl (Qg (As rfl rfl) rfl (Qg (Dy rfl rfl rfl) rfl (Qm rfl (Aq ?_))))
        refine AF rfl (fun q2 => ?_) (fun q2 => ?_)
        ·refine Ad (Qm rfl (Qm rfl (Qm rfl (Qm rfl (Qm rfl (Bs (pre := [m1]) rfl call118 rfl (ih d1 v m1 hO1 a i mid (by omega) (by omega) (by omega) (by omega) (by omega) C.lo C.lo2 h rfl rfl rfl) rfl rfl rfl rfl (fun r h1 ms1 l1 hF => ?_)))))))
         obtain ⟨rfl, m2, d2, rfl, hO2, P2, S2⟩ := hF
         refine Ak ?_
         exact AA _ ⟨d2, m2, rfl, rfl, rfl, hO2, P2, S2⟩ Qs
        ·obtain rfl : i = mid := by omega
         refine Ai ?_
         exact AA _ ⟨d1, m1, rfl, rfl, rfl, hO1, permIn_refl d1 a _, C.lo⟩ Qs
       ·obtain rfl : i = a := by omega
        refine Qk rfl (Qk rfl (Qk rfl (Qm rfl (Aq (Bb rfl (Ai ?_))))))
        exact AA _ ⟨d1, m1, rfl, rfl, rfl, hO1, permIn_refl d1 _ _, C.lo2⟩ Qs
      ·obtain ⟨d2, m2, rfl, rfl, rfl, hO2, P2, S2⟩ := hI
       have hd2 := P2.1
       have f1 : SortedIn Ep mid e d2 := CI C.hi fun k h1 h2 => P2.2.1 k (.inr h1)
       have f2 : SortedIn Ep e b d2 := CI C.hi2 fun k h1 h2 => P2.2.1 k (.inr (by omega))
       have fin : ∀ d3, PermIn mid b d2 d3 → SortedIn Ep mid b d3 → PermIn a b d d3 ∧ SortedIn Ep a b d3 := fun d3 P3 S3 =>
        ⟨permIn_trans _ _ _ _ _ P (permIn_trans _ _ _ _ _ (permIn_mono d1 d2 a mid a b (by omega) (by omega) (by omega) P2) (permIn_mono d2 d3 mid b a b (by omega) (by omega) (by omega) P3)), Q3 C (by omega) (by omega) P2 S2 P3 S3⟩
       refine Ax (Qm rfl (Qm rfl (Qm rfl (Qm rfl ?_))))
       refine AR (t := 209) rfl (fun q1 => ?_) (fun q1 => ?_)
       ·refine Qg (As rfl rfl) rfl (Qg (As rfl rfl) rfl (Qg (Dy rfl rfl rfl) rfl (Qm rfl (Aq ?_))))
        refine AF rfl (fun q2 => ?_) (fun q2 => ?_)
        ·refine Ad (Qm rfl (Qm rfl (Qm rfl (Qm rfl (Qm rfl (Bs (pre := [m2]) rfl call118 rfl (ih d2 v m2 hO2 mid e b (by omega) (by omega) (by omega) (by omega) (by omega) f1 f2 h rfl rfl rfl) rfl rfl rfl rfl (fun r h1 ms1 l1 hF => ?_)))))))
         obtain ⟨rfl, m3, d3, rfl, hO3, P3, S3⟩ := hF
         refine Ak ?_
         exact B6 rfl (⟨rfl, m3, d3, rfl, hO3, (fin d3 P3 S3).1, (fin d3 P3 S3).2⟩)
        ·obtain rfl : e = b := by omega
         refine Ai ?_
         exact B6 rfl (⟨rfl, m2, d2, rfl, hO2, (fin d2 (permIn_refl d2 _ _) f1).1, (fin d2 (permIn_refl d2 _ _) f1).2⟩)
       ·obtain rfl : e = mid := by omega
        refine Qk rfl (Qk rfl (Qk rfl (Qm rfl (Aq (Bb rfl (Ai ?_))))))
        exact B6 rfl (⟨rfl, m2, d2, rfl, hO2, (fin d2 (permIn_refl d2 _ _) f2).1, (fin d2 (permIn_refl d2 _ _) f2).2⟩)
end Go.Proofs.YtdnelknieikbaaaGreat
namespace Go.Proofs.YtdnelknieikbaaaGreat
open Tryz
open Go.Eng Go.RowKit Go.Lin Go.Sort Go.Srt
variable {a : Nat}
theorem Hw {k x : Nat} (hx : k ∣ x) (ha : k ∣ a) (h : x < a) : x + k ≤ a := by
 obtain ⟨p, rfl⟩ := hx
 obtain ⟨q, rfl⟩ := ha
 have : p < q := Nat.lt_of_mul_lt_mul_left h
 calc k * p + k = k * (p + 1) := by rw [Nat.mul_add, Nat.mul_one]
  _ ≤ k * q := Nat.mul_le_mul_left k this
def Bk (d : Array StE) (s n : Nat) : Prop := ∀ x, s ∣ x → SortedIn Ep x (min (x + s) n) d
theorem D5 {d : Array StE} {b b' : Nat} (h : SortedIn Ep a b d) (hb : b' ≤ b) : SortedIn Ep a b' d := fun i j h1 h2 h3 => h i j h1 h2 (by omega)
theorem H4 {d : Array StE} {b : Nat} (hb : b ≤ a) : SortedIn Ep a b d := fun i j h1 h2 h3 => by omega
theorem OL (d : Array StE) (v : Value) (m : Hp) (hO : OS m v d) (hsz : d.size ≤ 1000000) (h : Hp) {n' : Int} (en : n' = d.size) :
  FnT Tryz.prog 92 #[v, .int .i64 n', Mc] h [m] (fun _ h' ms' => h = h' ∧ ∃ m' d', ms' = [m'] ∧ OS m' v d' ∧ PermIn 0 d.size d d' ∧ SortedIn Ep 0 d.size d') := by
 subst en
 obtain ⟨n, hn⟩ : ∃ n, n = d.size := ⟨_, rfl⟩
 rw [← hn]
 refine Av func92 ntmps92 rfl rfl (fun w0 hw0 => ?_)
 simp only [A4]
 refine Ax (Qm rfl (B3 (Qm rfl (Qm rfl (Qm rfl (Aq (Ac (Ag ?_))))))))
 refine AD (fun q s h' ms' => ∃ (a : Nat) (d0 : Array StE) (m : Hp), q = n - a ∧ s = [(0, v), (1, .int .i64 n), (2, Mc), (6, .int .i64 20), (7, .int .i64 a), (8, .int .i64 ((a : Int) + 20))] ∧ h = h' ∧ ms' = [m] ∧ a ≤ n ∧ 20 ∣ a ∧ OS m v d0 ∧ PermIn 0 n d d0 ∧ ∀ x, 20 ∣ x → x + 20 ≤ a → SortedIn Ep x (x + 20) d0)
  (n - 0) _ ⟨0, d, m, rfl, rfl, rfl, rfl, by omega, ⟨0, rfl⟩, hO, permIn_refl d 0 n, fun x _ h => by omega⟩ Qs ?_
 rintro q s h' ms' ⟨a, d0, m0, rfl, rfl, rfl, rfl, han, hda, hO0, P, hB⟩
 have hds := P.1
 refine Ac (Ax (Qm rfl (Qm rfl (Qm rfl (Aq ?_)))))
 refine AF rfl (fun hle => ?_) (fun hle => ?_)
 ·refine Ai (Ab (Ag (Ax (Qm rfl (Qm rfl (Qm rfl (Qm rfl (Bs (pre := [m0]) rfl call117 rfl (Ng d0 v m0 hO0 a (a + 20) (by omega) (by omega) (by omega) h rfl (by omega)) rfl rfl rfl rfl (fun r h1 ms1 l1 hF => ?_)))))))))
  obtain ⟨rfl, m1, d1, rfl, hO1, P1, S1⟩ := hF
  refine B3 (Qm rfl (Qm rfl (IA (Qm rfl (Qm rfl (Qx (oA rfl) rfl (Qm rfl (Ak (Aj ?_)))))))))
  exact Al (n - (a + 20)) _ (by omega) ⟨a + 20, d1, m1, rfl, rfl, rfl, rfl, by omega, Nat.dvd_add hda ⟨1, rfl⟩, hO1, permIn_trans _ _ _ _ _ P (permIn_mono d0 d1 a (a + 20) 0 n (by omega) (by omega) (by omega) P1), fun x hx hx2 => by
   rcases Nat.lt_or_ge x a with h1 | h1
   ·have := Hw hx hda h1
    exact CI (hB x hx this) fun k h2 h3 => P1.2.1 k (.inl (by omega))
   ·obtain rfl : x = a := by omega
    exact S1⟩ Qs
 ·refine Aw (Aa (Aa (Af (Ab (Ax (Qm rfl (Qm rfl (Qm rfl (Qm rfl (Bs (pre := [m0]) rfl call117 rfl (Ng d0 v m0 hO0 a n (by omega) (by omega) (by omega) h rfl rfl) rfl rfl rfl rfl (fun r h1 ms1 l1 hF => ?_)))))))))))
  obtain ⟨rfl, m1, d1, rfl, hO1, P1, S1⟩ := hF
  have PB : PermIn 0 n d d1 := permIn_trans _ _ _ _ _ P (permIn_mono d0 d1 a n 0 n (by omega) (by omega) (by omega) P1)
  have B1 : Bk d1 20 n := fun x hx => by
   rcases Nat.lt_trichotomy x a with h1 | rfl | h1
   ·have := Hw hx hda h1
    exact D5 (CI (hB x hx this) fun k h2 h3 => P1.2.1 k (.inl (by omega))) (by omega)
   ·exact D5 S1 (by omega)
   ·have := Hw hda hx h1
    exact H4 (by omega)
  refine Aq (Ag ?_)
  refine AD (fun q s h' ms' => ∃ (w : Nat) (d0 : Array StE) (m : Hp), q = n - w ∧ s = [(0, v), (1, .int .i64 n), (2, Mc), (6, .int .i64 w)] ∧ h = h' ∧ ms' = [m] ∧ 1 ≤ w ∧ w ≤ 4000000 ∧ OS m v d0 ∧ PermIn 0 n d d0 ∧ Bk d0 w n)
   (n - 20) _ ⟨20, d1, m1, rfl, rfl, rfl, rfl, by omega, by omega, hO1, PB, B1⟩ Qs ?_
  rintro q s h' ms' ⟨w, d2, m2, rfl, rfl, rfl, rfl, hw1, hw2, hO2, P2, B2⟩
  have hd2 := P2.1
  refine Ac (Ax (Qm rfl (Qm rfl (Qm rfl (Aq ?_)))))
  refine AF rfl (fun hlt => ?_) (fun hlt => ?_)
  ·refine Ai (Ab (Ag (Ax (Qm rfl (Qx (oM rfl) rfl (Qm rfl (Qm rfl (Aq (Ac (Ag ?_))))))))))
   refine AD (fun q s h' ms' => ∃ (a : Nat) (z : Int) (d0 : Array StE) (m : Hp), q = n - a ∧ s = [(0, v), (1, .int .i64 n), (2, Mc), (6, .int .i64 w), (7, .int .i64 a), (8, .int .i64 z)] ∧ h = h' ∧ ms' = [m] ∧ z = a + 2 * w ∧ a ≤ n ∧ 2 * w ∣ a ∧ OS m v d0 ∧ PermIn 0 n d d0 ∧ (∀ x, 2 * w ∣ x → x + 2 * w ≤ a → SortedIn Ep x (x + 2 * w) d0) ∧ ∀ x, w ∣ x → a ≤ x → SortedIn Ep x (min (x + w) n) d0)
    (n - 0) _ ⟨0, 2 * (w : Int), d2, m2, rfl, rfl, rfl, rfl, by omega, by omega, ⟨0, rfl⟩, hO2, P2, fun x _ h => by omega, fun x hx _ => B2 x hx⟩ Qs ?_
   rintro q s h' ms' ⟨a, z, d3, m3, rfl, rfl, rfl, rfl, rfl, han, hda, hO3, P3, hL, hR⟩
   have hd3 := P3.1
   have hwa : w ∣ a := Nat.dvd_trans ⟨2, Nat.mul_comm 2 w⟩ hda
   have hwa2 : w ∣ a + w := Nat.dvd_add hwa (Nat.dvd_refl w)
   have hwa3 : 2 * w ∣ a + 2 * w := Nat.dvd_add hda (Nat.dvd_refl _)
   have s1 := hR a hwa (Nat.le_refl _)
   have s2 := hR (a + w) hwa2 (by omega)
   refine Ac (Ax (Qm rfl (Qm rfl (Qm rfl (Aq ?_)))))
   refine AF rfl (fun hle2 => ?_) (fun hle2 => ?_)
   ·rw [show min (a + w) n = a + w by omega] at s1
    rw [show min (a + w + w) n = a + 2 * w by omega] at s2
    refine Ai (Ab (Ag (Ax (Qm rfl (Qm rfl (Qm rfl (Qm rfl (Qx (oA rfl) rfl (Qm rfl (Qm rfl (Bs (pre := [m3]) rfl call118 rfl (HX (2 * w) d3 v m3 hO3 a (a + w) (a + 2 * w) (by omega) (by omega) (by omega) (by omega) (by omega) s1 s2 h rfl (by omega) (by omega)) rfl rfl rfl rfl (fun r h1 ms1 l1 hF => ?_))))))))))))
    obtain ⟨rfl, m4, d4, rfl, hO4, P4, S4⟩ := hF
    refine B3 (Qm rfl (Qm rfl (IA (Qm rfl (Qm rfl (Qx (oM rfl) rfl (Qx (oA rfl) rfl (Qm rfl (Ak (Aj ?_))))))))))
    exact Al (n - (a + 2 * w)) _ (by omega) ⟨a + 2 * w, (a : Int) + 2 * w + 2 * w, d4, m4, rfl, rfl, rfl, rfl, by omega, by omega, hwa3, hO4, permIn_trans _ _ _ _ _ P3 (permIn_mono d3 d4 a (a + 2 * w) 0 n (by omega) (by omega) (by omega) P4), fun x hx hx2 => by
     rcases Nat.lt_or_ge x a with h1 | h1
     ·have := Hw hx hda h1
      exact CI (hL x hx this) fun k h2 h3 => P4.2.1 k (.inl (by omega))
     ·obtain rfl : x = a := by omega
      exact S4, fun x hx hx2 => CI (hR x hx (by omega)) fun k h2 h3 => P4.2.1 k (.inr (by omega))⟩ Qs
   ·have fin : ∀ d4, PermIn a n d3 d4 → SortedIn Ep a n d4 → PermIn 0 n d d4 ∧ Bk d4 (w * 2) n := fun d4 P4 S4 => ⟨permIn_trans _ _ _ _ _ P3 (permIn_mono d3 d4 a n 0 n (by omega) (by omega) (by omega) P4), fun x hx => by
     rw [Nat.mul_comm] at hx ⊢
     rcases Nat.lt_trichotomy x a with h1 | rfl | h1
     ·have := Hw hx hda h1
      exact D5 (CI (hL x hx this) fun k h2 h3 => P4.2.1 k (.inl (by omega))) (by omega)
     ·exact D5 S4 (by omega)
     ·have := Hw hda hx h1
      exact H4 (by omega)⟩
    refine Aw (Aa (Aa (Af (Ab (Ac (Ax (Qm rfl (Qm rfl (Qx (oA rfl) rfl (Qm rfl (B3 (Qm rfl (Qm rfl (Qm rfl (Aq ?_)))))))))))))))
    refine AF rfl (fun hm => ?_) (fun hm => ?_)
    ·rw [show min (a + w) n = a + w by omega] at s1
     rw [show min (a + w + w) n = n by omega] at s2
     refine Ad (Qm rfl (Qm rfl (Qm rfl (Qm rfl (Qm rfl (Bs (pre := [m3]) rfl call118 rfl (HX (2 * w) d3 v m3 hO3 a (a + w) n (by omega) (by omega) (by omega) (by omega) (by omega) s1 s2 h rfl (by omega) rfl) rfl rfl rfl rfl (fun r h1 ms1 l1 hF => ?_)))))))
     obtain ⟨rfl, m4, d4, rfl, hO4, P4, S4⟩ := hF
     have := fin d4 P4 S4
     refine IA (Qm rfl (Qx (oM rfl) rfl (Qm rfl (Ak (Aj ?_)))))
     exact Al (n - w * 2) _ (by omega) ⟨w * 2, d4, m4, rfl, rfl, rfl, rfl, by omega, by omega, hO4, this.1, this.2⟩ Qs
    ·rw [show min (a + w) n = n by omega] at s1
     have := fin d3 (permIn_refl d3 a n) s1
     refine Ai (Ab (Ad (Qm rfl (Qx (oM rfl) rfl (Qm rfl (Ak (Aj ?_)))))))
     exact Al (n - w * 2) _ (by omega) ⟨w * 2, d3, m3, rfl, rfl, rfl, rfl, by omega, by omega, hO3, this.1, this.2⟩ Qs
  ·refine Aw (Aa (Aa (Af ?_)))
   exact B6 rfl (⟨rfl, m2, d2, rfl, hO2, P2, by have := B2 0 ⟨0, rfl⟩; rwa [show min (0 + w) n = n by omega] at this⟩)
theorem Jb (d : Array StE) (v : Value) (m : Hp) (hO : OS m v d) (hsz : d.size ≤ 1000000) (h : Hp) :
  FnT Tryz.prog 58 #[v, Mc] h [m] (fun _ h' ms' => h = h' ∧ ∃ m' d', ms' = [m'] ∧ OS m' v d' ∧ PermIn 0 d.size d d' ∧ SortedIn Ep 0 d.size d') := by
 refine Av func58 ntmps58 rfl rfl (fun w0 hw0 => ?_)
 simp only [A4]
 refine Ad (Qm rfl (Qm rfl (Qx (AJ (hO.rd (.head _)) rfl underlying60 rfl) rfl (Qm rfl (Bs (pre := [m]) rfl call92 rfl (OL d v m hO hsz h rfl) rfl rfl rfl rfl (fun r h1 ms1 l1 hF => ?_))))))
 obtain ⟨rfl, m4, d4, rfl, hO4, P4, S4⟩ := hF
 refine Ak ?_
 exact B6 rfl (⟨rfl, m4, d4, rfl, hO4, P4, S4⟩)
end Go.Proofs.YtdnelknieikbaaaGreat
namespace Go.Proofs.YtdnelknieikbaaaGreat
open Tryz
open Go.Eng Go.RowKit Go.Lin Go.Sort Go.Srt
variable {m : Hp}
def StV (d : Nat → Nat) (g : Nat) (e : StE) (fr to : Nat) (v : Nat → Nat → Int) (m : Hp) : Prop :=
 e.fr = fr ∧ e.to = to ∧ ∃ (es : List Value) (ma mb : Hp), fr ≤ to ∧ m = (AX g 110 (cS e)).join (ma.join mb) ∧ (AX g 110 (cS e)).disj (ma.join mb) ∧ ma.disj mb ∧ OwnL cV 1 24 ma e.v es ∧ es.length = to + 1 - fr ∧ VecB d fr es.length es v mb
theorem StO.out {d : Nat → Nat} {g fr to : Nat} {v : Nat → Nat → Int} (S : StO d g fr to v m) : ∃ e, StV d g e fr to v m := by
 obtain ⟨vv, es, ma, mb, h0, h1, h2, h3, h4, h5, h6⟩ := S
 exact ⟨⟨fr, to, vv, (h4.rd (h := Hp.emp) (ms := [ma]) (List.Mem.head _)).rd.one⟩, rfl, rfl, es, ma, mb, h0, h1, h2, h3, h4, h5, h6⟩
theorem Me {β : Type} [Inhabited β] {N : Nat} {R : Nat → β → Hp → Prop} (B : Bag N (fun l x => ∃ e, R l e x) m) : ∃ e : Nat → β, Bag N (fun l x => R l (e l) x) m := by
 classical
 obtain ⟨f, h1, h2, h3⟩ := B
 refine ⟨fun l => if hl : l < N then Classical.choose (h3 l hl) else default, f, h1, h2, fun l hl => ?_⟩
 show R l (if hl : l < N then Classical.choose (h3 l hl) else default) (f l)
 rw [dif_pos hl]
 exact Classical.choose_spec (h3 l hl)
theorem Rn {α β : Type} {f : α → β} {M l : List β} (h : M.Perm l) : ∀ L : List α, M = L.map f → ∃ L', L.Perm L' ∧ l = L'.map f := by
 induction h with
 | nil => intro L hM; exact ⟨[], by rw [List.map_eq_nil_iff.1 hM.symm], rfl⟩
 | cons x p ih =>
  intro L hM
  obtain ⟨a, L1, rfl, rfl, rfl⟩ := List.map_eq_cons_iff.1 hM.symm
  obtain ⟨L', h1, rfl⟩ := ih L1 rfl
  exact ⟨a :: L', h1.cons a, rfl⟩
 | swap x y l =>
  intro L hM
  obtain ⟨a, L1, rfl, rfl, h2⟩ := List.map_eq_cons_iff.1 hM.symm
  obtain ⟨b, L2, rfl, rfl, rfl⟩ := List.map_eq_cons_iff.1 h2
  exact ⟨b :: a :: L2, .swap b a L2, rfl⟩
 | trans p q ih1 ih2 =>
  intro L hM
  obtain ⟨L1, h1, e1⟩ := ih1 L hM
  obtain ⟨L2, h2, e2⟩ := ih2 L1 e1
  exact ⟨L2, h1.trans h2, e2⟩
theorem StV.seg {d : Nat → Nat} {g : Nat} {e : StE} {fr to : Nat} {v : Nat → Nat → Int} {h : Hp} (S : StV d g e fr to v m) (hl : m.le h) : Seg h [] ⟨g, 0, none⟩ (cS e) := by
 obtain ⟨_, _, es, ma, mb, h0, rfl, _⟩ := S
 exact Seg.ofLe (Hp.le_trans Hp.le_joinl hl)
theorem K0 {d d' : Array StE} (P : PermIn 0 d.size d d') : d'.toList.Perm d.toList := by
 have h := P.2.2
 have e1 : d'.extract 0 d.size = d' := by rw [← P.1]; simp
 have e2 : d.extract 0 d.size = d := by simp
 rwa [e1, e2] at h
theorem strands_not (Z : Zz) (vd va : Value) (h : Hp) (hO : Z.Ok) (hRt : ¬ Z.Rt) (hR : RdZ h vd va Z) :
  FnT Tryz.prog 30 #[.agg #[.int .i64 Z.p, vd, va]] h [] (fun r h' ms' => r = .slice none 0 0 ∧ ms' = []) := by
 have o1 := hR.d.rd.one
 have o2 := hR.a.rd.one
 refine Av func30 ntmps30 rfl rfl (fun w0 hw0 => ?_)
 simp only [A4]
 refine Ax ?_
 refine AS [_, _, _] rfl rfl (by rfl) rfl rfl rfl (fun g1 => ?_)
 refine Qm rfl (Aq (AL fun h1 l1 hG1 => ?_))
 have hR := hR.up l1
 refine Ac (Ax (Qx (oG rfl underlying30 Bz (Seg.any hG1)) rfl (Qx (AG rfl call35 rfl (Ds (FT Z vd va _ hO hR) _)) rfl (Qm rfl (Aq ?_)))))
 refine BJ rfl (fun hb => ?_) (fun hb => ?_)
 ·refine Ac (Ad (Qm rfl (Aq (Ao (Ae ?_)))))
  exact Am rfl rfl (⟨rfl, rfl⟩)
 ·exact absurd (by simpa using hb) hRt
theorem strands_ok (Z : Zz) (vd va : Value) (h : Hp) (hO : Z.Ok) (hRt : Z.Rt) (hR : RdZ h vd va Z) :
  FnT Tryz.prog 30 #[.agg #[.int .i64 Z.p, vd, va]] h [] (fun r h' ms' => h.le h' ∧ ∃ (N : Nat) (S : Nat → SM) (e : Nat → StE) (L : List Nat) (m mB : Hp), ms' = [m, mB] ∧ N ≤ 20400 ∧ OwnL cS 3 64 m r (L.map e) ∧ Bag N (fun l x => StV Z.zg.d (S l).g (e l) (S l).fr (S l).to (S l).v x) mB ∧ L.Perm (List.range N) ∧ Valid Z.zg (Dr N S) ∧ (∀ l, l < N → (S l).Bd Z.p Z.zg.d) ∧ (L.map fun l => (e l).key).Pairwise fun a b => ¬ D3 b a < 0) := by
 have o1 := hR.d.rd.one
 have o2 := hR.a.rd.one
 refine Av func30 ntmps30 rfl rfl (fun w0 hw0 => ?_)
 simp only [A4]
 refine Ax ?_
 refine AS [_, _, _] rfl rfl (by rfl) rfl rfl rfl (fun g1 => ?_)
 refine Qm rfl (Aq (AL fun h1 l1 hG1 => ?_))
 have hR := hR.up l1
 refine Ac (Ax (Qx (oG rfl underlying30 Bz (Seg.any hG1)) rfl (Qx (AG rfl call35 rfl (Ds (FT Z vd va _ hO hR) _)) rfl (Qm rfl (Aq ?_)))))
 refine BJ rfl (fun hb => ?_) (fun hb => ?_)
 ·exact absurd hRt (by simpa using hb)
 ·refine Ai (Ab (Ax (Qm rfl (Aq (Ac (Ax (Qx (oG rfl underlying30 Bz (Seg.any hG1)) rfl (Qc call57 rfl (Km Z vd va h1 hRt hR) (fun r h2 ms2 l2 hF => ?_)))))))))
  obtain ⟨l2', N, S, L0, me, mB, rfl, hN, hme, B, hperm, hV, hbd⟩ := hF
  have hlen := hperm.length_eq
  rw [List.length_range] at hlen
  have B1 : Bag N (fun l x => ∃ e, StV Z.zg.d (S l).g e (S l).fr (S l).to (S l).v x) mB := B.mono fun l hl x O => O.out
  obtain ⟨e, B2⟩ := Me B1
  have hrn : ∀ h' (ms : List Hp), me ∈ ms → Rd h' ms r 1 N ((L0.map (A1 S)).flatMap cV) := fun h' ms hm => by
   have := (hme.rd (h := h') hm).rd
   rwa [E8, hlen] at this
  refine Qx (AJ (hrn _ _ (List.Mem.tail _ (List.Mem.head _))) rfl underlying106 rfl) rfl (Qm rfl (Aq (Ag (Cu 1 rfl (Bg hme fun h3 l3 hRr => (CV fun h4 l4 lB dB LB => (BX ?_)))))))
  have hRr := hRr.up l4
  have hrn : ∀ (ms : List Hp), Rd h4 ms r 1 N ((L0.map (A1 S)).flatMap cV) := fun ms => by
   have := (hRr.any (ms := ms)).rd
   rwa [E8, hlen] at this
  refine AD (fun q s hh ms' => ∃ (i : Nat) (vo : Value) (mo : Hp), q = N - i ∧ s = [(3, vo), (10, r), (11, .int .i64 N), (12, .int .i64 i)] ∧ h4 = hh ∧ ms' = [mo] ∧ i ≤ N ∧ OwnL cS 3 64 mo vo ((L0.take i).map e))
   (N - 0) _ ⟨0, _, _, rfl, rfl, rfl, rfl, by omega, OwnL.nil ML⟩ Qs ?_
  rintro q s hh ms' ⟨i, vo, mo, rfl, rfl, rfl, rfl, hi, hO⟩
  refine Ax (Qm rfl (Aq (Ac ?_)))
  refine AF rfl (fun hlt => ?_) (fun hlt => ?_)
  ·have hil : i < L0.length := by omega
   have hiN : L0.getD i 0 < N := List.mem_range.1 (hperm.mem_iff.1 (BF hil))
   obtain ⟨x, hx, hSV⟩ := B2.all _ hiN
   have hsg := hSV.seg (Hp.le_trans hx lB)
   have hcs : ∀ ms, Cell h4 ms ((Bl r).add (i * 1)) (A1 S (L0.getD i 0)) := fun ms => Em hRr.any hil
   have hll : ((L0.take i).map e).length ≤ 20400 := by rw [List.length_map, List.length_take]; omega
   have hone := Mi (e (L0.getD i 0))
   have hsg' : ∀ ms, Seg h4 ms ((⟨(S (L0.getD i 0)).g, 0, none⟩ : Addr).add 0) (cS (e (L0.getD i 0))) := fun ms => by rw [Wu]; exact hsg.any
   refine Ai (Ab (Ac (Ag (Ax (Qx (Ah _ (hrn _) rfl underlying106 Cf rfl rfl rfl (by omega)) rfl (Ql rfl underlying108 (hcs _) (Qm rfl (IA (Qm rfl (Qm rfl (Qm rfl (Qf C7 rfl (Qx (oG rfl underlying64 BP (hsg' _)) rfl ?_)))))))))))))
   refine AB [_, _, _] rfl underlying60 BP rfl (by rfl) rfl rfl (by omega) rfl rfl rfl (fun g21 => ?_)
   refine Bm 1 hO (RdL.one ML (x := e (L0.getD i 0)) (List.Mem.head _) rfl) rfl underlying60 BP rfl (by omega) rfl rfl rfl Mi (by simp only [List.length_singleton]; omega) (by simp only [List.length_singleton]; omega) rfl rfl rfl (fun vo2 mo2 hO2 => ?_)
   refine Qm rfl (Ak (Aj (Ab (Ad (Qx (oA rfl) rfl (Qm rfl (Ak (A5 ?_))))))))
   refine Al (N - (i + 1)) _ (by omega) ⟨i + 1, vo2, mo2, rfl, rfl, rfl, rfl, by omega, ?_⟩ Qs
   rw [BU hil, List.map_append]
   exact hO2
  ·obtain rfl : i = N := by omega
   rw [show L0.take i = L0 by rw [← hlen, List.take_length]] at hO
   refine Aw (Aa (Aa (Af (Ab (F6 LB lB fun h5 q5 b5 => (Di ?_))))))
   have hO' : OS mo vo (L0.map e).toArray := hO
   refine Ax (Qm rfl ?_)
   refine Bs (pre := [mo]) rfl call58 rfl (Jb (L0.map e).toArray vo mo hO' (by simp; omega) h5) rfl rfl rfl rfl (fun x h6 ms6 l6 hF => ?_)
   obtain ⟨rfl, m', d', rfl, hO6, P6, S6⟩ := hF
   have hp6 := K0 P6
   obtain ⟨L', hL, hd'⟩ := Rn hp6.symm L0 rfl
   have hsz : d'.size = L'.length := by rw [← Array.length_toList, hd', List.length_map]
   have hone : vo.oneCell' = true := (OwnL.rd hO6 (h := h) (ms := [m']) (List.Mem.head _)).rd.one
   refine B3 (Qm rfl (Qm rfl (Aq (Ao ?_))))
   have hkey : ∀ k (hk : k < L'.length), d'[k]! = e L'[k] := fun k hk => by
    have h1 : d'.toList[k]? = some (e L'[k]) := by rw [hd']; simp [hk]
    have h2 : d'[k]? = some (e L'[k]) := by rw [← Array.getElem?_toList]; exact h1
    rw [getElem!_def, h2]
   have hsrt : (L'.map fun l => (e l).key).Pairwise fun a b => ¬ D3 b a < 0 := by
    rw [List.pairwise_map, List.pairwise_iff_getElem]
    intro x y hx hy hxy
    have h1 := S6 x y (by omega) hxy (by rw [P6.1] at hsz; omega)
    rw [hkey x hx, hkey y hy] at h1
    exact of_decide_eq_false h1
   exact Am rfl rfl (⟨Hp.le_trans l1 (Hp.le_trans l2 (Hp.le_trans l3 (b5 _ l4 dB))), i, S, e, L', m', mB, rfl, hN, by rw [← hd']; exact hO6, B2, hL.symm.trans hperm, hV, hbd, hsrt⟩)
end Go.Proofs.YtdnelknieikbaaaGreat
