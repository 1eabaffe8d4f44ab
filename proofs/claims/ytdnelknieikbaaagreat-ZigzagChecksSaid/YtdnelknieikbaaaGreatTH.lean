/- Parts of the proof: Yq Yr Ys Yt Yu. -/
import Derived.Test.YtdnelknieikbaaaGreatTG
import Derived.WalkArith
set_option linter.unusedSimpArgs false
set_option linter.unusedVariables false
set_option maxRecDepth 100000
set_option maxHeartbeats 4000000
namespace Go.Proofs.YtdnelknieikbaaaGreat
open Tryz
open Go.Eng Go.RowKit Go.Lin
theorem IT (n : Nat) (w : Nat → Nat → Int) : Fq n w (w n) = w := funext fun t => by
 unfold Fq
 split
 ·rename_i h; rw [h]
 ·rfl
theorem Ci (p : Int) (r c : Nat) (A L : Nat → Nat → Int) (av lv : Value) (h : Hp) (RA : RtM p r c A) (RL : RtM p r r L) (hr : r ≤ 200) (hc : c ≤ 200) (hI : Ind p r tt r (fun l i => L i l)) (hA : RdL cI 1 h [] av (mat r c A)) (hL : RdL cI 1 h [] lv (mat r r L)) :
  FnT Tryz.prog 108 #[.agg #[.int .i64 p, .int .i64 r, .int .i64 c, av], .agg #[.int .i64 p, .int .i64 r, .int .i64 r, lv]] h [] (fun x h' ms' => h.le h' ∧ ∃ (q : Nat) (X U : Nat → Nat → Int) (vc vl : Value), x = .tuple #[vc, vl] ∧ Uq p r c A L q X U ∧ RdV h' vc q r X ∧ RdV h' vl q c U ∧ ms' = []) := by
 have hb := RA.bd
 have Fp := RA.pr.fld
 have oav := hA.rd.one
 have olv := hL.rd.one
 refine Av func108 ntmps108 rfl rfl (fun w0 hw0 => ?_)
 simp only [A4]
 refine Ax ?_
 refine AS [_, _, _, _] rfl rfl (by rfl) rfl rfl rfl (fun g2 => ?_)
 refine AS [_, _, _, _] rfl rfl (by rfl) rfl rfl rfl (fun g3 => ?_)
 refine Qm rfl (Qm rfl (Aq (By 0 rfl fun h1 l1 hG3 => (By 0 rfl fun h2 l2 hG2 => ?_))))
 have hG3 := hG3.le l2
 have hA := hA.up (Hp.le_trans l1 l2)
 have hL := hL.up (Hp.le_trans l1 l2)
 have l02 := Hp.le_trans l1 l2
 refine Ax (Qx (oG rfl underlying42 AI (Seg.any hG3)) rfl (Qc call132 rfl (MN p r L lv h2 RL hL (fun F pv hE => (LN Fp hE.red).2 hI) (fun F pv hE => Sc Fp hb.1 hI hE.red)) (fun x3 h3 ms3 l3 hF => ?_)))
 obtain ⟨l3', Fi, pi, vi, hEi, rfl, ei, mi, rfl, rfl, hOi⟩ := hF
 refine AH hOi fun h4 l4 hRi => ?_
 have oi := hRi.rd.one
 refine Qm rfl (Qm rfl (Qm rfl (BZ [.int .i64 0, .int .i64 0, .int .i64 0, .slice none 0 0] rfl AI rfl rfl (fun g6 => ?_))))
 refine Sa 0 [_, _, _, _] AI rfl (by simp [oi]) ?_
 refine Qm rfl (Aq (By 0 rfl fun h5 l5 hG6 => ?_))
 have l25 := Hp.le_trans l3 (Hp.le_trans l4 l5)
 have hA := hA.up l25
 have hL := hL.up l25
 have hG2 := hG2.le l25
 have hG3 := hG3.le l25
 have hRi := hRi.up l5
 have Rin : RtM p r r (CB pi Fi r) := ⟨RA.pr, RA.rl, RA.rl, fun i hi j hj => by
  unfold CB H9
  split
  ·rename_i h2
   exact hEi.red.bd _ (by have := hEi.red.len; omega) _ (by omega)
  ·omega⟩
 have l05 := Hp.le_trans l02 l25
 clear l1 l2 l3 l3' l4 l5 l25 l02
 refine Bv (fun s hh ms' => ∃ (Fa : Nat → Nat → Int) (pa : List Nat) (ec : Value) (g8 : Nat) (mc : Hp), s = [(2, .pointer (some ⟨g2, 0, none⟩)), (3, .pointer (some ⟨g3, 0, none⟩)), (4, .slice none 0 0), (5, .slice none 0 0), (8, .pointer (some ⟨g8, 0, none⟩))] ∧ h5.le hh ∧ ms' = [AX g8 42 [.int .i64 p, .int .i64 r, .int .i64 pa.length, ec], mc] ∧ Ho p r c A Fa pa ∧ OwnL cI 1 3 mc ec (mat r pa.length (Fb p r (CB pi Fi r) (FL pa A)))) ?_ (fun s h ms hI => ?_)
 ·refine AW (n := 10) (bs := [true, true, false, false, false, false, false, false, false, false]) [true, true] Cd (by kernel_rfl) (by kernel_rfl) rfl rfl (Qp rfl (oG rfl underlying42 AI (Seg.any hG6)) (Qp rfl (oG rfl underlying42 AI (Seg.any hG2)) ?_))
  unfold CD
  simp only [List.cons_append, List.nil_append]
  refine A2 [2, 7] (by kernel_rfl) rfl ?_
  refine Az rfl ?_ ?_
  ·refine Qc call133 rfl (Li p r c A av _ RA hA) (fun x6 h6 ms6 l6 hF => ?_)
   obtain ⟨l6', Fa, pa, hEa, em, mm, rfl, rfl, hOm⟩ := hF
   refine AH hOm fun h7 l7 hRm => ?_
   have lcur := Hp.le_trans l6 l7
   refine Qa (A2 [3, 7] (by kernel_rfl) rfl ?_)
   refine Az rfl ?_ ?_
   ·refine Qc call98 rfl (Gq p r r pa.length (CB pi Fi r) (FL pa A) ei em h7 Rin ⟨RA.pr, RA.rl, by have := hEa.red.lenc; omega, fun i hi j hj => RA.en i hi _ (by rw [Cn hj]; exact hEa.red.lt j hj)⟩ (hRi.up lcur) hRm) (fun x8 h8 ms8 l8 hF => ?_)
    obtain ⟨rfl, v8, rfl, ec, mc, rfl, rfl, hOc⟩ := hF
    have oc : ec.oneCell' = true := (hOc.rd (h := h) (ms := [mc]) (List.Mem.head _)).rd.one
    refine Qa (An 4 23 (by kernel_rfl) rfl (by assumption) rfl (As rfl rfl) (An 5 28 (by kernel_rfl) rfl (by assumption) rfl (AC rfl rfl rfl) (An 6 29 (by kernel_rfl) rfl (by assumption) rfl (AC rfl rfl rfl) (Qo 7 rfl (BZ [.int .i64 0, .int .i64 0, .int .i64 0, .slice none 0 0] rfl AI rfl rfl (fun g8 => Qa (Qo 8 rfl ?_)))))))
    refine Sa 0 [_, _, _, _] AI rfl (by simp [oc]) ?_
    refine Qa (Qo 9 rfl (Qm rfl (Qa (Qe ?_))))
    exact AA _ ⟨Fa, pa, ec, g8, mc, rfl, lcur, rfl, hEa, hOc⟩ Qs
   refine Az rfl ?_ ?_
   ·refine BZ [.int .i64 0, .int .i64 0, .int .i64 0, .slice none 0 0] rfl AI rfl rfl (fun g8 => Qa (Qo 3 rfl ?_))
    refine Qc call98 rfl (Gq p r r pa.length (CB pi Fi r) (FL pa A) ei em h7 Rin ⟨RA.pr, RA.rl, by have := hEa.red.lenc; omega, fun i hi j hj => RA.en i hi _ (by rw [Cn hj]; exact hEa.red.lt j hj)⟩ (hRi.up lcur) hRm) (fun x8 h8 ms8 l8 hF => ?_)
    obtain ⟨rfl, v8, rfl, ec, mc, rfl, rfl, hOc⟩ := hF
    have oc : ec.oneCell' = true := (hOc.rd (h := h) (ms := [mc]) (List.Mem.head _)).rd.one
    refine Qa (An 4 23 (by kernel_rfl) rfl (by assumption) rfl (As rfl rfl) (An 5 28 (by kernel_rfl) rfl (by assumption) rfl (AC rfl rfl rfl) (An 6 29 (by kernel_rfl) rfl (by assumption) rfl (AC rfl rfl rfl) (Qo 8 rfl ?_))))
    refine Sa 1 [_, _, _, _] AI rfl (by simp [oc]) ?_
    refine Qa (Qo 9 rfl (Qm rfl (Qa (Qe ?_))))
    exact A9 (AA _ ⟨Fa, pa, ec, g8, mc, rfl, lcur, rfl, hEa, hOc⟩ Qs)
   exact A3
  refine Az rfl ?_ ?_
  ·refine BZ [.int .i64 0, .int .i64 0, .int .i64 0, .slice none 0 0] rfl AI rfl rfl (fun g8 => Qw (Qo 2 rfl (Qc call133 rfl (Li p r c A av _ RA hA) (fun x6 h6 ms6 l6 hF => ?_))))
   obtain ⟨l6', Fa, pa, hEa, em, mm, rfl, rfl, hOm⟩ := hF
   refine AH hOm fun h7 l7 hRm => ?_
   have lcur := Hp.le_trans l6 l7
   refine Qa (Qo 3 rfl ?_)
   refine Qc call98 rfl (Gq p r r pa.length (CB pi Fi r) (FL pa A) ei em h7 Rin ⟨RA.pr, RA.rl, by have := hEa.red.lenc; omega, fun i hi j hj => RA.en i hi _ (by rw [Cn hj]; exact hEa.red.lt j hj)⟩ (hRi.up lcur) hRm) (fun x8 h8 ms8 l8 hF => ?_)
   obtain ⟨rfl, v8, rfl, ec, mc, rfl, rfl, hOc⟩ := hF
   have oc : ec.oneCell' = true := (hOc.rd (h := h) (ms := [mc]) (List.Mem.head _)).rd.one
   refine Qa (An 4 23 (by kernel_rfl) rfl (by assumption) rfl (As rfl rfl) (An 5 28 (by kernel_rfl) rfl (by assumption) rfl (AC rfl rfl rfl) (An 6 29 (by kernel_rfl) rfl (by assumption) rfl (AC rfl rfl rfl) (Qo 8 rfl ?_))))
   refine Sa 1 [_, _, _, _] AI rfl (by simp [oc]) ?_
   refine Qa (Qo 9 rfl (Qm rfl (Qa (Qe ?_))))
   exact A9 (AA _ ⟨Fa, pa, ec, g8, mc, rfl, lcur, rfl, hEa, hOc⟩ Qs)
  exact A3
 ·obtain ⟨Fa, pa, ec, g8, mc, rfl, l6, rfl, hEa, hOc⟩ := hI
  have hql := hEa.red.lenc
  have hLead := fun T pt RT => TY (T := T) (pt := pt) hb.1 Fp hI hEi.red hEa.red RT
  have hrank : ∀ F pv, Ho p r c A F pv → pv.length = pa.length := fun F pv hE => Oq Fp hE.red hEa.red
  have RC : RtM p r pa.length (Fb p r (CB pi Fi r) (FL pa A)) := ⟨RA.pr, RA.rl, by omega, fun i hi j hj => ⟨Int.emod_nonneg _ (by omega), Int.emod_lt_of_pos _ (by omega)⟩⟩
  generalize Fb p r (CB pi Fi r) (FL pa A) = C at *
  generalize hq : pa.length = q at *
  have hqr : q * r ≤ 200 * 200 := Nat.mul_le_mul (by omega) hr
  refine Cu 1 rfl (Bg hOc fun h7 l7 hRc => (AL fun h8 l8 hG8 => ?_))
  have hRc := hRc.up l8
  have l58 := Hp.le_trans l6 (Hp.le_trans l7 l8)
  have hA := hA.up l58
  have hL := hL.up l58
  have hG2 := hG2.le l58
  have hG3 := hG3.le l58
  have l08 := Hp.le_trans l05 l58
  have oc := hRc.rd.one
  have hA2 := Seg.all hG2
  have hA3 := Seg.all hG3
  have hA8 := Seg.all hG8
  clear l6 l7 l8 l58 l05
  refine Ax (Qf Bh rfl (Ql rfl underlying3 (hA8 1 _ rfl _) (Qm rfl (Aq ?_))))
  refine Bv (fun s hh ms' => ∃ (g11 g41 : Nat), s = [(2, .pointer (some ⟨g2, 0, none⟩)), (3, .pointer (some ⟨g3, 0, none⟩)), (4, .slice none 0 0), (5, .slice none 0 0), (8, .pointer (some ⟨g8, 0, none⟩)), (10, .int .i64 r), (11, .pointer (some ⟨g11, 0, none⟩))] ∧ h8 = hh ∧ ms' = [AX g11 42 [.int .i64 p, .int .i64 q, .int .i64 r, .slice (some ⟨g41, 0, none⟩) (q * r : Nat) (q * r : Nat)], AX g41 3 (List.replicate (q * r) (.int .i64 0))]) ?_ (fun s h ms hI => ?_)
  ·have em : ((r : Int) * q) = ((q * r : Nat) : Int) := by rw [Nat.mul_comm]; simp
   refine AW (n := 13) (bs := [true, true, true, true, true, true, true, true, true, false, false, false, false]) [true, true, true, true, true, true, true, true, true] Cd (by kernel_rfl) (by kernel_rfl) rfl rfl (QF BE rfl (QL rfl underlying3 (hA2 0 _ rfl _) (QF A0 rfl (QL rfl underlying3 (hA8 2 _ rfl _) (Qq rfl (Qq rfl (QF A0 rfl (QL rfl underlying3 (hA8 2 _ rfl _) (Qp rfl (oM rfl) ?_)))))))))
   unfold CD
   simp only [List.cons_append, List.nil_append]
   refine A2 [9, 11] (by kernel_rfl) rfl ?_
   refine Az rfl ?_ ?_
   ·refine Eu (n := (q * r)) rfl underlying24 A8 rfl rfl rfl (by omega) (by omega) (by omega) (by omega) rfl rfl rfl (fun g41 => Qw ?_)
    refine An 10 42 (by kernel_rfl) rfl (Hp.le_refl _) rfl (AT Gh [.int .i64 0, .int .i64 0, .int .i64 0, .slice none 0 0] [(0, _), (1, _), (2, _), (3, _)] [_, _, _, _] rfl AI rfl rfl (by repeat (first | exact trivial | refine ⟨⟨rfl, rfl, rfl⟩, ?_⟩)) rfl) ?_
    refine Qo 11 rfl (BZ [.int .i64 0, .int .i64 0, .int .i64 0, .slice none 0 0] rfl AI rfl rfl (fun g11 => Qw (Qo 12 rfl ?_)))
    refine Sa 0 [_, _, _, _] AI rfl (by simp [Value.oneCell']) ?_
    refine Qw (Qe ?_)
    exact AA _ ⟨g11, g41, rfl, rfl, rfl⟩ Qs
   refine Az rfl ?_ ?_
   ·refine BZ [.int .i64 0, .int .i64 0, .int .i64 0, .slice none 0 0] rfl AI rfl rfl (fun g11 => Qw (Qo 9 rfl (Eu (n := (q * r)) rfl underlying24 A8 rfl rfl rfl (by omega) (by omega) (by omega) (by omega) rfl rfl rfl (fun g41 => Qw ?_))))
    refine An 10 42 (by kernel_rfl) rfl (Hp.le_refl _) rfl (AT Gh [.int .i64 0, .int .i64 0, .int .i64 0, .slice none 0 0] [(0, _), (1, _), (2, _), (3, _)] [_, _, _, _] rfl AI rfl rfl (by repeat (first | exact trivial | refine ⟨⟨rfl, rfl, rfl⟩, ?_⟩)) rfl) ?_
    refine Qo 12 rfl ?_
    refine Sa 1 [_, _, _, _] AI rfl (by simp [Value.oneCell']) ?_
    refine Qw (Qe ?_)
    exact A9 (AA _ ⟨g11, g41, rfl, rfl, rfl⟩ Qs)
   exact A3
  ·obtain ⟨g11, g41, rfl, rfl, rfl⟩ := hI
   have hO0 := OwnL.rep (g := g41) (el := 3) (q * r) 0 (by omega)
   rw [Kv] at hO0
   refine Bv (fun s hh ms' => ∃ (m : Hp), s = [(2, .pointer (some ⟨g2, 0, none⟩)), (3, .pointer (some ⟨g3, 0, none⟩)), (4, .slice none 0 0), (5, .slice none 0 0), (10, .int .i64 r), (11, .pointer (some ⟨g11, 0, none⟩))] ∧ h8 = hh ∧ ms' = [AX g11 42 [.int .i64 p, .int .i64 q, .int .i64 r, .slice (some ⟨g41, 0, none⟩) (q * r : Nat) (q * r : Nat)], m] ∧ OwnL cI 1 3 m (.slice (some ⟨g41, 0, none⟩) (q * r : Nat) (q * r : Nat)) (mat q r (SP r C))) ?_ (fun s h ms hI => ?_)
   ·refine Ac (Ad (Qf A0 rfl (Ql rfl underlying3 (hA8 2 _ rfl _) (Qm rfl (Aq (Ag ?_))))))
    refine AD (fun n s hh ms' => ∃ (k : Nat) (m : Hp), n = q - k ∧ s = [(2, .pointer (some ⟨g2, 0, none⟩)), (3, .pointer (some ⟨g3, 0, none⟩)), (4, .slice none 0 0), (5, .slice none 0 0), (8, .pointer (some ⟨g8, 0, none⟩)), (10, .int .i64 r), (11, .pointer (some ⟨g11, 0, none⟩)), (44, .int .i64 q), (45, .int .i64 k)] ∧ h8 = hh ∧ ms' = [AX g11 42 [.int .i64 p, .int .i64 q, .int .i64 r, .slice (some ⟨g41, 0, none⟩) (q * r : Nat) (q * r : Nat)], m] ∧ k ≤ q ∧ OwnL cI 1 3 m (.slice (some ⟨g41, 0, none⟩) (q * r : Nat) (q * r : Nat)) (mat q r (It r C k 0)))
     (q - 0) _ ⟨0, _, rfl, rfl, rfl, rfl, by omega, by rw [AO (fun a _ b _ => OJ r C a b)]; exact hO0⟩ Qs ?_
    rintro n s hh ms' ⟨k, m, rfl, rfl, rfl, rfl, hk, hO⟩
    refine Ax (Qm rfl (Aq (Ac ?_)))
    refine AF rfl (fun hlt => ?_) (fun hlt => ?_)
    ·have hkq : k < q := Bx hlt
     refine Ai (Ab (Ac (Ag (Ax (Qm rfl (Qm rfl (B3 (Qm rfl (Qm rfl (Aq (Ag ?_)))))))))))
     refine AD (fun n s hh ms' => ∃ (i : Nat) (m : Hp), n = r - i ∧ s = [(2, .pointer (some ⟨g2, 0, none⟩)), (3, .pointer (some ⟨g3, 0, none⟩)), (4, .slice none 0 0), (5, .slice none 0 0), (8, .pointer (some ⟨g8, 0, none⟩)), (10, .int .i64 r), (11, .pointer (some ⟨g11, 0, none⟩)), (12, .int .i64 k), (44, .int .i64 q), (45, .int .i64 k), (48, .int .i64 r), (49, .int .i64 i)] ∧ h8 = hh ∧ ms' = [AX g11 42 [.int .i64 p, .int .i64 q, .int .i64 r, .slice (some ⟨g41, 0, none⟩) (q * r : Nat) (q * r : Nat)], m] ∧ i ≤ r ∧ OwnL cI 1 3 m (.slice (some ⟨g41, 0, none⟩) (q * r : Nat) (q * r : Nat)) (mat q r (It r C k i)))
      (r - 0) _ ⟨0, m, rfl, rfl, rfl, rfl, by omega, hO⟩ Qs ?_
     rintro n s hh ms' ⟨i, m, rfl, rfl, rfl, rfl, hi, hO⟩
     refine Ax (Qm rfl (Aq (Ac ?_)))
     refine AF rfl (fun hlti => ?_) (fun hlti => ?_)
     ·have hir : i < r := Bx hlti
      have hrr : r - 1 - i < r := by omega
      have hix := Cp hkq hrr
      have hix2 := Cp hir hkq
      have hrq : r * q ≤ 200 * 200 := Nat.mul_le_mul hr (by omega)
      have el1 : (mat q r (It r C k i)).length = q * r := AY _ _ _
      have el2 : (mat r q C).length = r * q := AY _ _ _
      have elc : (EM p r q C).e.length = r * q := AY _ _ _
      have cC : ∀ ms, Cell h8 ms ((Bl ec).add ((i * q + k) * 1)) (.int .i64 (C i k)) := fun ms => (hRc.any (ms := ms)).ent hir hkq
      refine Ai (Ab (Ac (Ag (Ax (Qm rfl (Qm rfl (Aq (AW (n := 22) (bs := [true, false, true, true, true, true, true, true, true, true, true, true, true, true, true, true, true, true, true, true, false, false]) [true, false, true, true, true, true, true, true, true, true, true, true, true, true, true, true, true, true, true, true] Cd (by kernel_rfl) (by kernel_rfl) rfl rfl (QF Bc rfl (Qq rfl (Qq rfl (Qp rfl (oM rfl) (Qq rfl (Qp rfl (oA rfl) (Qp rfl (oS rfl) (Qq rfl (Qp rfl (oS rfl) (QF Bc rfl (QL rfl underlying24 (hA8 3 _ rfl _) (Qq rfl (QF A0 rfl (QL rfl underlying3 (hA8 2 _ rfl _) (Qp rfl (oM rfl) (Qq rfl (Qp rfl (oA rfl) (Qp rfl (Ah (i * q + k) hRc.rd.any rfl underlying24 A8 rfl rfl (by omega) (by omega)) (QL rfl underlying3 (cC _) ?_)))))))))))))))))))))))))))
      unfold CD
      simp only [List.cons_append, List.nil_append]
      refine Qo 1 rfl (Ql rfl underlying24 (Cell.blk 0 (k := 3) rfl rfl) (Qw (An 20 72 (by kernel_rfl) rfl (Hp.le_refl _) rfl (Dz (k * r + (r - 1 - i)) rfl underlying24 A8 rfl rfl (by omega) (by omega)) (Qo 21 rfl (Bu 1 (k * r + (r - 1 - i)) hO rfl A8 rfl rfl rfl (by omega) rfl rfl (fun m' hO' => Qw (Qe (Aj (Ab (Ad (Qx (oA rfl) rfl (Qm rfl (Ak ?_)))))))))))))
      refine Al (r - (i + 1)) _ (by omega) ⟨i + 1, m', rfl, rfl, rfl, rfl, by omega, ?_⟩ Qs
      rw [C4 _ hrr, AO (fun a _ b hb => On C hir hb)] at hO'
      exact hO'
     ·obtain rfl : i = r := by omega
      refine Aw (Aa (Aa (Af (Aj (Ab (Ad (Qx (oA rfl) rfl (Qm rfl (Ak ?_)))))))))
      refine Al (q - (k + 1)) _ (by omega) ⟨k + 1, m, rfl, rfl, rfl, rfl, by omega, ?_⟩ Qs
      rw [AO (fun a _ b hb => QH C hb)] at hO
      exact hO
    ·obtain rfl : k = q := by omega
     refine Aw (Aa (Aa (Af ?_)))
     rw [AO (fun a ha b _ => Rm C ha)] at hO
     exact AA _ ⟨m, rfl, rfl, rfl, hO⟩ Qs
   ·obtain ⟨m, rfl, rfl, rfl, hO⟩ := hI
    refine Cu 1 rfl (Bg hO fun h9 l9 hR9 => ?_)
    have o9 := hR9.rd.one
    have Rt : RtM p q r (SP r C) := ⟨RA.pr, by omega, by omega, fun a ha b hb => RC.en (r - 1 - b) (by omega) a ha⟩
    refine Ax (Qx (oG rfl underlying42 AI (Seg.blk 0 rfl)) rfl (Qc call120 rfl (Eh p q r (SP r C) _ h9 Rt hR9) (fun x10 h10 ms10 l10 hF => ?_)))
    obtain ⟨l10', T, pt, eu, vp, m, m2, rfl, rfl, hOT, hOp, hE⟩ := hF
    have ou : eu.oneCell' = true := (hOT.rd (h := h) (ms := [m]) (List.Mem.head _)).rd.one
    refine Qm rfl (Qm rfl (Qm rfl ?_))
    refine Sa 2 [_, _, _, _] AI rfl (by simp [ou]) ?_
    refine Aq (Bg hOT fun h11 l11 hRT => (HF 0 rfl (AL fun h12 l12 hG11 => ?_)))
    have hRT := hRT.up l12
    have l812 := Hp.le_trans l9 (Hp.le_trans l10 (Hp.le_trans l11 l12))
    have hA := hA.up l812
    have hL := hL.up l812
    have hG2 := hG2.le l812
    have hG3 := hG3.le l812
    have l012 := Hp.le_trans l08 l812
    obtain ⟨⟨top, htop⟩, hlift⟩ := hLead T pt hE.red
    have hTb : ∀ t, t < q → ∀ i, i < r → 0 ≤ T t (r - 1 - i) ∧ T t (r - 1 - i) < p := fun t ht i hi => hE.red.bd t ht _ (by omega)
    clear hO hOT hOp l9 l10 l10' l11 l12 l812 l08
    refine BX (BX ?_)
    have hA11 := Seg.all hG11
    refine Ac (Ax (Qf Bh rfl (Ql rfl underlying3 (hA11 1 _ rfl _) (Qm rfl (Aq (Ag ?_))))))
    refine AD (fun n s hh ms' => ∃ (t : Nat) (U : Nat → Nat → Int) (esc esl : List Value) (vc vl : Value) (mc ml : Hp), n = q - t ∧ s = [(2, .pointer (some ⟨g2, 0, none⟩)), (3, .pointer (some ⟨g3, 0, none⟩)), (4, vc), (5, vl), (10, .int .i64 r), (11, .pointer (some ⟨g11, 0, none⟩)), (81, .int .i64 q), (82, .int .i64 t)] ∧ h12.le hh ∧ ms' = [mc, ml] ∧ t ≤ q ∧ OwnL cV 1 24 mc vc esc ∧ OwnL cV 1 24 ml vl esl ∧ ImV hh r t esc (fun t i => T t (r - 1 - i)) ∧ ImV hh c t esl U ∧ (∀ t', t' < t → ∀ i, i < c → 0 ≤ U t' i ∧ U t' i < p) ∧ ∀ t', t' < t → ∀ i, i < r → Cg p (ap A c (U t') i) (ap L r (fun i => T t' (r - 1 - i)) i))
     (q - 0) _ ⟨0, fun _ _ => 0, [], [], _, _, _, _, rfl, rfl, Hp.le_refl _, rfl, by omega, OwnL.nil BK, OwnL.nil BK, ⟨rfl, fun t ht => by simp at ht⟩, ⟨rfl, fun t ht => by simp at ht⟩, fun t ht => by omega, fun t ht => by omega⟩ Qs ?_
    rintro n s hh ms' ⟨t, U, esc, esl, vc, vl, mc, ml, rfl, rfl, lh, rfl, ht, hVc, hOl, hIc, hIl, hUb, hUl⟩
    have hA := hA.up lh
    have hL := hL.up lh
    have hG2 := hG2.le lh
    have hG3 := hG3.le lh
    have hRT := hRT.up lh
    have hG11 := hG11.le lh
    have hA11 := Seg.all hG11
    refine Ax (Qm rfl (Aq (Ac ?_)))
    refine AF rfl (fun hlt => ?_) (fun hlt => ?_)
    ·have htq : t < q := Bx hlt
     have htr : (t + 1) * r ≤ q * r := Nat.mul_le_mul_right r (by omega)
     have htr2 : t * r ≤ (t + 1) * r := Nat.mul_le_mul_right r (by omega)
     have elT : (mat q r T).length = q * r := AY _ _ _
     have etr : ((t : Int) + 1) * r = ((t + 1 : Nat) : Int) * r := rfl
     have elv := AQ r (T t)
     refine Ai (Ab (Ac (Ag (Ax (Qm rfl (Qm rfl (B3 (Qf Bc rfl (Ql rfl underlying24 (hA11 3 _ rfl _) (Qm rfl (Qm rfl (Qx (oM rfl) rfl (Qm rfl (Qx (oA rfl) rfl (Qm rfl (Qx (oM rfl) rfl (Qx (C5 (t * r) ((t + 1) * r) hRT.rd.any rfl underlying24 A8 rfl rfl rfl (by omega) (by omega) (by omega) (by omega)) rfl (Qc call51 rfl (DS (vec r (T t)) _ hh (hRT.row htq) (by omega)) (fun x h13 ms13 l13 hF => ?_)))))))))))))))))))
     obtain ⟨rfl, mx, rfl, hOx⟩ := hF
     refine Qm rfl (B3 (Qm rfl (Bs (pre := [mx]) rfl call52 rfl (IY r (T t) x mx hh (by omega) hOx) rfl rfl rfl rfl (fun x2 h14 ms14 l14 hF => ?_))))
     obtain ⟨rfl, mx, rfl, hOx⟩ := hF
     refine Aq (Bg hOx fun h15 l15 hRx => ?_)
     have ox := hRx.rd.one
     have hA := hA.up l15
     have hL := hL.up l15
     have hG2 := hG2.le l15
     have hG3 := hG3.le l15
     have hA2 := Seg.all hG2
     have hXb := hTb t htq
     refine Bv (fun s hh ms' => ∃ (F : Nat → Nat → Int) (pv : List Nat) (g16 : Nat) (xe : Value) (mx : Hp), s = [(2, .pointer (some ⟨g2, 0, none⟩)), (3, .pointer (some ⟨g3, 0, none⟩)), (4, vc), (5, vl), (10, .int .i64 r), (11, .pointer (some ⟨g11, 0, none⟩)), (15, x), (16, .pointer (some ⟨g16, 0, none⟩)), (81, .int .i64 q), (82, .int .i64 t)] ∧ h15.le hh ∧ ms' = [AX g16 42 [.int .i64 p, .int .i64 c, .int .i64 1, xe], mx, mc, ml] ∧ OwnL cI 1 3 mx xe (mat c 1 (CB pv F c)) ∧ (∀ i, i < c → 0 ≤ CB pv F c i 0 ∧ CB pv F c i 0 < p) ∧ ∀ i, i < r → Cg p (ap A c (fun a => CB pv F c a 0) i) (ap L r (fun i => T t (r - 1 - i)) i)) ?_ (fun s h ms hI => ?_)
     ·have yr : RtM p r 1 (fun a _ => D2 p r L (fun i => T t (r - 1 - i)) a) := ⟨RA.pr, RA.rl, by omega, fun a ha b hb => ⟨Int.emod_nonneg _ (by omega), Int.emod_lt_of_pos _ (by omega)⟩⟩
      have hfin : ∀ F pv Mx b, Ho p r (c + 1) (jn c A fun a _ => D2 p r L (fun i => T t (r - 1 - i)) a) F pv → (((∀ j (hj : j < pv.length), pv[j] < c) ∧ b = true ∧ Mx = EM p c 1 (CB pv F c)) ∨ (¬ (∀ j (hj : j < pv.length), pv[j] < c) ∧ b = false)) → b = true ∧ Mx = EM p c 1 (CB pv F c) ∧ (∀ i, i < c → 0 ≤ CB pv F c i 0 ∧ CB pv F c i 0 < p) ∧ ∀ i, i < r → Cg p (ap A c (fun a => CB pv F c a 0) i) (ap L r (fun i => T t (r - 1 - i)) i) := fun F pv Mx b hE2 hcase => by
       rcases hcase with ⟨hyes, e1, e2⟩ | ⟨hno, e1⟩
       ·refine ⟨e1, e2, fun i hi => ?_, fun i hi => ?_⟩
        ·unfold CB H9
         split
         ·exact hE2.red.bd _ (by have := hE2.red.len; omega) _ (by omega)
         ·omega
        ·have h1 := HJ hE2.red hyes (s := 0) (by omega) hi
         refine h1.trans ?_
         exact Cg.mod _ _
       ·exfalso
        obtain ⟨y, hy⟩ := hlift t htq
        refine Lq hb.1 hE2.red hno y fun i hi => (hy i hi).trans ?_
        exact (Cg.mod _ _).symm
      refine AW (n := 17) (bs := [true, true, true, true, true, true, true, false, false, false, false, false, false, false, false, false, false]) [true, true, true, true, true, true, true] Cd (by kernel_rfl) (by kernel_rfl) rfl rfl (Qp rfl (oG rfl underlying42 AI (Seg.any hG2)) (QF BE rfl (QL rfl underlying3 (hA2 0 _ rfl _) (QF Bh rfl (QL rfl underlying3 (hA2 1 _ rfl _) (Qp rfl (oG rfl underlying42 AI (Seg.any hG3)) (Qq rfl ?_)))))))
      unfold CD
      simp only [List.cons_append, List.nil_append]
      refine A2 [7, 14] (by kernel_rfl) rfl ?_
      refine Az rfl ?_ ?_
      ·refine Qc call67 rfl (IG p r r L (fun i => T t (r - 1 - i)) lv x _ RL hXb (hL.up (Hp.le_refl _)) (hRx.up (Hp.le_refl _))) (fun y h16 ms16 l16 hF => ?_)
       obtain ⟨l16', my, rfl, hOy⟩ := hF
       refine AH hOy fun h17 l17 hRy => ?_
       have lcur := Hp.le_trans l16 l17
       refine Qa (A2 [8, 14] (by kernel_rfl) rfl ?_)
       refine Az rfl ?_ ?_
       ·refine AB [_] rfl underlying62 BN rfl (hRy.rd.cells) rfl rfl (by omega) rfl rfl rfl (fun g107 => BD fun h18 l18 hSg => ?_)
        have lcur := Hp.le_trans lcur l18
        refine Qa (A2 [9, 14] (by kernel_rfl) rfl ?_)
        refine Az rfl ?_ ?_
        ·refine Qc call97 rfl (Bi p r 1 (fun _ => D2 p r L (fun i => T t (r - 1 - i))) _ h18 RA.i64 RA.rl (by omega) (PG hSg (hRy.up l18))) (fun x9 h19 ms19 l19 hF => ?_)
         obtain ⟨rfl, ed, md, rfl, rfl, hOd⟩ := hF
         refine AH hOd fun h20 l20 hRd => ?_
         have lcur := Hp.le_trans lcur l20
         refine Qa (A2 [10, 14] (by kernel_rfl) rfl ?_)
         refine Az rfl ?_ ?_
         ·refine Qc call115 rfl (B7 p r c A (fun a _ => D2 p r L (fun i => T t (r - 1 - i)) a) av ed h20 RA yr (hA.up lcur) hRd) (fun x11 h21 ms21 l21 hF => ?_)
          obtain ⟨l21', F, pv, Mx, b, xe, mx, hE2, rfl, rfl, hOx2, hcase⟩ := hF
          obtain ⟨rfl, rfl, hub, hul⟩ := hfin F pv Mx b hE2 hcase
          have lcur := Hp.le_trans lcur l21
          have oxe : xe.oneCell' = true := (hOx2.rd (h := h) (ms := [mx]) (List.Mem.head _)).rd.one
          refine Qa (An 11 98 (by kernel_rfl) rfl (by assumption) rfl (As rfl rfl) (An 12 110 (by kernel_rfl) rfl (by assumption) rfl (AC rfl rfl rfl) (An 13 111 (by kernel_rfl) rfl (by assumption) rfl (AC rfl rfl rfl) (Qo 14 rfl (BZ [.int .i64 0, .int .i64 0, .int .i64 0, .slice none 0 0] rfl AI rfl rfl (fun g16 => Qa (Qo 15 rfl ?_)))))))
          refine Sa 0 [_, _, _, _] AI rfl (by simp [oxe]) ?_
          refine Qa (Qo 16 rfl (Qm rfl (Qa (Qe ?_))))
          exact AA _ ⟨F, pv, g16, xe, mx, rfl, lcur, rfl, hOx2, hub, hul⟩ Qs
         refine Az rfl ?_ ?_
         ·refine BZ [.int .i64 0, .int .i64 0, .int .i64 0, .slice none 0 0] rfl AI rfl rfl (fun g16 => Qa (Qo 10 rfl (Qc call115 rfl (B7 p r c A (fun a _ => D2 p r L (fun i => T t (r - 1 - i)) a) av ed h20 RA yr (hA.up lcur) hRd) (fun x11 h21 ms21 l21 hF => ?_))))
          obtain ⟨l21', F, pv, Mx, b, xe, mx, hE2, rfl, rfl, hOx2, hcase⟩ := hF
          obtain ⟨rfl, rfl, hub, hul⟩ := hfin F pv Mx b hE2 hcase
          have lcur := Hp.le_trans lcur l21
          have oxe : xe.oneCell' = true := (hOx2.rd (h := h) (ms := [mx]) (List.Mem.head _)).rd.one
          refine Qa (An 11 98 (by kernel_rfl) rfl (by assumption) rfl (As rfl rfl) (An 12 110 (by kernel_rfl) rfl (by assumption) rfl (AC rfl rfl rfl) (An 13 111 (by kernel_rfl) rfl (by assumption) rfl (AC rfl rfl rfl) (Qo 15 rfl ?_))))
          refine Sa 1 [_, _, _, _] AI rfl (by simp [oxe]) ?_
          refine Qa (Qo 16 rfl (Qm rfl (Qa (Qe ?_))))
          exact A9 (AA _ ⟨F, pv, g16, xe, mx, rfl, lcur, rfl, hOx2, hub, hul⟩ Qs)
         exact A3
        refine Az rfl ?_ ?_
        ·refine BZ [.int .i64 0, .int .i64 0, .int .i64 0, .slice none 0 0] rfl AI rfl rfl (fun g16 => Qa (Qo 9 rfl (Qc call97 rfl (Bi p r 1 (fun _ => D2 p r L (fun i => T t (r - 1 - i))) _ h18 RA.i64 RA.rl (by omega) (PG hSg (hRy.up l18))) (fun x9 h19 ms19 l19 hF => ?_))))
         obtain ⟨rfl, ed, md, rfl, rfl, hOd⟩ := hF
         refine AH hOd fun h20 l20 hRd => ?_
         have lcur := Hp.le_trans lcur l20
         refine Qa (Qo 10 rfl (Qc call115 rfl (B7 p r c A (fun a _ => D2 p r L (fun i => T t (r - 1 - i)) a) av ed h20 RA yr (hA.up lcur) hRd) (fun x11 h21 ms21 l21 hF => ?_)))
         obtain ⟨l21', F, pv, Mx, b, xe, mx, hE2, rfl, rfl, hOx2, hcase⟩ := hF
         obtain ⟨rfl, rfl, hub, hul⟩ := hfin F pv Mx b hE2 hcase
         have lcur := Hp.le_trans lcur l21
         have oxe : xe.oneCell' = true := (hOx2.rd (h := h) (ms := [mx]) (List.Mem.head _)).rd.one
         refine Qa (An 11 98 (by kernel_rfl) rfl (by assumption) rfl (As rfl rfl) (An 12 110 (by kernel_rfl) rfl (by assumption) rfl (AC rfl rfl rfl) (An 13 111 (by kernel_rfl) rfl (by assumption) rfl (AC rfl rfl rfl) (Qo 15 rfl ?_))))
         refine Sa 1 [_, _, _, _] AI rfl (by simp [oxe]) ?_
         refine Qa (Qo 16 rfl (Qm rfl (Qa (Qe ?_))))
         exact A9 (AA _ ⟨F, pv, g16, xe, mx, rfl, lcur, rfl, hOx2, hub, hul⟩ Qs)
        exact A3
       refine Az rfl ?_ ?_
       ·refine BZ [.int .i64 0, .int .i64 0, .int .i64 0, .slice none 0 0] rfl AI rfl rfl (fun g16 => Qa (Qo 8 rfl (AB [_] rfl underlying62 BN rfl (hRy.rd.cells) rfl rfl (by omega) rfl rfl rfl (fun g107 => BD fun h18 l18 hSg => ?_))))
        have lcur := Hp.le_trans lcur l18
        refine Qa (Qo 9 rfl (Qc call97 rfl (Bi p r 1 (fun _ => D2 p r L (fun i => T t (r - 1 - i))) _ h18 RA.i64 RA.rl (by omega) (PG hSg (hRy.up l18))) (fun x9 h19 ms19 l19 hF => ?_)))
        obtain ⟨rfl, ed, md, rfl, rfl, hOd⟩ := hF
        refine AH hOd fun h20 l20 hRd => ?_
        have lcur := Hp.le_trans lcur l20
        refine Qa (Qo 10 rfl (Qc call115 rfl (B7 p r c A (fun a _ => D2 p r L (fun i => T t (r - 1 - i)) a) av ed h20 RA yr (hA.up lcur) hRd) (fun x11 h21 ms21 l21 hF => ?_)))
        obtain ⟨l21', F, pv, Mx, b, xe, mx, hE2, rfl, rfl, hOx2, hcase⟩ := hF
        obtain ⟨rfl, rfl, hub, hul⟩ := hfin F pv Mx b hE2 hcase
        have lcur := Hp.le_trans lcur l21
        have oxe : xe.oneCell' = true := (hOx2.rd (h := h) (ms := [mx]) (List.Mem.head _)).rd.one
        refine Qa (An 11 98 (by kernel_rfl) rfl (by assumption) rfl (As rfl rfl) (An 12 110 (by kernel_rfl) rfl (by assumption) rfl (AC rfl rfl rfl) (An 13 111 (by kernel_rfl) rfl (by assumption) rfl (AC rfl rfl rfl) (Qo 15 rfl ?_))))
        refine Sa 1 [_, _, _, _] AI rfl (by simp [oxe]) ?_
        refine Qa (Qo 16 rfl (Qm rfl (Qa (Qe ?_))))
        exact A9 (AA _ ⟨F, pv, g16, xe, mx, rfl, lcur, rfl, hOx2, hub, hul⟩ Qs)
       exact A3
      refine Az rfl ?_ ?_
      ·refine BZ [.int .i64 0, .int .i64 0, .int .i64 0, .slice none 0 0] rfl AI rfl rfl (fun g16 => Qw (Qo 7 rfl (Qc call67 rfl (IG p r r L (fun i => T t (r - 1 - i)) lv x _ RL hXb (hL.up (Hp.le_refl _)) (hRx.up (Hp.le_refl _))) (fun y h16 ms16 l16 hF => ?_))))
       obtain ⟨l16', my, rfl, hOy⟩ := hF
       refine AH hOy fun h17 l17 hRy => ?_
       have lcur := Hp.le_trans l16 l17
       refine Qa (Qo 8 rfl (AB [_] rfl underlying62 BN rfl (hRy.rd.cells) rfl rfl (by omega) rfl rfl rfl (fun g107 => BD fun h18 l18 hSg => ?_)))
       have lcur := Hp.le_trans lcur l18
       refine Qa (Qo 9 rfl (Qc call97 rfl (Bi p r 1 (fun _ => D2 p r L (fun i => T t (r - 1 - i))) _ h18 RA.i64 RA.rl (by omega) (PG hSg (hRy.up l18))) (fun x9 h19 ms19 l19 hF => ?_)))
       obtain ⟨rfl, ed, md, rfl, rfl, hOd⟩ := hF
       refine AH hOd fun h20 l20 hRd => ?_
       have lcur := Hp.le_trans lcur l20
       refine Qa (Qo 10 rfl (Qc call115 rfl (B7 p r c A (fun a _ => D2 p r L (fun i => T t (r - 1 - i)) a) av ed h20 RA yr (hA.up lcur) hRd) (fun x11 h21 ms21 l21 hF => ?_)))
       obtain ⟨l21', F, pv, Mx, b, xe, mx, hE2, rfl, rfl, hOx2, hcase⟩ := hF
       obtain ⟨rfl, rfl, hub, hul⟩ := hfin F pv Mx b hE2 hcase
       have lcur := Hp.le_trans lcur l21
       have oxe : xe.oneCell' = true := (hOx2.rd (h := h) (ms := [mx]) (List.Mem.head _)).rd.one
       refine Qa (An 11 98 (by kernel_rfl) rfl (by assumption) rfl (As rfl rfl) (An 12 110 (by kernel_rfl) rfl (by assumption) rfl (AC rfl rfl rfl) (An 13 111 (by kernel_rfl) rfl (by assumption) rfl (AC rfl rfl rfl) (Qo 15 rfl ?_))))
       refine Sa 1 [_, _, _, _] AI rfl (by simp [oxe]) ?_
       refine Qa (Qo 16 rfl (Qm rfl (Qa (Qe ?_))))
       exact A9 (AA _ ⟨F, pv, g16, xe, mx, rfl, lcur, rfl, hOx2, hub, hul⟩ Qs)
      exact A3
     ·obtain ⟨F, pv, g16, xe, mx, rfl, l16, rfl, hOx2, hub, hul⟩ := hI
      refine Cu 1 rfl (Bg hOx2 fun h17 l17 hRx2 => (AL fun h18 l18 hG16 => ?_))
      have hRx2 : RdL cI 1 h18 [] xe (mat c 1 (CB pv F c)) := hRx2.up l18
      have l1518 := Hp.le_trans l16 (Hp.le_trans l17 l18)
      have hRx := hRx.up l1518
      have hA16 := Seg.all hG16
      have lhc : esc.length ≤ 200 := by rw [hIc.1]; omega
      have lhl : esl.length ≤ 200 := by rw [hIl.1]; omega
      refine AW (n := 11) (bs := [true, true, false, false, true, true, false, false, false, false, false]) [true, true, false, false, true, true] Cd (by kernel_rfl) (by kernel_rfl) rfl rfl (Qq rfl (Qq rfl (Qq rfl (Qp rfl (oG rfl underlying42 AI (Seg.any hG16)) ?_))))
      unfold CD
      simp only [List.cons_append, List.nil_append]
      refine Qo 2 rfl (AB [_] rfl underlying62 BN rfl ((hRx.rd).cells) rfl rfl (by omega) rfl rfl rfl (fun g114 => Qw (Qo 3 rfl ?_)))
      refine Ba 1 hVc (RdL.one BK (List.Mem.head _) rfl) rfl underlying62 BN rfl (by omega) rfl rfl rfl (Cj ox) (by simp only [List.length_singleton]; omega) (by simp only [List.length_singleton]; omega) rfl rfl rfl (fun vc2 mc2 hOc2 => ?_)
      refine Qw (Qo 6 rfl (Qc call89 rfl (Eb p c 1 (CB pv F c) xe 0 h18 RA.cl (by omega) (by omega) hRx2) (fun y6 h19 ms19 l19 hF => ?_)))
      obtain ⟨rfl, my, rfl, hOy⟩ := hF
      refine AH hOy fun h20 l20 hRy => ?_
      have oy := hRy.rd.one
      refine Qa (Qo 7 rfl (AB [_] rfl underlying62 BN rfl (hRy.rd.cells) rfl rfl (by omega) rfl rfl rfl (fun g119 => Qa (Qo 8 rfl ?_))))
      refine Ba 3 hOl (RdL.one BK (List.Mem.head _) rfl) rfl underlying62 BN rfl (by omega) rfl rfl rfl (Cj oy) (by simp only [List.length_singleton]; omega) (by simp only [List.length_singleton]; omega) rfl rfl rfl (fun vl2 ml2 hOl2 => ?_)
      refine Qa (Qo 9 rfl (Qm rfl (Qa (Qo 10 rfl (Qm rfl (Qa (Qe (Aj (Ab (Ad (Qx (oA rfl) rfl (Qm rfl (Ak (AP 0 rfl (AP 0 rfl ?_)))))))))))))))
      refine Al (q - (t + 1)) _ (by omega) ⟨t + 1, Fq t U (fun i => CB pv F c i 0), esc ++ [x], esl ++ [y6], vc2, vl2, mc2, ml2, rfl, rfl, Hp.le_trans lh (Hp.le_trans l15 (Hp.le_trans l1518 l20)), rfl, by omega, hOc2, hOl2, ?_, ?_, fun t' ht' i hi => ?_, fun t' ht' i hi => ?_⟩ Qs
      ·have h1 := (hIc.up (Hp.le_trans l15 (Hp.le_trans l1518 l20))).snoc (hRx.up l20)
       rwa [IT t fun t i => T t (r - 1 - i)] at h1
      ·exact (hIl.up (Hp.le_trans l15 (Hp.le_trans l1518 l20))).snoc hRy
      ·unfold Fq
       by_cases h1 : t' = t
       ·rw [if_pos h1]; exact hub i hi
       ·rw [if_neg h1]; exact hUb t' (by omega) i hi
      ·unfold Fq
       by_cases h1 : t' = t
       ·rw [if_pos h1, h1]; exact hul i hi
       ·rw [if_neg h1]; exact hUl t' (by omega) i hi
    ·obtain rfl : t = q := by omega
     refine Aw (Aa (Aa (Af (Ab (Ax (Qm rfl (Qm rfl (Qm rfl (Qm rfl (Aq (Ao (CW hVc fun h13 l13 hRc => (CW hOl fun h14 l14 hRl => ?_)))))))))))))
     exact FX rfl rfl rfl (⟨Hp.le_trans l012 (Hp.le_trans lh (Hp.le_trans l13 l14)), t, fun t i => T t (r - 1 - i), U, vc, vl, rfl, ⟨fun F pv hE2 => hrank F pv hE2, hTb, hUb, ⟨top, htop⟩, hUl⟩, (hIc.up (Hp.le_trans l13 l14)).rd (hRc.up l14), (hIl.up (Hp.le_trans l13 l14)).rd hRl, rfl⟩)
end Go.Proofs.YtdnelknieikbaaaGreat
namespace Go.Proofs.YtdnelknieikbaaaGreat
open Go.Eng Go.RowKit Go.Lin
variable {k m i t N : Nat} {S S0 : Nat → SM} {Z : Zg}
section
variable (al : List Nat) (q : Nat) (top : Nat → Nat) (U : Nat → Nat → Int)
def EL (m : Nat) (l : Nat) : Bool := (List.range q).any fun t => decide (m ≤ top t ∧ al.getD (top t) 0 = l)
def DH (l : Nat) : Nat → Int := U (((List.range q).find? fun t => decide (al.getD (top t) 0 = l)).getD 0)
def Cx (k m : Nat) (S : Nat → SM) (l : Nat) : SM := if EL al q top m l then { S l with to := k + 1, v := fun j => if j = k + 1 then DH al q top U l else (S l).v j } else S l
end
section
variable {al : List Nat} {q : Nat} {top : Nat → Nat} {U : Nat → Nat → Int}
theorem stB_iff {l : Nat} : EL al q top m l = true ↔ ∃ t, t < q ∧ m ≤ top t ∧ al.getD (top t) 0 = l := by
 unfold EL
 rw [List.any_eq_true]
 constructor
 ·rintro ⟨t, h1, h2⟩
  exact ⟨t, List.mem_range.1 h1, of_decide_eq_true h2⟩
 ·rintro ⟨t, h1, h2⟩
  exact ⟨t, List.mem_range.2 h1, decide_eq_true h2⟩
theorem Ef {l : List Nat} (hn : l.Nodup) {j : Nat} (hi : i < l.length) (hj : j < l.length) (h : l.getD i 0 = l.getD j 0) : i = j := by
 have e1 : l.getD i 0 = l[i] := by simp [List.getD, hi]
 have e2 : l.getD j 0 = l[j] := by simp [List.getD, hj]
 rw [e1, e2] at h
 exact Ls hn (a := l[i]) (List.getElem?_eq_getElem hi) (by rw [h]; exact List.getElem?_eq_getElem hj)
theorem NN (hn : al.Nodup) (ht : ∀ t, t < q → top t < al.length) (hi : ∀ t t', t < q → t' < q → top t = top t' → t = t') (h : t < q) : DH al q top U (al.getD (top t) 0) = U t := by
 unfold DH
 congr 1
 cases hf : (List.range q).find? fun t' => decide (al.getD (top t') 0 = al.getD (top t) 0) with
 | none =>
  have := List.find?_eq_none.1 hf t (List.mem_range.2 h)
  simp at this
 | some t' =>
  have h1 := List.find?_some hf
  have h2 := List.mem_range.1 (List.mem_of_find?_eq_some hf)
  have h3 := of_decide_eq_true h1
  exact hi t' t h2 h (Ef hn (ht t' h2) (ht t h) h3)
theorem DJ {l : Nat} (h : EL al q top m l = false) : Cx al q top U k m S l = S l := by unfold Cx; rw [h]; rfl
theorem TN (l : Nat) : (Cx al q top U k m S l).g = (S l).g ∧ (Cx al q top U k m S l).fr = (S l).fr := by
 unfold Cx; split <;> exact ⟨rfl, rfl⟩
theorem F8 (hn : al.Nodup) (ht : ∀ t, t < q → top t < al.length) (hi : i < m) (hl : i < al.length) : EL al q top m (al.getD i 0) = false := by
 cases h : EL al q top m (al.getD i 0) with
 | false => rfl
 | true =>
  obtain ⟨t, h1, h2, h3⟩ := stB_iff.1 h
  have := Ef hn (ht t h1) hl h3
  omega
theorem Mu {s : Nat} {p n : Int} (hs : EL al q top m s = false) (ht : EL al q top m t = false) : adds p n s t (Cx al q top U k m S) = Cx al q top U k m (adds p n s t S) := funext fun l => by
 have e1 := DJ (U := U) (k := k) (S := S) hs
 have e2 := DJ (U := U) (k := k) (S := S) ht
 by_cases h : l = s
 ·subst h
  rw [DJ hs]
  unfold adds
  rw [if_pos rfl, if_pos rfl, e1, e2]
 ·have e3 : adds p n s t S l = S l := if_neg h
  have e4 : adds p n s t (Cx al q top U k m S) l = Cx al q top U k m S l := if_neg h
  rw [e4]
  unfold Cx
  rw [e3]
theorem PD (hn : al.Nodup) (ht : ∀ t, t < q → top t < al.length) (hj : ∀ t t', t < q → t' < q → top t = top t' → t = t') (h : t < q) (hi : top t = i) (hk : (S (al.getD i 0)).to = k) : HS (al.getD i 0) (U t) (Cx al q top U k (i + 1) S) = Cx al q top U k i S := funext fun l => by
 have hil : i < al.length := hi ▸ ht t h
 have hlow : EL al q top (i + 1) (al.getD i 0) = false := F8 hn ht (by omega) hil
 by_cases hl : l = al.getD i 0
 ·subst hl
  unfold HS
  rw [if_pos rfl, DJ hlow, hk]
  unfold Cx
  rw [if_pos (stB_iff.2 ⟨t, h, by omega, by rw [hi]⟩)]
  have := NN (U := U) hn ht hj h
  rw [hi] at this
  rw [this]
 ·unfold HS
  rw [if_neg hl]
  unfold Cx
  have e : EL al q top (i + 1) l = EL al q top i l := by
   rw [Bool.eq_iff_iff, stB_iff, stB_iff]
   constructor
   ·rintro ⟨t, h1, h2, h3⟩; exact ⟨t, h1, by omega, h3⟩
   ·rintro ⟨t', h1, h2, h3⟩
    refine ⟨t', h1, ?_, h3⟩
    rcases (by omega : i + 1 ≤ top t' ∨ top t' = i) with h4 | h4
    ·exact h4
    ·exact absurd (by rw [← h3, h4]) hl
  rw [e]
theorem Mo (hno : ∀ t, t < q → top t ≠ i) : Cx al q top U k (i + 1) S = Cx al q top U k i S := funext fun l => by
 unfold Cx
 have e : EL al q top (i + 1) l = EL al q top i l := by
  rw [Bool.eq_iff_iff, stB_iff, stB_iff]
  constructor
  ·rintro ⟨t, h1, h2, h3⟩; exact ⟨t, h1, by omega, h3⟩
  ·rintro ⟨t', h1, h2, h3⟩
   have := hno t' h1
   exact ⟨t', h1, by omega, h3⟩
 rw [e]
theorem K3 (ht : ∀ t, t < q → top t < al.length) (hm : al.length ≤ m) : Cx al q top U k m S = S := funext fun l => DJ (by
 cases h : EL al q top m l with
 | false => rfl
 | true =>
  obtain ⟨t, h1, h2, h3⟩ := stB_iff.1 h
  have := ht t h1
  omega)
end
structure Bw (Z : Zg) (k N : Nat) (S0 S : Nat → SM) (al : List Nat) (q : Nat) (top : Nat → Nat) (U : Nat → Nat → Int) (m : Nat) : Prop where
 val : Valid (Z.tr k) (Dr N S)
 same : ∀ l, (S l).g = (S0 l).g ∧ (S l).fr = (S0 l).fr ∧ (S l).to = (S0 l).to
 bd : ∀ l, l < N → (S l).Bd Z.p Z.d
 low : ∀ i, i < m → i < al.length → S (al.getD i 0) = S0 (al.getD i 0)
 img : ∀ t, t < q → m ≤ top t → ∀ a, a < Z.d k → Cg Z.p (ap (Z.mat k) (Z.d (k + 1)) (U t) a) ((S (al.getD (top t) 0)).v k a)
theorem Bw.start {al en : List Nat} (M : Mch Z k N S al en) {q : Nat} {top : Nat → Nat} {U : Nat → Nat → Int} (ht : ∀ t, t < q → top t < al.length) : Bw Z k N S S al q top U al.length :=
 ⟨M.val, fun _ => ⟨rfl, rfl, rfl⟩, M.bd, fun _ _ _ => rfl, fun t h1 h2 => by have := ht t h1; omega⟩
theorem Bw.skip {al : List Nat} {q : Nat} {top : Nat → Nat} {U : Nat → Nat → Int} (W : Bw Z k N S0 S al q top U (i + 1)) (hno : ∀ t, t < q → top t ≠ i) : Bw Z k N S0 S al q top U i :=
 ⟨W.val, W.same, W.bd, fun j hj => W.low j (by omega), fun t h1 h2 => W.img t h1 (by have := hno t h1; omega)⟩
theorem Bw.step {S' : Nat → SM} {al : List Nat} {q : Nat} {top : Nat → Nat} {X U : Nat → Nat → Int} (W : Bw Z k N S0 S al q top U (i + 1)) (hn : al.Nodup) (hil : i < al.length) (h : t < q) (hti : top t = i) (htl : ∀ t, t < q → top t < al.length) (hj : ∀ t t', t < q → t' < q → top t = top t' → t = t')
  (hX1 : X t i = 1) (hX0 : ∀ j, i < j → j < al.length → X t j = 0) (I : FwI Z k N S S' al (al.getD i 0) (fun j => Z.p - X t j) i)
  (hU : ∀ a, a < Z.d k → Cg Z.p (ap (Z.mat k) (Z.d (k + 1)) (U t) a) (ap (fun a j => (S0 (al.getD j 0)).v k a) al.length (X t) a)) : Bw Z k N S0 S' al q top U i := by
 have hne : ∀ j, j < al.length → j ≠ i → al.getD j 0 ≠ al.getD i 0 := fun j h1 h2 h3 => h2 (Ef hn h1 hil h3)
 refine ⟨I.val, fun l => ?_, I.bd, fun j hji hjl => ?_, fun t' h1 h2 a ha => ?_⟩
 ·have h1 := I.same l
  have h2 := W.same l
  exact ⟨h1.1.trans h2.1, h1.2.1.trans h2.2.1, h1.2.2.trans h2.2.2⟩
 ·rw [I.other _ (hne j hjl (by omega))]; exact W.low j (by omega) hjl
 ·by_cases h3 : top t' = i
  ·have : t' = t := hj t' t h1 h (by omega)
   subst this
   rw [h3]
   refine (hU a ha).trans (Cg.trans ?_ (I.sum a ha).symm)
   rw [W.low i (by omega) hil]
   refine Cg.of_eq ?_
   obtain ⟨d, hd⟩ : ∃ d, al.length = i + 1 + d := ⟨al.length - (i + 1), by omega⟩
   unfold ap
   rw [hd, El (i + 1) d]
   have e1 : (sm d fun j => (S0 (al.getD (i + 1 + j) 0)).v k a * X t' (i + 1 + j)) = 0 := CL fun j hjd => by rw [hX0 (i + 1 + j) (by omega) (by omega), Int.mul_zero]
   rw [e1, Int.add_zero]
   show (sm i fun j => (S0 (al.getD j 0)).v k a * X t' j) + (S0 (al.getD i 0)).v k a * X t' i = _
   rw [hX1, Int.mul_one, Int.add_comm]
   congr 1
   exact AE fun j hji => by
    rw [W.low j (by omega) (by omega), Int.mul_comm]
    congr 1
    omega
  ·rw [I.other _ (hne (top t') (htl t' h1) h3)]
   exact W.img t' h1 (by omega) a ha
theorem T5 {p : Int} (hp : 2 ≤ p) {r c : Nat} {f F : Nat → Nat → Int} {pv : List Nat} (R : Red p r c f F pv c) {n : Nat} (hn : n + pv.length = c) : (Ind p n tt c fun s a => Fy pv p F c a s) ∧ (∀ s, s < n → ∀ i, i < r → Cg p (ap f c (fun a => Fy pv p F c a s) i) 0) ∧ ∀ s, s < n → ∀ a, a < c → 0 ≤ Fy pv p F c a s ∧ Fy pv p F c a s < p := by
 have hfl : (Er pv c).length = n := by
  have := Oc R.sorted R.mem_lt
  omega
 have hmem : ∀ s, s < n → (Er pv c).getD s 0 < c ∧ (Er pv c).getD s 0 ∉ pv := fun s hs => by
  have : (Er pv c).getD s 0 ∈ Er pv c := by simp [List.getD, show s < (Er pv c).length by omega]
  exact frl_mem.1 this
 refine ⟨fun x hx s hs _ => ?_, fun s hs i hi => ?_, fun s hs a ha => ?_⟩
 ·have h1 := hx ((Er pv c).getD s 0) (hmem s hs).1
  rw [Cs, DZ n s _ hs fun t ht hne => ?_] at h1
  ·unfold Fy L5 at h1
   rw [if_pos rfl, Int.mul_one] at h1
   unfold Cg at h1; rwa [Int.sub_zero] at h1
  ·unfold Fy L5
   rw [if_neg, if_neg, Int.mul_zero]
   ·exact fun h => (hmem s hs).2 (List.idxOf_lt_length_iff.1 h)
   ·intro h
    exact hne (Ef (OG pv c) (by omega) (by omega) h.symm)
 ·obtain ⟨hjc, hjp⟩ := hmem s hs
  refine (R.ker fun a => Fy pv p F c a s).1 (fun i hi => ?_) i hi
  have e : ∀ a, Fy pv p F c a s = (if a = (Er pv c).getD s 0 then 1 else 0) + Gg pv (fun k => (p - F k ((Er pv c).getD s 0)) % p) a := fun a => by
   unfold Fy L5 Gg
   by_cases h1 : a = (Er pv c).getD s 0
   ·rw [if_pos h1, if_pos h1, if_neg, Int.add_zero]
    rw [h1]; exact fun h => hjp (List.idxOf_lt_length_iff.1 h)
   ·rw [if_neg h1, if_neg h1, Int.zero_add]
  have e2 : ap F c (fun a => Fy pv p F c a s) i = F i ((Er pv c).getD s 0) + if i < pv.length then (p - F i ((Er pv c).getD s 0)) % p else 0 := by
   rw [show (fun a => Fy pv p F c a s) = fun a => (if a = (Er pv c).getD s 0 then 1 else 0) + Gg pv (fun k => (p - F k ((Er pv c).getD s 0)) % p) a from funext e, Md, Kr F c hjc, Hx R _ hi]
  rw [e2]
  split
  ·have h1 : Cg p (F i ((Er pv c).getD s 0) + (p - F i ((Er pv c).getD s 0)) % p) (F i ((Er pv c).getD s 0) + (p - F i ((Er pv c).getD s 0))) := (Cg.refl _ _).add (Cg.mod _ _)
   refine h1.trans ?_
   rw [show F i ((Er pv c).getD s 0) + (p - F i ((Er pv c).getD s 0)) = p by omega]
   exact Cg.self p
  ·rename_i hl
   rw [R.low i hi (by omega) _ hjc]; exact Cg.refl _ _
 ·unfold Fy L5
  split
  ·omega
  ·split
   ·exact ⟨Int.emod_nonneg _ (by omega), Int.emod_lt_of_pos _ (by omega)⟩
   ·omega
theorem Bw.done (Fp : Lin.Fld Z.p) (hp : 2 ≤ Z.p) {nb q : Nat} {al en : List Nat} {top : Nat → Nat} {U K : Nat → Nat → Int} {gb : Nat → Nat} (M : Mch Z k N S0 al en) (W : Bw Z k N S0 S al q top U 0) (hbk : Z.back k = true) (htl : ∀ t, t < q → top t < al.length) (hj : ∀ t t', t < q → t' < q → top t = top t' → t = t')
  (hK : (Ind Z.p nb tt (Z.d (k + 1)) K) ∧ (∀ s, s < nb → ∀ i, i < Z.d k → Cg Z.p (ap (Z.mat k) (Z.d (k + 1)) (K s) i) 0) ∧ ∀ s, s < nb → ∀ a, a < Z.d (k + 1) → 0 ≤ K s a ∧ K s a < Z.p) (hc : nb + q = Z.d (k + 1)) (hUb : ∀ t, t < q → ∀ i, i < Z.d (k + 1) → 0 ≤ U t i ∧ U t i < Z.p) :
  Mch Z (k + 1) (N + nb) (BY N k gb K (Cx al q top U k 0 S)) (List.range' N nb ++ al.filter (EL al q top 0)) (en ++ al.filter fun l => !EL al q top 0 l) := by
 have hnd := M.nodup
 have hst : (al.filter (EL al q top 0)).Nodup := hnd.sublist List.filter_sublist
 have hmem : ∀ l, l ∈ al.filter (EL al q top 0) ↔ ∃ t, t < q ∧ al.getD (top t) 0 = l := fun l => by
  rw [List.mem_filter]
  constructor
  ·rintro ⟨_, h⟩
   obtain ⟨t, h1, _, h3⟩ := stB_iff.1 h
   exact ⟨t, h1, h3⟩
  ·rintro ⟨t, h1, h3⟩
   exact ⟨by rw [← h3]; exact BF (htl t h1), stB_iff.2 ⟨t, h1, by omega, h3⟩⟩
 have hlen : (al.filter (EL al q top 0)).length = q := by
  have hp2 : (al.filter (EL al q top 0)).Perm ((List.range q).map fun t => al.getD (top t) 0) := by
   refine (List.perm_ext_iff_of_nodup hst ?_).2 fun l => ?_
   ·rw [List.nodup_iff_pairwise_ne, List.pairwise_map]
    refine List.Pairwise.imp_of_mem (R := (· < ·)) (fun {a b} ha hb hab h => ?_) List.pairwise_lt_range
    have h1 := hj a b (List.mem_range.1 ha) (List.mem_range.1 hb) (Ef hnd (htl a (List.mem_range.1 ha)) (htl b (List.mem_range.1 hb)) h)
    omega
   ·rw [hmem, List.mem_map]
    constructor
    ·rintro ⟨t, h1, h2⟩; exact ⟨t, List.mem_range.2 h1, h2⟩
    ·rintro ⟨t, h1, h2⟩; exact ⟨t, List.mem_range.1 h1, h2⟩
  have := hp2.length_eq
  simpa using this
 obtain ⟨st, hste⟩ : ∃ st, st = al.filter (EL al q top 0) := ⟨_, rfl⟩
 rw [← hste] at hst hmem hlen ⊢
 have hsub : st.Sublist al := by rw [hste]; exact List.filter_sublist
 have hgr : Cx al q top U k 0 S = BS k (fun t => DH al q top U (st.getD t 0)) st st.length S := funext fun l => by
  unfold Cx BS
  rw [List.take_length]
  by_cases h : l ∈ st
  ·have h1 : EL al q top 0 l = true := by rw [hste] at h; exact (List.mem_filter.1 h).2
   rw [if_pos h1, if_pos h]
   have h2 : st.getD (st.idxOf l) 0 = l := by
    simp [List.getD, List.idxOf_lt_length_iff.2 h]
   simp only [h2]
  ·have h1 : ¬ EL al q top 0 l = true := fun h2 => h ((hmem l).2 (by
    obtain ⟨t, h3, _, h4⟩ := stB_iff.1 h2
    exact ⟨t, h3, h4⟩))
   rw [if_neg h1, if_neg h]
 have hwt : ∀ l, l ∈ st → (fun t => DH al q top U (st.getD t 0)) (st.idxOf l) = DH al q top U l := fun l h => by
  have h2 : st.getD (st.idxOf l) 0 = l := by simp [List.getD, List.idxOf_lt_length_iff.2 h]
  show DH al q top U (st.getD (st.idxOf l) 0) = _
  rw [h2]
 have hUof : ∀ l ∈ st, ∃ t, t < q ∧ al.getD (top t) 0 = l ∧ DH al q top U l = U t := fun l h => by
  obtain ⟨t, h1, h2⟩ := (hmem l).1 h
  exact ⟨t, h1, h2, by rw [← h2]; exact NN hnd htl hj h1⟩
 have hstN : ∀ l ∈ st, l < N ∧ (S l).to = k := fun l h => ⟨M.lt (hsub.subset h), by rw [(W.same l).2.2]; exact M.live l (hsub.subset h)⟩
 rw [hgr]
 have hallen : (List.range' N nb ++ st).length = nb + q := by rw [List.length_append, List.length_range', hlen]
 refine K4 (st := st) (de := al.filter fun l => !EL al q top 0 l) (w := fun t => DH al q top U (st.getD t 0)) (u := K) M W.val W.same W.bd hsub ?_ _ List.perm_append_comm ?_ (hallen.trans hc) (fun h => by rw [hbk] at h; cases h) (fun _ => ⟨fun l hl i hi => ?_, hK.2.1⟩) (fun t ht i hi => ?_) hK.2.2 ?_
 ·rw [hste]; exact List.filter_append_perm _ al
 ·-- independent
  rw [hallen]
  intro x hx
  have hbg : ∀ b, b < nb → (List.range' N nb ++ st).getD b 0 = N + b := fun b hb => by
   simp [List.getD, List.getElem?_append_left (show b < (List.range' N nb).length by simpa using hb), hb]
  have hsg : ∀ t, (List.range' N nb ++ st).getD (nb + t) 0 = st.getD t 0 := fun t => by
   simp [List.getD, List.getElem?_append_right (show (List.range' N nb).length ≤ nb + t by simp)]
  have hsum : ∀ a, Bj (nb + q) tt x (fun t => Gu N st (fun t => DH al q top U (st.getD t 0)) K ((List.range' N nb ++ st).getD t 0)) a = Bj nb tt x K a + sm q fun t => x (nb + t) * DH al q top U (st.getD t 0) a := fun a => by
   rw [Cs, Cs, El]
   congr 1
   ·refine AE fun b hb => ?_
    rw [hbg b hb]
    unfold Gu
    rw [if_neg (by omega), Nat.add_sub_cancel_left]
   ·refine AE fun t ht => ?_
    have hm : st.getD t 0 ∈ st := BF (by omega)
    rw [hsg t]
    unfold Gu
    rw [if_pos (hstN _ hm).1, hwt _ hm]
  -- what the matrix makes of it
  have hq0 : ∀ t, t < q → Z.p ∣ x (nb + t) := by
   have hI := W.val.ind k (show k < k + 1 by omega)
   have hkey := hI (fun l => if l ∈ st then x (nb + st.idxOf l) else 0) (fun i hi => ?_)
   ·intro t ht
    have hm : st.getD t 0 ∈ st := BF (by omega)
    have h1 := hkey (st.getD t 0) (hstN _ hm).1 (Dc.on_iff.2 ⟨by
     have h2 := (W.val.ends _ (hstN _ hm).1).1
     have h3 : (S (st.getD t 0)).fr ≤ (S (st.getD t 0)).to := h2
     rw [(hstN _ hm).2] at h3; exact h3, by show k ≤ (S (st.getD t 0)).to; rw [(hstN _ hm).2]; omega⟩)
    rwa [if_pos hm, E5 hst (by omega)] at h1
   ·have h0 : Cg Z.p (ap (Z.mat k) (Z.d (k + 1)) (Bj (nb + q) tt x (fun t => Gu N st (fun t => DH al q top U (st.getD t 0)) K ((List.range' N nb ++ st).getD t 0))) i) 0 := (EC (fun a ha => hx a ha) i).trans (Cg.of_eq (J8 _ _ _))
    rw [show (Bj (nb + q) tt x (fun t => Gu N st (fun t => DH al q top U (st.getD t 0)) K ((List.range' N nb ++ st).getD t 0))) = fun a => Bj nb tt x K a + sm q fun t => x (nb + t) * DH al q top U (st.getD t 0) a from funext hsum, Md] at h0
    have h1 : Cg Z.p (ap (Z.mat k) (Z.d (k + 1)) (Bj nb tt x K) i) 0 := by
     rw [FY]
     refine Cg.trans (Cg.sm (g := fun _ => 0) fun b hb => ?_) (Cg.of_eq (CS nb))
     rw [if_pos rfl]
     have := (Cg.refl Z.p (x b)).mul (hK.2.1 b hb i hi)
     rwa [Int.mul_zero] at this
    have h2 : Cg Z.p (ap (Z.mat k) (Z.d (k + 1)) (fun a => sm q fun t => x (nb + t) * DH al q top U (st.getD t 0) a) i) (sm q fun t => x (nb + t) * (S (st.getD t 0)).v k i) := by
     have e1 : ap (Z.mat k) (Z.d (k + 1)) (fun a => sm q fun t => x (nb + t) * DH al q top U (st.getD t 0) a) i = sm q fun t => x (nb + t) * ap (Z.mat k) (Z.d (k + 1)) (DH al q top U (st.getD t 0)) i := by
      have := FY (Z.mat k) (Z.d (k + 1)) q tt (fun t => x (nb + t)) (fun t => DH al q top U (st.getD t 0)) i
      rw [show ap (Z.mat k) (Z.d (k + 1)) (Bj q tt (fun t => x (nb + t)) fun t => DH al q top U (st.getD t 0)) i = ap (Z.mat k) (Z.d (k + 1)) (fun a => sm q fun t => x (nb + t) * DH al q top U (st.getD t 0) a) i from AE fun j _ => by rw [Cs]] at this
      rw [this]
      exact AE fun t _ => if_pos rfl
     rw [e1]
     refine Cg.sm fun t ht => (Cg.refl _ _).mul ?_
     obtain ⟨t', h3, h4, h5⟩ := hUof _ (BF (show t < st.length by omega))
     rw [h5, ← h4]
     exact W.img t' h3 (by omega) i hi
    have h3 : Cg Z.p (sm q fun t => x (nb + t) * (S (st.getD t 0)).v k i) 0 := by
     have h4 := h0.sub h1
     rw [show ap (Z.mat k) (Z.d (k + 1)) (Bj nb tt x K) i + ap (Z.mat k) (Z.d (k + 1)) (fun a => sm q fun t => x (nb + t) * DH al q top U (st.getD t 0) a) i - ap (Z.mat k) (Z.d (k + 1)) (Bj nb tt x K) i = ap (Z.mat k) (Z.d (k + 1)) (fun a => sm q fun t => x (nb + t) * DH al q top U (st.getD t 0) a) i by omega, Int.sub_zero] at h4
     exact h2.symm.trans h4
    refine Cg.trans (Cg.of_eq ?_) h3
    -- az a sum over all strands
    show Bj N ((Dr N S).on k) (fun l => if l ∈ st then x (nb + st.idxOf l) else 0) (fun l => (S l).v k) i = _
    have hson : ∀ l, l ∈ st → (Dr N S).on k l = true := fun l h => Dc.on_iff.2 ⟨by
     have h2 := (W.val.ends _ (hstN _ h).1).1
     have h3 : (S l).fr ≤ (S l).to := h2
     rw [(hstN _ h).2] at h3; exact h3, by show k ≤ (S l).to; rw [(hstN _ h).2]; omega⟩
    have e2 : Bj N ((Dr N S).on k) (fun l => if l ∈ st then x (nb + st.idxOf l) else 0) (fun l => (S l).v k) i = sm N fun l => if decide (l ∈ st) then x (nb + st.idxOf l) * (S l).v k i else 0 := AE fun l _ => by
     show (if (Dr N S).on k l then (if l ∈ st then x (nb + st.idxOf l) else 0) * (S l).v k i else 0) = _
     by_cases h : l ∈ st
     ·rw [hson l h, if_pos h, if_pos rfl, if_pos (decide_eq_true h)]
     ·have e3 : (if decide (l ∈ st) = true then x (nb + st.idxOf l) * (S l).v k i else 0) = 0 := if_neg (by simpa using h)
      rw [e3, if_neg h, Int.zero_mul]; split <;> rfl
    rw [e2, Ki N (fun l => decide (l ∈ st)) fun l => x (nb + st.idxOf l) * (S l).v k i]
    have hps : st.Perm (Df N fun l => decide (l ∈ st)) := FA hst fun l => ⟨fun h => ⟨(hstN l h).1, decide_eq_true h⟩, fun h => of_decide_eq_true h.2⟩
    rw [← Iw hps, Ku, hlen]
    exact AE fun t ht => by rw [E5 hst (by omega)]
  have hn0 : ∀ b, b < nb → Z.p ∣ x b := fun b hb => hK.1 x (fun a ha => by
   have h1 := hx a ha
   rw [hsum a] at h1
   have h2 : Cg Z.p (sm q fun t => x (nb + t) * DH al q top U (st.getD t 0) a) 0 := by
    refine Cg.trans (Cg.sm (g := fun _ => 0) fun t ht => ?_) (Cg.of_eq (CS q))
    unfold Cg; rw [Int.sub_zero]; exact Int.dvd_mul_of_dvd_left (hq0 t ht)
   have h3 := h1.sub h2
   rwa [Int.add_sub_cancel, Int.sub_zero] at h3) b hb rfl
  intro l hl _
  rcases Nat.lt_or_ge l nb with h | h
  ·exact hn0 l h
  ·have := hq0 (l - nb) (by omega)
   rwa [show nb + (l - nb) = l by omega] at this
 ·obtain ⟨t, h1, h2, h3⟩ := hUof l hl
  have hwl : DH al q top U (st.getD (st.idxOf l) 0) = DH al q top U l := hwt l hl
  rw [hwl, h3, ← h2]
  exact W.img t h1 (by omega) i hi
 ·obtain ⟨t', h1, h2, h3⟩ := hUof _ (BF ht)
  show 0 ≤ DH al q top U (st.getD t 0) i ∧ DH al q top U (st.getD t 0) i < Z.p
  rw [h3]
  exact hUb t' h1 i hi
 ·refine List.pairwise_append.2 ⟨?_, ?_, fun a ha b hb => ?_⟩
  ·refine List.Pairwise.imp_of_mem (R := fun _ _ => True) (fun {a b} ha hb _ => .inr (.inl ⟨(List.mem_range'_1.1 ha).1, (List.mem_range'_1.1 hb).1⟩)) ?_
   exact List.pairwise_of_forall fun _ _ => trivial
  ·refine (M.ord.sublist hsub).imp_of_mem fun {a b} ha hb h => .inl ⟨M.lt (hsub.subset ha), M.lt (hsub.subset hb), h⟩
  ·exact .inr (.inr (.inr ⟨(List.mem_range'_1.1 ha).1, M.lt (hsub.subset hb), hbk⟩))
end Go.Proofs.YtdnelknieikbaaaGreat
namespace Go.Proofs.YtdnelknieikbaaaGreat
open Tryz
open Go.Eng Go.RowKit Go.Lin
def Wq (n : Nat) (vs : List Value) (k : Nat) : List Value := [.int .i64 ((n : Int) - 1 - k), vs.getD (n - 1 - k) undef]
theorem SN (g n : Nat) (v : Value) (vs : List Value) (h : Hp) (hG : Seg h [] ⟨g, 0, none⟩ [v]) (hR : RdL cV 1 h [] v vs) (hn : vs.length = n) (hn2 : n ≤ 1000000) : Wh Tryz.prog 134 [.pointer (some ⟨g, 0, none⟩)] h n (Wq n vs) := by
 intro lp X h1 ms hl hY h0
 show FnT _ _ #[.func (.yield lp) #[] #[], .pointer (some ⟨g, 0, none⟩)] _ _ _
 have hG := hG.le hl
 have hR := hR.up hl
 have hRn : ∀ h', h1.le h' → Rd h' [] v 1 n (vs.flatMap cV) := fun h' l => by
  have := (hR.up l).rd
  rwa [hn] at this
 refine Av func134 ntmps134 rfl rfl (fun w0 hw0 => ?_)
 simp only [A4]
 refine Ac (B8 (Ct (oL rfl underlying106 ((hG.at0 rfl).any)) rfl rfl rfl (Ct (AJ (hRn _ (Hp.le_refl _)).any rfl underlying106 rfl) rfl rfl rfl (Ct (oS rfl) rfl rfl rfl (Ct (EX rfl rfl) rfl rfl rfl (DD (Ab (Ag ?_))))))))
 refine AD (fun q s hh ms' => ∃ (k : Nat), q = n - k ∧ s = [(0, .func (.yield lp) #[] #[]), (1, .pointer (some ⟨g, 0, none⟩)), (3, .int .i64 ((n : Int) - 1 - k))] ∧ h1.le hh ∧ k ≤ n ∧ X k hh ms')
  (n - 0) [(0, .func (.yield lp) #[] #[]), (1, .pointer (some ⟨g, 0, none⟩)), (3, .int .i64 ((n : Int) - 1))] ⟨0, rfl, by rw [show ((n : Int) - 1 - (0 : Nat)) = (n : Int) - 1 by omega], Hp.le_refl _, by omega, h0⟩ Qs ?_
 rintro q s hh ms' ⟨k, rfl, rfl, lh, hk, hX⟩
 refine Ac (Ac (B8 (Ct (As rfl rfl) rfl rfl rfl (Ct (DU rfl rfl rfl) rfl rfl rfl (DD (Ab ?_))))))
 refine AF rfl (fun hlt => ?_) (fun hlt => ?_)
 ·have hkn : k < n := by omega
  have hG2 := hG.le lh
  have hR2 := hR.up lh
  have hi : n - 1 - k < vs.length := by omega
  have hc : ∀ ms, Cell hh ms ((Bl v).add ((n - 1 - k) * 1)) (vs.getD (n - 1 - k) undef) := fun ms => by
   rw [Ev hi]; exact hR2.any.cell0 hi rfl
  refine Ai (Ab (Ac (Ag (Ac (B8 (Ct (As rfl rfl) rfl rfl rfl (Ct (As rfl rfl) rfl rfl rfl (Ct (oL rfl underlying106 ((hG2.at0 rfl).any)) rfl rfl rfl (Ct (As rfl rfl) rfl rfl rfl (Ct (Ah (n - 1 - k) (hRn _ lh).any rfl underlying106 Cf rfl rfl (by omega) (by omega)) rfl rfl rfl (Ct (oL rfl underlying108 (hc _)) rfl rfl rfl (IF rfl rfl rfl (hY k hh ms' hkn lh hX) rfl rfl rfl (fun r h2 ms2 l2 hr => ?_)))))))))))))
  obtain ⟨rfl, hX2⟩ := hr
  refine Ct (CP rfl rfl) rfl rfl rfl (DD (Ab (Bb rfl (Ai (Aj (Ab (B8 (Ct (As rfl rfl) rfl rfl rfl (Ct (oS rfl) rfl rfl rfl (Ct (EX rfl rfl) rfl rfl rfl (DD ?_)))))))))))
  refine Al (n - (k + 1)) [(0, .func (.yield lp) #[] #[]), (1, .pointer (some ⟨g, 0, none⟩)), (3, .int .i64 ((n : Int) - 1 - k - 1))] (by omega) ⟨k + 1, rfl, by rw [show ((n : Int) - 1 - k - 1) = (n : Int) - 1 - (k + 1 : Nat) by omega], Hp.le_trans lh l2, by omega, hX2⟩ Qs
 ·obtain rfl : k = n := by omega
  refine Aw (Aa (Aa (Af ?_)))
  exact B6 rfl (hX)
theorem MR (v : Value) (n : Nat) (cs : List Value) (h : Hp) (hR : Rd h [] v 1 n cs) : FnT Tryz.prog 109 #[v] h [] (fun r h' ms' => h = h' ∧ ∃ g, r = .func (.func 134) #[] #[.pointer (some ⟨g, 0, none⟩)] ∧ ms' = [AX g 106 [v]]) := by
 refine Av func109 ntmps109 rfl rfl (fun w0 hw0 => ?_)
 simp only [A4]
 refine Ax (AS [_] rfl rfl (Rd.cells ‹_›) rfl rfl rfl (fun g1 => Qm rfl (B3 (Qx (CE rfl rfl rfl) rfl (Qm rfl (Aq (Ao ?_)))))))
 exact Am rfl rfl (⟨rfl, _, rfl, rfl⟩)
end Go.Proofs.YtdnelknieikbaaaGreat
namespace Go.Proofs.YtdnelknieikbaaaGreat
open Tryz
open Go.Eng Go.RowKit Go.Lin
def MQ (n : Nat) (pr : Nat → Bool) : Int := match (List.range n).find? pr with | some k => k | none => -1
theorem JA {n k : Nat} {pr : Nat → Bool} (hk : k < n) (h : pr k = true) (hno : ∀ j, j < k → pr j = false) : MQ n pr = k := by
 unfold MQ
 have : (List.range n).find? pr = some k := by
  rw [List.find?_range_eq_some]
  exact ⟨h, List.mem_range.2 hk, fun j hj => by rw [hno j hj]; rfl⟩
 rw [this]
theorem Jw {n : Nat} {pr : Nat → Bool} (hno : ∀ j, j < n → pr j = false) : MQ n pr = -1 := by
 unfold MQ
 have : (List.range n).find? pr = none := List.find?_eq_none.2 fun j hj => by rw [hno j (List.mem_range.1 hj)]; simp
 rw [this]
theorem OC (n d : Nat) (w : Nat → Nat → Int) (vl : Value) (cf : FuncId) (cs : List Value) (pr : Nat → Bool) (h : Hp) (hR : RdV h vl n d w) (hn : n ≤ 100000)
  (hc : ∀ xs w, (callFunc cf xs).run Tryz.prog w = .ok (.enter cf xs) w)
  (hp : ∀ k v, k < n → RdL cI 1 h [] v (vec d (w k)) → ∀ ms, Dq Tryz.prog cf ([] ++ [v] ++ cs).toArray h ms (.bool (pr k))) :
  FnT Tryz.prog 110 #[vl, .func (.func cf) #[] cs.toArray] h [] (fun r _ _ => r = .int .i64 (MQ n pr)) := by
 obtain ⟨vs, hvs, hRv, hRs⟩ := hR
 have hRn : Rd h [] vl 1 n (vs.flatMap cV) := by have := hRv.rd; rwa [hvs] at this
 refine Av func110 ntmps110 rfl rfl (fun w0 hw0 => ?_)
 simp only [A4]
 refine Ax (Qm rfl (Aq (Ac (Ax (Qm rfl (Qx (AJ hRn.any rfl underlying62 rfl) rfl (Qm rfl (Aq (Ag ?_)))))))))
 refine AD (fun q s h' ms' => ∃ (k : Nat), q = n - k ∧ s = [(0, vl), (1, .func (.func cf) #[] cs.toArray), (7, .int .i64 n), (8, .int .i64 k)] ∧ h = h' ∧ ms' = [] ∧ k ≤ n ∧ ∀ j, j < k → pr j = false)
  (n - 0) _ ⟨0, rfl, rfl, rfl, rfl, by omega, fun j hj => by omega⟩ Qs ?_
 rintro q s h' ms' ⟨k, rfl, rfl, rfl, rfl, hk, hno⟩
 refine Ax (Qm rfl (Aq (Ac ?_)))
 refine AF rfl (fun hlt => ?_) (fun hlt => ?_)
 ·have hkn : k < n := by omega
  have hkv : k < vs.length := by omega
  refine Ai (Ab (Ac (Ag (Ax (Qm rfl (Qm rfl (B3 (Qm rfl (Qm rfl (Qm rfl (Qx (Ah _ hRn.any rfl underlying62 BN rfl rfl rfl (by omega)) rfl (Ql rfl underlying24 (hRv.any.cell0 hkv rfl) (Qx (En rfl rfl hc rfl (hp k _ hkn (hRs k hkv) _)) rfl (Aq ?_))))))))))))))
  refine BJ rfl (fun hpk => ?_) (fun hpk => ?_)
  ·refine Ac (Ad (Qm rfl (Qm rfl (Aq (Ao (Ap (Ae (Ae (Ap (Ae ?_))))))))))
   exact Am rfl rfl (by rw [JA hkn hpk hno])
  ·refine Ai (Aj (Ab (Ad (Qx (oA rfl) rfl (Qm rfl (Ak ?_))))))
   refine Al (n - (k + 1)) _ (by omega) ⟨k + 1, rfl, rfl, rfl, rfl, by omega, fun j hj => ?_⟩ Qs
   rcases (by omega : j < k ∨ j = k) with h2 | rfl
   ·exact hno j h2
   ·exact hpk
 ·refine Aw (Aa (Aa (Af (Ab (Ax (Qm rfl (Aq (Ao ?_))))))))
  exact Am rfl rfl (by rw [Jw fun j hj => hno j (by omega)])
def Dm (r : Nat) (x : Nat → Int) (i : Nat) : Bool := decide (x i ≠ 0) && (List.range r).all fun j => decide (i < j → x j = 0)
theorem leads_iff {r i : Nat} {x : Nat → Int} : Dm r x i = true ↔ x i ≠ 0 ∧ ∀ j, i < j → j < r → x j = 0 := by
 unfold Dm
 rw [Bool.and_eq_true, decide_eq_true_iff, List.all_eq_true]
 exact ⟨fun ⟨h1, h2⟩ => ⟨h1, fun j h3 h4 => of_decide_eq_true (h2 j (List.mem_range.2 h4)) h3⟩, fun ⟨h1, h2⟩ => ⟨h1, fun j hj => decide_eq_true fun h3 => h2 j h3 (List.mem_range.1 hj)⟩⟩
theorem Te (r i : Nat) (x : Nat → Int) (v : Value) (g : Nat) (h : Hp) (hr : r ≤ 100000) (hi : i < r) (hR : RdL cI 1 h [] v (vec r x)) (hG : Seg h [] ⟨g, 0, none⟩ [.int .i64 i]) (ms : List Hp) :
  Dq Tryz.prog 111 ([] ++ [v] ++ [Value.pointer (some ⟨g, 0, none⟩)]).toArray h ms (.bool (Dm r x i)) := by
 refine Ds ?_ ms
 show FnT _ _ #[v, .pointer (some ⟨g, 0, none⟩)] _ _ _
 have hRn : Rd h [] v 1 r ((vec r x).flatMap cI) := by have := hR.rd; rwa [AQ] at this
 have hcell : ∀ ms, Cell h ms ((Bl v).add (i * 1)) (.int .i64 (x i)) := fun ms => (hR.any (ms := ms)).ev hi
 have hsub := hR.sub_ (i := i + 1) (j := r) (by omega) (by rw [AQ]; omega)
 have hz : (∀ y ∈ ((vec r x).drop (i + 1)).take (r - (i + 1)), y = 0) ↔ ∀ j, i < j → j < r → x j = 0 := by
  have e : ((vec r x).drop (i + 1)).take (r - (i + 1)) = (vec r x).drop (i + 1) := List.take_of_length_le (by simp [vec])
  rw [e]
  constructor
  ·intro h j h1 h2
   have hm : x j ∈ (vec r x).drop (i + 1) := by
    refine List.mem_iff_getElem.2 ⟨j - (i + 1), by simp [vec]; omega, ?_⟩
    rw [List.getElem_drop]
    simp [vec, show i + 1 + (j - (i + 1)) = j by omega]
   exact h _ hm
  ·intro h y hy
   obtain ⟨j, hj, rfl⟩ := List.mem_iff_getElem.1 hy
   rw [List.getElem_drop]
   simp [vec] at hj ⊢
   exact h _ (by omega) (by omega)
 refine Av func111 ntmps111 rfl rfl (fun w0 hw0 => ?_)
 simp only [A4]
 refine Ax (Qm rfl (B3 (Qm rfl (Ql rfl underlying3 ((hG.at0 rfl).any) (Qx (Ah (i) hRn.any rfl underlying24 A8 rfl rfl (by omega) (by omega)) rfl (Ql rfl underlying3 (hcell _) (Qm rfl (Qm rfl ?_))))))))
 refine AR (t := 9) rfl (fun hs => ?_) (fun hs => ?_)
 ·refine Qg (As rfl rfl) rfl (Qg (oL rfl underlying3 ((hG.at0 rfl).any)) rfl (Qg (oA rfl) rfl (Qg (C3 (i + 1) hRn.any rfl underlying24 A8 rfl rfl (by omega) (by omega)) rfl (Qg (AG rfl call69 rfl (UZ _ _ h hsub _)) rfl (Qm rfl (Qm rfl (Aq (Ao ?_))))))))
  have e1 : ∀ l : List Int, l = ((vec r x).drop (i + 1)).take (r - (i + 1)) → decide (∀ y ∈ l, y = 0) = Dm r x i := fun l hl => by
   subst hl
   rw [Bool.eq_iff_iff, decide_eq_true_iff, leads_iff, hz]
   exact ⟨fun h => ⟨hs, h⟩, fun h => h.2⟩
  exact Am rfl rfl (by rw [e1 _ rfl])
 ·refine Qk rfl (Qk rfl (Qk rfl (Qk rfl (Qk rfl (Qm rfl (Qm rfl (Aq (Ao ?_))))))))
  have e1 : Dm r x i = false := by
   cases h : Dm r x i with
   | false => rfl
   | true => exact absurd (leads_iff.1 h).1 hs
  exact Am rfl rfl (by rw [e1])
end Go.Proofs.YtdnelknieikbaaaGreat
namespace Go.Proofs.YtdnelknieikbaaaGreat
open Tryz
open Go.Eng Go.RowKit Go.Lin
variable {i q r : Nat} {top : Nat → Nat} {al : List Nat} {X : Nat → Nat → Int}
def kI (n : Int) : Value := .int .i64 n
def vB (b : Bool) : Value := .bool b
theorem NE : LS Tryz.prog 3 kI Dh where
 law := Maps.int_keyed underlying3
 inj := fun a b h => by unfold kI at h; cases h; rfl
 key := fun a h => ⟨_, Maps.keyOf_int_mk underlying3 (WalkArith.wf_i64 h)⟩
theorem VJ (w : World) : (zeroValue 4).run Tryz.prog w = .ok (vB false) w := by rfl
theorem HC {p : Int} {c : Nat} {A L : Nat → Nat → Int} {U : Nat → Nat → Int} (htop : ∀ t, t < q → top t < r ∧ X t (top t) = 1 ∧ (∀ i, top t < i → i < r → X t i = 0) ∧ ∀ t', t' < q → t' ≠ t → X t' (top t) = 0) {t : Nat} (ht : t < q) (hi : i < r) : Dm r (X t) i = true ↔ top t = i := by
 obtain ⟨h1, h2, h3, h4⟩ := htop t ht
 rw [leads_iff]
 constructor
 ·rintro ⟨h5, h6⟩
  rcases Nat.lt_trichotomy (top t) i with h | h | h
  ·exact absurd (h3 i h hi) h5
  ·exact h
  ·have := h6 (top t) h h1
   rw [h2] at this
   exact absurd this (by decide)
 ·rintro rfl
  exact ⟨by rw [h2]; decide, h3⟩
theorem NF (htop : ∀ t, t < q → top t < r ∧ X t (top t) = 1 ∧ (∀ i, top t < i → i < r → X t i = 0) ∧ ∀ t', t' < q → t' ≠ t → X t' (top t) = 0) (t t' : Nat) (h1 : t < q) (h2 : t' < q) (h : top t = top t') : t = t' := Classical.byContradiction fun hne => by
 have h3 := (htop t' h2).2.2.2 t h1 hne
 rw [← h, (htop t h1).2.1] at h3
 exact absurd h3 (by decide)
theorem Nh (htop : ∀ t, t < q → top t < r ∧ X t (top t) = 1 ∧ (∀ i, top t < i → i < r → X t i = 0) ∧ ∀ t', t' < q → t' ≠ t → X t' (top t) = 0) {t : Nat} (ht : t < q) (hi : i < r) (h : top t = i) : MQ q (fun t => Dm r (X t) i) = t :=
 JA ht ((HC (p := 0) (c := 0) (A := fun _ _ => 0) (L := fun _ _ => 0) (U := X) htop ht hi).2 h) fun j hj => by
  cases h2 : Dm r (X j) i with
  | false => rfl
  | true =>
   have h3 := (HC (p := 0) (c := 0) (A := fun _ _ => 0) (L := fun _ _ => 0) (U := X) htop (show j < q by omega) hi).1 h2
   have := NF htop t j ht (by omega) (by omega)
   omega
theorem UN (htop : ∀ t, t < q → top t < r ∧ X t (top t) = 1 ∧ (∀ i, top t < i → i < r → X t i = 0) ∧ ∀ t', t' < q → t' ≠ t → X t' (top t) = 0) (hi : i < r) (h : ∀ t, t < q → top t ≠ i) : MQ q (fun t => Dm r (X t) i) = -1 :=
 Jw fun j hj => by
  cases h2 : Dm r (X j) i with
  | false => rfl
  | true => exact absurd ((HC (p := 0) (c := 0) (A := fun _ _ => 0) (L := fun _ _ => 0) (U := X) htop hj hi).1 h2) (h j hj)
theorem UD {j : Nat} (hn : al.Nodup) (ht : ∀ t, t < q → top t < al.length) (hi : i < al.length) (hj : j < al.length) (h : j ≠ i) : EL al q top (i + 1) (al.getD j 0) = EL al q top i (al.getD j 0) := by
 rw [Bool.eq_iff_iff, stB_iff, stB_iff]
 constructor
 ·rintro ⟨t, h1, h2, h3⟩; exact ⟨t, h1, by omega, h3⟩
 ·rintro ⟨t, h1, h2, h3⟩
  have := Ef hn (ht t h1) hj h3
  exact ⟨t, h1, by omega, h3⟩
theorem Sx {l : Nat} (hno : ∀ t, t < q → top t ≠ i) : EL al q top (i + 1) l = EL al q top i l := by
 rw [Bool.eq_iff_iff, stB_iff, stB_iff]
 constructor
 ·rintro ⟨t, h1, h2, h3⟩; exact ⟨t, h1, by omega, h3⟩
 ·rintro ⟨t, h1, h2, h3⟩
  have := hno t h1
  exact ⟨t, h1, by omega, h3⟩
theorem Qd {S : Nat → SM} (h : i < al.length) : (al.map (A1 S)).getD i undef = A1 S (al.getD i 0) := by
 simp [List.getD, h]
theorem Vz (q r : Nat) (f : Nat → Nat) (h : ∀ t, t < q → f t < r) (hj : ∀ t t', t < q → t' < q → f t = f t' → t = t') : q ≤ r := by
 have h1 : ((List.range q).map f).Nodup := List.pairwise_map.2 (List.nodup_range.imp_of_mem fun hx hy hne he => hne (hj _ _ (List.mem_range.1 hx) (List.mem_range.1 hy) he))
 have h2 := h1.length_le_of_subset (l₂ := List.range r) fun x hx => by
  obtain ⟨t, ht, rfl⟩ := List.mem_map.1 hx
  exact List.mem_range.2 (h t (List.mem_range.1 ht))
 simpa using h2
theorem PR {S : Nat → SM} : ((al.map (A1 S)).drop 0).take (i - 0) = (al.take i).map (A1 S) := by
 rw [List.drop_zero, Nat.sub_zero, List.map_take]
theorem Ov {j : Nat} (h : j < i) : (al.take i).getD j 0 = al.getD j 0 := by
 simp [List.getD, List.getElem?_take, h]
def JB (Z : Zg) (k N : Nat) (S0 : Nat → SM) (al : List Nat) (q : Nat) (top : Nat → Nat) (U : Nat → Nat → Int) (gT : Nat) (g : Hp) (me : Hp) (m : Nat) (ms : List Hp) : Prop :=
 ∃ (S : Nat → SM) (mB mT : Hp) (T : List (Int × Bool)) (bs : List Nat), ms = [mT, mB, g, me] ∧ Bw Z k N S0 S al q top U m ∧ BagS Z.d N (Cx al q top U k m S) mB ∧ DI kI vB gT Dh mT T bs ∧ ∀ i, i < al.length → (Dg T (i : Int)).getD false = EL al q top m (al.getD i 0)
theorem LK (Z : Zg) (k N : Nat) (S0 : Nat → SM) (al en : List Nat) (gm : Nat) (va ve ev : Value) (me mB h : Hp) (hp : IsP Z.p) (hd : ∀ j, Z.d j ≤ 200) (hk : k ≤ 200) (hN : N ≤ 100000) (M : Mch Z k N S0 al en) (hb : Z.back k = true) (RA : RtM Z.p (Z.d k) (Z.d (k + 1)) (Z.mat k)) (hA : RdL cI 1 h [] ev (mat (Z.d k) (Z.d (k + 1)) (Z.mat k)))
  (ha : RdL cV 1 h [] va (al.map (A1 S0))) (hE : OwnL cV 1 108 me ve (en.map (A1 S0))) (B : BagS Z.d N S0 mB) :
  FnT Tryz.prog 90 #[.pointer (some ⟨gm, 0, none⟩), .agg #[.int .i64 Z.p, .int .i64 (Z.d k), .int .i64 (Z.d (k + 1)), ev]] h [mB, AX gm 132 [.int .i64 Z.p, .int .i64 k, va, ve], me] (fun r h' ms' => h.le h' ∧ ∃ (nb : Nat) (S' : Nat → SM) (al' en' : List Nat) (va' ve' : Value) (me' mB' : Hp), ms' = [mB', AX gm 132 [.int .i64 Z.p, .int .i64 ((k : Int) + 1), va', ve'], me'] ∧ nb ≤ 200 ∧ RdL cV 1 h' [] va' (al'.map (A1 S')) ∧ OwnL cV 1 108 me' ve' (en'.map (A1 S')) ∧ BagS Z.d (N + nb) S' mB' ∧ Mch Z (k + 1) (N + nb) S' al' en') := by
 have hbp := RA.bd
 have hFp := hp.fld
 have d1 := hd (k + 1)
 have d0 := hd k
 have hal := M.cnt_al
 have oev := hA.rd.one
 have oa := ha.rd.one
 refine Gd func90 ntmps90 rfl rfl (fun w0 hw0 => ?_)
 simp only [A4]
 refine Ax ?_
 refine AS [_] rfl rfl (by rfl) rfl rfl rfl (fun g2 => ?_)
 refine AS [_, _, _, _] rfl rfl (by rfl) rfl rfl rfl (fun g3 => ?_)
 refine Aq (AL fun h1 l1 hG3 => (AL fun h2 l2 hG2 => ?_))
 have l02 := Hp.le_trans l1 l2
 have hG3 := hG3.le l2
 have hA := hA.up l02
 have ha := ha.up l02
 refine PQ fun hap => ?_
 have hdj : mB.disj (AX gm 132 [.int .i64 Z.p, .int .i64 k, va, ve]) := (List.pairwise_cons.1 hap).1 _ (by simp)
 refine Tq (CV fun h4 l24 lm dM LM => (BX ?_))
 have lB := Hp.le_trans Hp.le_joinl lm
 have lM := Hp.le_trans (Hp.le_joinr hdj) lm
 have hA0 := hA
 have ha0 := ha
 have hG20 := hG2
 have hG30 := hG3
 have hG2 := hG2.le l24
 have hG3 := hG3.le l24
 have hA := hA.up l24
 have ha := ha.up l24
 have hMA := Seg.all (Seg.ofLe lM)
 have hA2 := Seg.all hG2
 have hA3 := Seg.all hG3
 refine Ax (Qm rfl (Aq ?_))
 refine Bv (fun s hh ms' => ∃ (es : List Value) (v4 : Value) (m4 : Hp), s = [(2, .pointer (some ⟨g2, 0, none⟩)), (3, .pointer (some ⟨g3, 0, none⟩)), (4, v4)] ∧ h4 = hh ∧ ms' = [m4, me] ∧ OwnL cV 1 24 m4 v4 es ∧ ImV h4 (Z.d k) al.length es (fun i => (S0 (al.getD i 0)).v k)) ?_ (fun s h ms hI => ?_)
 ·refine Ac (Ad (Ql rfl underlying130 (hA2 0 _ rfl _) (Qm rfl (Qf DL rfl (Ql rfl underlying106 (hMA 2 _ rfl _) (Qx (AJ (DC ha).any rfl underlying106 rfl) rfl (Qm rfl (Aq (Ag ?_)))))))))
  refine AD (fun n s hh ms' => ∃ (i : Nat) (es : List Value) (v4 : Value) (m4 : Hp), n = al.length - i ∧ s = [(2, .pointer (some ⟨g2, 0, none⟩)), (3, .pointer (some ⟨g3, 0, none⟩)), (4, v4), (23, va), (24, .int .i64 al.length), (25, .int .i64 i)] ∧ h4 = hh ∧ ms' = [m4, me] ∧ i ≤ al.length ∧ OwnL cV 1 24 m4 v4 es ∧ ImV h4 (Z.d k) i es (fun i => (S0 (al.getD i 0)).v k))
   (al.length - 0) _ ⟨0, [], _, _, rfl, rfl, rfl, rfl, by omega, OwnL.nil BK, ⟨rfl, fun t ht => by simp at ht⟩⟩ Qs ?_
  rintro n s hh ms' ⟨i, es, v4, m4, rfl, rfl, rfl, rfl, hi, hO4, hI4⟩
  refine Ax (Qm rfl (Aq (Ac ?_)))
  refine AF rfl (fun hlt => ?_) (fun hlt => ?_)
  ·have hil : i < al.length := Bx hlt
   have hsN : al.getD i 0 < N := M.lt (BF hil)
   have hsk : (S0 (al.getD i 0)).to = k := M.live _ (BF hil)
   have hcs : ∀ ms, Cell h4 ms ((Bl va).add (i * 1)) (A1 S0 (al.getD i 0)) := fun ms => Em ha.any hil
   obtain ⟨u, hu, hRu⟩ := SO Z.d _ _ _ _ h4 (B.rd lB hsN) (by omega)
   rw [hsk] at hRu
   have ou := hRu.rd.one
   refine Ai (Ab (Ac (Ag (Ax (Qx (Ah _ (DC ha).any rfl underlying106 Cf rfl rfl rfl (by omega)) rfl (Ql rfl underlying108 (hcs _) (Qm rfl (IA (Qm rfl (Qm rfl (Qx (AG rfl call107 rfl (hu _)) rfl (AB [_] rfl underlying62 BN rfl ((hRu.rd).cells) rfl rfl (by omega) rfl rfl rfl (fun g32 => ?_)))))))))))))
   have hesl : es.length ≤ 200 := by rw [hI4.1]; omega
   refine Ba 1 hO4 (RdL.one BK (List.Mem.head _) rfl) rfl underlying62 BN rfl (by omega) rfl rfl rfl (Cj ou) (by simp only [List.length_singleton]; omega) (by simp only [List.length_singleton]; omega) rfl rfl rfl (fun v5 m5 hO5 => ?_)
   refine Qm rfl (Ak (Aj (Ab (Ad (Qx (oA rfl) rfl (Qm rfl (Ak (A5 ?_))))))))
   refine Al (al.length - (i + 1)) _ (by omega) ⟨i + 1, es ++ [u], v5, m5, rfl, rfl, rfl, rfl, by omega, hO5, ?_⟩ Qs
   have := hI4.snoc (u := (S0 (al.getD i 0)).v k) hRu
   rwa [show Fq i (fun i => (S0 (al.getD i 0)).v k) ((S0 (al.getD i 0)).v k) = fun i => (S0 (al.getD i 0)).v k from IT i fun i => (S0 (al.getD i 0)).v k] at this
  ·obtain rfl : i = al.length := by omega
   refine Aw (Aa (Aa (Af ?_)))
   exact AA _ ⟨es, v4, m4, rfl, rfl, rfl, hO4, hI4⟩ Qs
 ·obtain ⟨es, v4, m4, rfl, rfl, rfl, hO4, hI4⟩ := hI
  refine Bg hO4 fun h5 l5 hR4 => ?_
  have hG2 := hG2.le l5
  have hG3 := hG3.le l5
  have hA := hA.up l5
  have ha := ha.up l5
  have hRV : RdV h5 v4 al.length (Z.d k) (fun i => (S0 (al.getD i 0)).v k) := (hI4.up l5).rd hR4
  have lB := Hp.le_trans lB l5
  have lM := Hp.le_trans lM l5
  have hMA := Seg.all (Seg.ofLe lM)
  have hA2 := Seg.all hG2
  have hA3 := Seg.all hG3
  have hLb : ∀ i, i < al.length → ∀ a, a < Z.d k → 0 ≤ (S0 (al.getD i 0)).v k a ∧ (S0 (al.getD i 0)).v k a < Z.p := fun i hi a ha => by
   have h1 := M.lt (BF hi)
   exact M.bd _ h1 k (by have := B.fr_to h1; rw [M.live _ (BF hi)] at this; omega) (by rw [M.live _ (BF hi)]; omega) a ha
  have RL : RtM Z.p (Z.d k) (Z.d k) (fun a j => (S0 (al.getD j 0)).v k a) := ⟨hp, by omega, by omega, fun a ha j hj => hLb j (by omega) a ha⟩
  have hIL : Ind Z.p (Z.d k) tt (Z.d k) (fun j a => (S0 (al.getD j 0)).v k a) := by
   have h1 := M.val.ind k (show k < k + 1 by omega)
   have hps : al.Perm (Df N ((Dr N S0).on k)) := FA M.nodup fun l => by
    constructor
    ·intro hl
     have h1 := M.lt hl
     have h2 := M.live l hl
     have h3 := B.fr_to h1
     exact ⟨h1, Dc.on_iff.2 ⟨by show (S0 l).fr ≤ k; omega, by show k ≤ (S0 l).to; omega⟩⟩
    ·rintro ⟨h1, h2⟩
     have h3 := (M.val.ends l h1).2
     have h4 := (Dc.on_iff.1 h2).2
     exact M.in_ h1 (by have h5 : (S0 l).to < k + 1 := h3; have h6 : k ≤ (S0 l).to := h4; omega)
   have h2 := FB hps h1
   rw [hal] at h2
   exact h2
  have hRV' : RdV h5 v4 (Z.d k) (Z.d k) (fun i => (S0 (al.getD i 0)).v k) := by have := hRV; rw [hal] at this; exact this
  refine Bv (fun s hh ms' => ∃ (q : Nat) (X U : Nat → Nat → Int) (vc vl : Value) (g7 g8 : Nat) (hx : Hp), s = [(2, .pointer (some ⟨g2, 0, none⟩)), (3, .pointer (some ⟨g3, 0, none⟩)), (7, .pointer (some ⟨g7, 0, none⟩)), (8, .pointer (some ⟨g8, 0, none⟩))] ∧ h5.le hh ∧ ms' = [AX g8 62 [vl], AX g7 62 [vc], me] ∧ hx.le hh ∧ hx.disj (mB.join (AX gm 132 [.int .i64 Z.p, .int .i64 k, va, ve])) ∧ Uq Z.p (Z.d k) (Z.d (k + 1)) (Z.mat k) (fun a j => (S0 (al.getD j 0)).v k a) q X U ∧ RdV hx vc q (Z.d k) X ∧ RdV hx vl q (Z.d (k + 1)) U) ?_ (fun s h ms hI => ?_)
  ·refine AW (n := 17) (bs := [true, true, true, true, true, true, true, true, false, false, false, false, false, false, false, false, false]) [true, true, true, true, true, true, true, true] Cd (by kernel_rfl) (by kernel_rfl) rfl rfl (Qp rfl (oG rfl underlying42 AI (Seg.any hG3)) (QL rfl underlying130 ((hG2.at0 rfl).any) (Qq rfl (QF EY rfl (QL rfl underlying3 (hMA 0 _ rfl _) (QF Bh rfl (QL rfl underlying3 (hA3 1 _ rfl _) (Qq rfl ?_))))))))
   unfold CD
   simp only [List.cons_append, List.nil_append]
   refine A2 [8, 13, 14] (by kernel_rfl) rfl ?_
   refine Az rfl ?_ ?_
   ·refine Qc call97 rfl (Bi Z.p (Z.d k) (Z.d k) (fun i => (S0 (al.getD i 0)).v k) v4 _ RA.i64 RA.rl RA.rl hRV') (fun x6 h6 ms6 l6 hF => ?_)
    obtain ⟨rfl, ec, mc, rfl, rfl, hOc⟩ := hF
    refine EB fun h7 l7 lc dc _ => ?_
    have hdc := Hp.disj_symm (Hp.disj_le dc (Hp.le_trans lm l5))
    refine Qa (A2 [9, 13, 14] (by kernel_rfl) rfl ?_)
    refine Az rfl ?_ ?_
    ·refine Qc call108 rfl (Cz (Hp.le_trans lm (Hp.le_trans l5 l7)) (Ci Z.p (Z.d k) (Z.d (k + 1)) (Z.mat k) (fun a j => (S0 (al.getD j 0)).v k a) ev ec _ RA RL d0 d1 hIL (hA0.up (Hp.le_minus (Hp.le_trans l24 (Hp.le_trans l5 l7)) dM)) (hOc.rdh (Hp.le_minus lc hdc)))) (fun x8 h8 ms8 l8 hF => ?_)
     obtain ⟨l8', hx, lx, dx, _, _, q, X, U, vc, vl, rfl, hLP, hRX, hRU, rfl⟩ := hF
     have ovc : vc.oneCell' = true := hRX.rdn.elim fun _ h => h.2.one
     have ovl : vl.oneCell' = true := hRU.rdn.elim fun _ h => h.2.one
     have lcur := Hp.le_trans l7 l8
     refine Qa (An 10 35 (by kernel_rfl) rfl (by assumption) rfl (As rfl rfl) (An 11 46 (by kernel_rfl) rfl (by assumption) rfl (AC rfl rfl rfl) (An 12 47 (by kernel_rfl) rfl (by assumption) rfl (AC rfl rfl rfl) (A2 [13, 14] (by kernel_rfl) rfl ?_))))
     refine Az rfl ?_ ?_
     ·refine BZ [.slice none 0 0] rfl Co rfl rfl (fun g7 => Qa (Qo 14 rfl (BZ [.slice none 0 0] rfl Co rfl rfl (fun g8 => Qa (Qo 15 rfl (AK 1 0 rfl Co rfl rfl (by assumption) rfl rfl (by decide) rfl rfl (Qa (Qo 16 rfl (AK 0 0 rfl Co rfl rfl (by assumption) rfl rfl (by decide) rfl rfl (Qa (Qe ?_)))))))))))
      exact AA _ ⟨q, X, U, vc, vl, g7, g8, hx, rfl, lcur, rfl, lx, dx, hLP, hRX, hRU⟩ Qs
     refine Az rfl ?_ ?_
     ·refine BZ [.slice none 0 0] rfl Co rfl rfl (fun g8 => Qa (Qo 13 rfl (BZ [.slice none 0 0] rfl Co rfl rfl (fun g7 => Qa (Qo 15 rfl (AK 0 0 rfl Co rfl rfl (by assumption) rfl rfl (by decide) rfl rfl (Qa (Qo 16 rfl (AK 1 0 rfl Co rfl rfl (by assumption) rfl rfl (by decide) rfl rfl (Qa (Qe ?_)))))))))))
      exact A9 (AA _ ⟨q, X, U, vc, vl, g7, g8, hx, rfl, lcur, rfl, lx, dx, hLP, hRX, hRU⟩ Qs)
     exact A3
    refine Az rfl ?_ ?_
    ·refine BZ [.slice none 0 0] rfl Co rfl rfl (fun g7 => Qa (A2 [9, 14] (by kernel_rfl) rfl ?_))
     refine Az rfl ?_ ?_
     ·refine Qc call108 rfl (Cz (Hp.le_trans lm (Hp.le_trans l5 l7)) (Ci Z.p (Z.d k) (Z.d (k + 1)) (Z.mat k) (fun a j => (S0 (al.getD j 0)).v k a) ev ec _ RA RL d0 d1 hIL (hA0.up (Hp.le_minus (Hp.le_trans l24 (Hp.le_trans l5 l7)) dM)) (hOc.rdh (Hp.le_minus lc hdc)))) (fun x8 h8 ms8 l8 hF => ?_)
      obtain ⟨l8', hx, lx, dx, _, _, q, X, U, vc, vl, rfl, hLP, hRX, hRU, rfl⟩ := hF
      have ovc : vc.oneCell' = true := hRX.rdn.elim fun _ h => h.2.one
      have ovl : vl.oneCell' = true := hRU.rdn.elim fun _ h => h.2.one
      have lcur := Hp.le_trans l7 l8
      refine Qa (An 10 35 (by kernel_rfl) rfl (by assumption) rfl (As rfl rfl) (An 11 46 (by kernel_rfl) rfl (by assumption) rfl (AC rfl rfl rfl) (An 12 47 (by kernel_rfl) rfl (by assumption) rfl (AC rfl rfl rfl) (Qo 14 rfl (BZ [.slice none 0 0] rfl Co rfl rfl (fun g8 => Qa (Qo 15 rfl (AK 1 0 rfl Co rfl rfl (by assumption) rfl rfl (by decide) rfl rfl (Qa (Qo 16 rfl (AK 0 0 rfl Co rfl rfl (by assumption) rfl rfl (by decide) rfl rfl (Qa (Qe ?_)))))))))))))
      exact AA _ ⟨q, X, U, vc, vl, g7, g8, hx, rfl, lcur, rfl, lx, dx, hLP, hRX, hRU⟩ Qs
     refine Az rfl ?_ ?_
     ·refine BZ [.slice none 0 0] rfl Co rfl rfl (fun g8 => Qa (Qo 9 rfl (Qc call108 rfl (Cz (Hp.le_trans lm (Hp.le_trans l5 l7)) (Ci Z.p (Z.d k) (Z.d (k + 1)) (Z.mat k) (fun a j => (S0 (al.getD j 0)).v k a) ev ec _ RA RL d0 d1 hIL (hA0.up (Hp.le_minus (Hp.le_trans l24 (Hp.le_trans l5 l7)) dM)) (hOc.rdh (Hp.le_minus lc hdc)))) (fun x8 h8 ms8 l8 hF => ?_))))
      obtain ⟨l8', hx, lx, dx, _, _, q, X, U, vc, vl, rfl, hLP, hRX, hRU, rfl⟩ := hF
      have ovc : vc.oneCell' = true := hRX.rdn.elim fun _ h => h.2.one
      have ovl : vl.oneCell' = true := hRU.rdn.elim fun _ h => h.2.one
      have lcur := Hp.le_trans l7 l8
      refine Qa (An 10 35 (by kernel_rfl) rfl (by assumption) rfl (As rfl rfl) (An 11 46 (by kernel_rfl) rfl (by assumption) rfl (AC rfl rfl rfl) (An 12 47 (by kernel_rfl) rfl (by assumption) rfl (AC rfl rfl rfl) (Qo 15 rfl (AK 1 0 rfl Co rfl rfl (by assumption) rfl rfl (by decide) rfl rfl (Qa (Qo 16 rfl (AK 0 0 rfl Co rfl rfl (by assumption) rfl rfl (by decide) rfl rfl (Qa (Qe ?_))))))))))
      exact AA _ ⟨q, X, U, vc, vl, g7, g8, hx, rfl, lcur, rfl, lx, dx, hLP, hRX, hRU⟩ Qs
     exact A3
    refine Az rfl ?_ ?_
    ·refine BZ [.slice none 0 0] rfl Co rfl rfl (fun g8 => Qa (A2 [9, 13] (by kernel_rfl) rfl ?_))
     refine Az rfl ?_ ?_
     ·refine Qc call108 rfl (Cz (Hp.le_trans lm (Hp.le_trans l5 l7)) (Ci Z.p (Z.d k) (Z.d (k + 1)) (Z.mat k) (fun a j => (S0 (al.getD j 0)).v k a) ev ec _ RA RL d0 d1 hIL (hA0.up (Hp.le_minus (Hp.le_trans l24 (Hp.le_trans l5 l7)) dM)) (hOc.rdh (Hp.le_minus lc hdc)))) (fun x8 h8 ms8 l8 hF => ?_)
      obtain ⟨l8', hx, lx, dx, _, _, q, X, U, vc, vl, rfl, hLP, hRX, hRU, rfl⟩ := hF
      have ovc : vc.oneCell' = true := hRX.rdn.elim fun _ h => h.2.one
      have ovl : vl.oneCell' = true := hRU.rdn.elim fun _ h => h.2.one
      have lcur := Hp.le_trans l7 l8
      refine Qa (An 10 35 (by kernel_rfl) rfl (by assumption) rfl (As rfl rfl) (An 11 46 (by kernel_rfl) rfl (by assumption) rfl (AC rfl rfl rfl) (An 12 47 (by kernel_rfl) rfl (by assumption) rfl (AC rfl rfl rfl) (Qo 13 rfl (BZ [.slice none 0 0] rfl Co rfl rfl (fun g7 => Qa (Qo 15 rfl (AK 0 0 rfl Co rfl rfl (by assumption) rfl rfl (by decide) rfl rfl (Qa (Qo 16 rfl (AK 1 0 rfl Co rfl rfl (by assumption) rfl rfl (by decide) rfl rfl (Qa (Qe ?_)))))))))))))
      exact A9 (AA _ ⟨q, X, U, vc, vl, g7, g8, hx, rfl, lcur, rfl, lx, dx, hLP, hRX, hRU⟩ Qs)
     refine Az rfl ?_ ?_
     ·refine BZ [.slice none 0 0] rfl Co rfl rfl (fun g7 => Qa (Qo 9 rfl (Qc call108 rfl (Cz (Hp.le_trans lm (Hp.le_trans l5 l7)) (Ci Z.p (Z.d k) (Z.d (k + 1)) (Z.mat k) (fun a j => (S0 (al.getD j 0)).v k a) ev ec _ RA RL d0 d1 hIL (hA0.up (Hp.le_minus (Hp.le_trans l24 (Hp.le_trans l5 l7)) dM)) (hOc.rdh (Hp.le_minus lc hdc)))) (fun x8 h8 ms8 l8 hF => ?_))))
      obtain ⟨l8', hx, lx, dx, _, _, q, X, U, vc, vl, rfl, hLP, hRX, hRU, rfl⟩ := hF
      have ovc : vc.oneCell' = true := hRX.rdn.elim fun _ h => h.2.one
      have ovl : vl.oneCell' = true := hRU.rdn.elim fun _ h => h.2.one
      have lcur := Hp.le_trans l7 l8
      refine Qa (An 10 35 (by kernel_rfl) rfl (by assumption) rfl (As rfl rfl) (An 11 46 (by kernel_rfl) rfl (by assumption) rfl (AC rfl rfl rfl) (An 12 47 (by kernel_rfl) rfl (by assumption) rfl (AC rfl rfl rfl) (Qo 15 rfl (AK 0 0 rfl Co rfl rfl (by assumption) rfl rfl (by decide) rfl rfl (Qa (Qo 16 rfl (AK 1 0 rfl Co rfl rfl (by assumption) rfl rfl (by decide) rfl rfl (Qa (Qe ?_))))))))))
      exact A9 (AA _ ⟨q, X, U, vc, vl, g7, g8, hx, rfl, lcur, rfl, lx, dx, hLP, hRX, hRU⟩ Qs)
     exact A3
    exact A3
   refine Az rfl ?_ ?_
   ·refine BZ [.slice none 0 0] rfl Co rfl rfl (fun g7 => Qw (A2 [8, 14] (by kernel_rfl) rfl ?_))
    refine Az rfl ?_ ?_
    ·refine Qc call97 rfl (Bi Z.p (Z.d k) (Z.d k) (fun i => (S0 (al.getD i 0)).v k) v4 _ RA.i64 RA.rl RA.rl hRV') (fun x6 h6 ms6 l6 hF => ?_)
     obtain ⟨rfl, ec, mc, rfl, rfl, hOc⟩ := hF
     refine EB fun h7 l7 lc dc _ => ?_
     have hdc := Hp.disj_symm (Hp.disj_le dc (Hp.le_trans lm l5))
     refine Qa (A2 [9, 14] (by kernel_rfl) rfl ?_)
     refine Az rfl ?_ ?_
     ·refine Qc call108 rfl (Cz (Hp.le_trans lm (Hp.le_trans l5 l7)) (Ci Z.p (Z.d k) (Z.d (k + 1)) (Z.mat k) (fun a j => (S0 (al.getD j 0)).v k a) ev ec _ RA RL d0 d1 hIL (hA0.up (Hp.le_minus (Hp.le_trans l24 (Hp.le_trans l5 l7)) dM)) (hOc.rdh (Hp.le_minus lc hdc)))) (fun x8 h8 ms8 l8 hF => ?_)
      obtain ⟨l8', hx, lx, dx, _, _, q, X, U, vc, vl, rfl, hLP, hRX, hRU, rfl⟩ := hF
      have ovc : vc.oneCell' = true := hRX.rdn.elim fun _ h => h.2.one
      have ovl : vl.oneCell' = true := hRU.rdn.elim fun _ h => h.2.one
      have lcur := Hp.le_trans l7 l8
      refine Qa (An 10 35 (by kernel_rfl) rfl (by assumption) rfl (As rfl rfl) (An 11 46 (by kernel_rfl) rfl (by assumption) rfl (AC rfl rfl rfl) (An 12 47 (by kernel_rfl) rfl (by assumption) rfl (AC rfl rfl rfl) (Qo 14 rfl (BZ [.slice none 0 0] rfl Co rfl rfl (fun g8 => Qa (Qo 15 rfl (AK 1 0 rfl Co rfl rfl (by assumption) rfl rfl (by decide) rfl rfl (Qa (Qo 16 rfl (AK 0 0 rfl Co rfl rfl (by assumption) rfl rfl (by decide) rfl rfl (Qa (Qe ?_)))))))))))))
      exact AA _ ⟨q, X, U, vc, vl, g7, g8, hx, rfl, lcur, rfl, lx, dx, hLP, hRX, hRU⟩ Qs
     refine Az rfl ?_ ?_
     ·refine BZ [.slice none 0 0] rfl Co rfl rfl (fun g8 => Qa (Qo 9 rfl (Qc call108 rfl (Cz (Hp.le_trans lm (Hp.le_trans l5 l7)) (Ci Z.p (Z.d k) (Z.d (k + 1)) (Z.mat k) (fun a j => (S0 (al.getD j 0)).v k a) ev ec _ RA RL d0 d1 hIL (hA0.up (Hp.le_minus (Hp.le_trans l24 (Hp.le_trans l5 l7)) dM)) (hOc.rdh (Hp.le_minus lc hdc)))) (fun x8 h8 ms8 l8 hF => ?_))))
      obtain ⟨l8', hx, lx, dx, _, _, q, X, U, vc, vl, rfl, hLP, hRX, hRU, rfl⟩ := hF
      have ovc : vc.oneCell' = true := hRX.rdn.elim fun _ h => h.2.one
      have ovl : vl.oneCell' = true := hRU.rdn.elim fun _ h => h.2.one
      have lcur := Hp.le_trans l7 l8
      refine Qa (An 10 35 (by kernel_rfl) rfl (by assumption) rfl (As rfl rfl) (An 11 46 (by kernel_rfl) rfl (by assumption) rfl (AC rfl rfl rfl) (An 12 47 (by kernel_rfl) rfl (by assumption) rfl (AC rfl rfl rfl) (Qo 15 rfl (AK 1 0 rfl Co rfl rfl (by assumption) rfl rfl (by decide) rfl rfl (Qa (Qo 16 rfl (AK 0 0 rfl Co rfl rfl (by assumption) rfl rfl (by decide) rfl rfl (Qa (Qe ?_))))))))))
      exact AA _ ⟨q, X, U, vc, vl, g7, g8, hx, rfl, lcur, rfl, lx, dx, hLP, hRX, hRU⟩ Qs
     exact A3
    refine Az rfl ?_ ?_
    ·refine BZ [.slice none 0 0] rfl Co rfl rfl (fun g8 => Qw (Qo 8 rfl (Qc call97 rfl (Bi Z.p (Z.d k) (Z.d k) (fun i => (S0 (al.getD i 0)).v k) v4 _ RA.i64 RA.rl RA.rl hRV') (fun x6 h6 ms6 l6 hF => ?_))))
     obtain ⟨rfl, ec, mc, rfl, rfl, hOc⟩ := hF
     refine EB fun h7 l7 lc dc _ => ?_
     have hdc := Hp.disj_symm (Hp.disj_le dc (Hp.le_trans lm l5))
     refine Qa (Qo 9 rfl (Qc call108 rfl (Cz (Hp.le_trans lm (Hp.le_trans l5 l7)) (Ci Z.p (Z.d k) (Z.d (k + 1)) (Z.mat k) (fun a j => (S0 (al.getD j 0)).v k a) ev ec _ RA RL d0 d1 hIL (hA0.up (Hp.le_minus (Hp.le_trans l24 (Hp.le_trans l5 l7)) dM)) (hOc.rdh (Hp.le_minus lc hdc)))) (fun x8 h8 ms8 l8 hF => ?_)))
     obtain ⟨l8', hx, lx, dx, _, _, q, X, U, vc, vl, rfl, hLP, hRX, hRU, rfl⟩ := hF
     have ovc : vc.oneCell' = true := hRX.rdn.elim fun _ h => h.2.one
     have ovl : vl.oneCell' = true := hRU.rdn.elim fun _ h => h.2.one
     have lcur := Hp.le_trans l7 l8
     refine Qa (An 10 35 (by kernel_rfl) rfl (by assumption) rfl (As rfl rfl) (An 11 46 (by kernel_rfl) rfl (by assumption) rfl (AC rfl rfl rfl) (An 12 47 (by kernel_rfl) rfl (by assumption) rfl (AC rfl rfl rfl) (Qo 15 rfl (AK 1 0 rfl Co rfl rfl (by assumption) rfl rfl (by decide) rfl rfl (Qa (Qo 16 rfl (AK 0 0 rfl Co rfl rfl (by assumption) rfl rfl (by decide) rfl rfl (Qa (Qe ?_))))))))))
     exact AA _ ⟨q, X, U, vc, vl, g7, g8, hx, rfl, lcur, rfl, lx, dx, hLP, hRX, hRU⟩ Qs
    exact A3
   refine Az rfl ?_ ?_
   ·refine BZ [.slice none 0 0] rfl Co rfl rfl (fun g8 => Qw (A2 [8, 13] (by kernel_rfl) rfl ?_))
    refine Az rfl ?_ ?_
    ·refine Qc call97 rfl (Bi Z.p (Z.d k) (Z.d k) (fun i => (S0 (al.getD i 0)).v k) v4 _ RA.i64 RA.rl RA.rl hRV') (fun x6 h6 ms6 l6 hF => ?_)
     obtain ⟨rfl, ec, mc, rfl, rfl, hOc⟩ := hF
     refine EB fun h7 l7 lc dc _ => ?_
     have hdc := Hp.disj_symm (Hp.disj_le dc (Hp.le_trans lm l5))
     refine Qa (A2 [9, 13] (by kernel_rfl) rfl ?_)
     refine Az rfl ?_ ?_
     ·refine Qc call108 rfl (Cz (Hp.le_trans lm (Hp.le_trans l5 l7)) (Ci Z.p (Z.d k) (Z.d (k + 1)) (Z.mat k) (fun a j => (S0 (al.getD j 0)).v k a) ev ec _ RA RL d0 d1 hIL (hA0.up (Hp.le_minus (Hp.le_trans l24 (Hp.le_trans l5 l7)) dM)) (hOc.rdh (Hp.le_minus lc hdc)))) (fun x8 h8 ms8 l8 hF => ?_)
      obtain ⟨l8', hx, lx, dx, _, _, q, X, U, vc, vl, rfl, hLP, hRX, hRU, rfl⟩ := hF
      have ovc : vc.oneCell' = true := hRX.rdn.elim fun _ h => h.2.one
      have ovl : vl.oneCell' = true := hRU.rdn.elim fun _ h => h.2.one
      have lcur := Hp.le_trans l7 l8
      refine Qa (An 10 35 (by kernel_rfl) rfl (by assumption) rfl (As rfl rfl) (An 11 46 (by kernel_rfl) rfl (by assumption) rfl (AC rfl rfl rfl) (An 12 47 (by kernel_rfl) rfl (by assumption) rfl (AC rfl rfl rfl) (Qo 13 rfl (BZ [.slice none 0 0] rfl Co rfl rfl (fun g7 => Qa (Qo 15 rfl (AK 0 0 rfl Co rfl rfl (by assumption) rfl rfl (by decide) rfl rfl (Qa (Qo 16 rfl (AK 1 0 rfl Co rfl rfl (by assumption) rfl rfl (by decide) rfl rfl (Qa (Qe ?_)))))))))))))
      exact A9 (AA _ ⟨q, X, U, vc, vl, g7, g8, hx, rfl, lcur, rfl, lx, dx, hLP, hRX, hRU⟩ Qs)
     refine Az rfl ?_ ?_
     ·refine BZ [.slice none 0 0] rfl Co rfl rfl (fun g7 => Qa (Qo 9 rfl (Qc call108 rfl (Cz (Hp.le_trans lm (Hp.le_trans l5 l7)) (Ci Z.p (Z.d k) (Z.d (k + 1)) (Z.mat k) (fun a j => (S0 (al.getD j 0)).v k a) ev ec _ RA RL d0 d1 hIL (hA0.up (Hp.le_minus (Hp.le_trans l24 (Hp.le_trans l5 l7)) dM)) (hOc.rdh (Hp.le_minus lc hdc)))) (fun x8 h8 ms8 l8 hF => ?_))))
      obtain ⟨l8', hx, lx, dx, _, _, q, X, U, vc, vl, rfl, hLP, hRX, hRU, rfl⟩ := hF
      have ovc : vc.oneCell' = true := hRX.rdn.elim fun _ h => h.2.one
      have ovl : vl.oneCell' = true := hRU.rdn.elim fun _ h => h.2.one
      have lcur := Hp.le_trans l7 l8
      refine Qa (An 10 35 (by kernel_rfl) rfl (by assumption) rfl (As rfl rfl) (An 11 46 (by kernel_rfl) rfl (by assumption) rfl (AC rfl rfl rfl) (An 12 47 (by kernel_rfl) rfl (by assumption) rfl (AC rfl rfl rfl) (Qo 15 rfl (AK 0 0 rfl Co rfl rfl (by assumption) rfl rfl (by decide) rfl rfl (Qa (Qo 16 rfl (AK 1 0 rfl Co rfl rfl (by assumption) rfl rfl (by decide) rfl rfl (Qa (Qe ?_))))))))))
      exact A9 (AA _ ⟨q, X, U, vc, vl, g7, g8, hx, rfl, lcur, rfl, lx, dx, hLP, hRX, hRU⟩ Qs)
     exact A3
    refine Az rfl ?_ ?_
    ·refine BZ [.slice none 0 0] rfl Co rfl rfl (fun g7 => Qw (Qo 8 rfl (Qc call97 rfl (Bi Z.p (Z.d k) (Z.d k) (fun i => (S0 (al.getD i 0)).v k) v4 _ RA.i64 RA.rl RA.rl hRV') (fun x6 h6 ms6 l6 hF => ?_))))
     obtain ⟨rfl, ec, mc, rfl, rfl, hOc⟩ := hF
     refine EB fun h7 l7 lc dc _ => ?_
     have hdc := Hp.disj_symm (Hp.disj_le dc (Hp.le_trans lm l5))
     refine Qa (Qo 9 rfl (Qc call108 rfl (Cz (Hp.le_trans lm (Hp.le_trans l5 l7)) (Ci Z.p (Z.d k) (Z.d (k + 1)) (Z.mat k) (fun a j => (S0 (al.getD j 0)).v k a) ev ec _ RA RL d0 d1 hIL (hA0.up (Hp.le_minus (Hp.le_trans l24 (Hp.le_trans l5 l7)) dM)) (hOc.rdh (Hp.le_minus lc hdc)))) (fun x8 h8 ms8 l8 hF => ?_)))
     obtain ⟨l8', hx, lx, dx, _, _, q, X, U, vc, vl, rfl, hLP, hRX, hRU, rfl⟩ := hF
     have ovc : vc.oneCell' = true := hRX.rdn.elim fun _ h => h.2.one
     have ovl : vl.oneCell' = true := hRU.rdn.elim fun _ h => h.2.one
     have lcur := Hp.le_trans l7 l8
     refine Qa (An 10 35 (by kernel_rfl) rfl (by assumption) rfl (As rfl rfl) (An 11 46 (by kernel_rfl) rfl (by assumption) rfl (AC rfl rfl rfl) (An 12 47 (by kernel_rfl) rfl (by assumption) rfl (AC rfl rfl rfl) (Qo 15 rfl (AK 0 0 rfl Co rfl rfl (by assumption) rfl rfl (by decide) rfl rfl (Qa (Qo 16 rfl (AK 1 0 rfl Co rfl rfl (by assumption) rfl rfl (by decide) rfl rfl (Qa (Qe ?_))))))))))
     exact A9 (AA _ ⟨q, X, U, vc, vl, g7, g8, hx, rfl, lcur, rfl, lx, dx, hLP, hRX, hRU⟩ Qs)
    exact A3
   exact A3
  ·obtain ⟨q, X, U, vc, vl, g7, g8, hx, rfl, l6, rfl, lx, dx, hLP, hRX, hRU⟩ := hI
   obtain ⟨top, htop⟩ := hLP.top
   have htl : ∀ t, t < q → top t < al.length := fun t ht => by rw [hal]; exact (htop t ht).1
   have hti : ∀ t t', t < q → t' < q → top t = top t' → t = t' := fun t t' h1 h2 h3 => NF htop t t' h1 h2 h3
   have hq : q ≤ al.length := Vz q _ top htl hti
   refine F6 LM (Hp.le_trans lm (Hp.le_trans l5 l6)) fun h6 q6 b6 => ?_
   have hRX := hRX.up (b6 _ lx dx)
   have hRU := hRU.up (b6 _ lx dx)
   have l26 := b6 _ (Hp.le_trans l24 (Hp.le_trans l5 l6)) dM
   refine Il hdj (Cu 2 rfl (AL fun h7 l7 hG8 => (Cu 2 rfl (AL fun h8 l8 hG7 => ?_))))
   have hG8 := hG8.le l8
   have l78 := Hp.le_trans l7 l8
   have hRX := hRX.up l78
   have hRU := hRU.up l78
   have l28 := Hp.le_trans l26 l78
   have hG2 := hG20.le l28
   have hG3 := hG30.le l28
   have hA := hA0.up l28
   have ha := ha0.up l28
   refine Ax (Gl (K := kI) (V := vB) (Ok := Dh) rfl rfl rfl rfl (fun gT mT0 OT0 => BZ [.map none] rfl Ul rfl rfl (fun g9 => ?_)))
   refine AK 0 0 rfl Ul rfl rfl (by rfl) rfl rfl (by decide) rfl rfl ?_
   refine Aq (AL fun h9 l9 hG9 => ?_)
   have hRX := hRX.up l9
   have hRU := hRU.up l9
   have l29 := Hp.le_trans l28 l9
   have hG2 := hG2.le l9
   have hG7 := hG7.le l9
   have hG8 := hG8.le l9
   have ha := ha.up l9
   refine Ac (Ax (Ql rfl underlying130 ((hG2.at0 rfl).any) (Qm rfl (Qf DL rfl (Ql rfl underlying106 (Cell.blk 2 (k := 2) rfl rfl) (Qc call109 rfl (MR va al.length _ h9 (DC ha)) (fun vf h10 ms10 l10 hF => ?_)))))))
   obtain ⟨rfl, gb, rfl, rfl⟩ := hF
   refine Aq (Ag (AL fun h10 l10 hGb => ?_))
   have hRX := hRX.up l10
   have hRU := hRU.up l10
   have l210 := Hp.le_trans l29 l10
   have hG2 := hG2.le l10
   have hG7 := hG7.le l10
   have hG8 := hG8.le l10
   have hG9 := hG9.le l10
   have ha := ha.up l10
   have hI := SN gb al.length va (al.map (A1 S0)) h10 hGb ha E8 (by omega)
   generalize hgb : AX gm 132 [.int .i64 Z.p, .int .i64 k, va, ve] = bg
   refine Fk (fun kk hh ms => JB Z k N S0 al q top U gT bg me (al.length - kk) ms) (fun kk s1 hh ms => ∃ (g10 : Nat) (ms0 : List Hp), s1 = [(2, .pointer (some ⟨g2, 0, none⟩)), (3, .pointer (some ⟨g3, 0, none⟩)), (7, .pointer (some ⟨g7, 0, none⟩)), (8, .pointer (some ⟨g8, 0, none⟩)), (9, .pointer (some ⟨g9, 0, none⟩)), (10, .pointer (some ⟨g10, 0, none⟩)), (11, A1 S0 (al.getD (al.length - 1 - kk) 0))] ∧ ms = AX g10 3 [.int .i64 ((al.length - 1 - kk : Nat) : Int)] :: ms0 ∧ JB Z k N S0 al q top U gT bg me (al.length - kk) ms0) rfl call134 hI (fun k => rfl) rfl ?_ ?_ ?_ ?_
   ·refine ⟨S0, mB, mT0, [], [], rfl, Bw.start M htl, ?_, OT0, fun i hi => ?_⟩
    ·rw [K3 htl (by omega)]; exact B
    ·rw [F8 M.nodup htl (by omega) hi]; rfl
   ·rintro w1 kk hh ms1 hkk lh hJ
    refine DW (BV (by kernel_rfl) (BZ [.int .i64 0] rfl A8 rfl rfl (fun g10 => ?_)))
    refine AK 0 0 rfl A8 rfl rfl (by rfl) rfl rfl (by decide) rfl rfl ?_
    refine Ak (CK (BV (by kernel_rfl) (Qm rfl (Ak ?_))))
    refine AA _ ⟨g10, ms1, rfl, ?_, hJ⟩ ⟨rfl, rfl, rfl, rfl, rfl, rfl, ?_, trivial⟩
    ·show AX g10 3 [.int .i64 ((al.length : Int) - 1 - kk)] :: ms1 = _
     rw [show ((al.length : Int) - 1 - kk) = ((al.length - 1 - kk : Nat) : Int) by omega]
    ·show some ((al.map (A1 S0)).getD (al.length - 1 - kk) undef) = some (A1 S0 (al.getD (al.length - 1 - kk) 0))
     rw [Qd (by omega)]
   ·rintro w1 kk s1 hh ms1 hkk lh ⟨g10, ms0, rfl, rfl, S, mB, mT, T, bs, rfl, W, B, OT, hT⟩
    obtain ⟨i, hi⟩ : ∃ i, i = al.length - 1 - kk := ⟨_, rfl⟩
    have e1 : al.length - kk = i + 1 := by omega
    have e2 : al.length - (kk + 1) = i := by omega
    have hil : i < al.length := by omega
    rw [← hi]
    rw [e1] at W B hT
    rw [e2]
    refine J5 fun h11 l11 lg10 _ _ => (Qu 2 rfl (J5 fun h12 l12 lG dG LG => ?_))
    have lh12 := Hp.le_trans lh (Hp.le_trans l11 l12)
    have hRX := hRX.up lh12
    have hRU := hRU.up lh12
    have hG2 := hG2.le lh12
    have hG7 := hG7.le lh12
    have hG8 := hG8.le lh12
    have hG9 := hG9.le lh12
    have ha := ha.up lh12
    have hG10 := Seg.ofLe (Hp.le_trans lg10 l12)
    have hA2 := Seg.all hG2
    have hA10 := Seg.all hG10
    have hAg := Seg.all (Seg.ofLe (h := h12) (by rw [hgb]; exact lG))
    refine EV (DW (BV (by kernel_rfl) (Ql rfl underlying62 ((hG7.at0 rfl).any) (Qx (CE rfl rfl rfl) rfl (Qx (AG rfl call110 rfl (Ds (OC q (Z.d k) X vc 111 [.pointer (some ⟨g10, 0, none⟩)] (fun t => Dm (Z.d k) (X t) i) h12 hRX (by omega) call111 fun t v ht hv ms => Te (Z.d k) i (X t) v g10 h12 (by omega) (by omega) hv hG10 ms) _)) rfl (Qm rfl (Ak (CK (DW (DW (BV (by kernel_rfl) (Qm rfl (Qm rfl (Ak (CK ?_)))))))))))))))
    refine Uf rfl (fun hneg => ?_) (fun hneg => ?_)
    ·have hno : ∀ t, t < q → top t ≠ i := fun t ht he => by
      rw [Nh htop ht (by omega) he] at hneg
      omega
     refine N2 (Aa (Af (E1 LG lG fun h13 l13 b13 => (CF (ms' := [mT, mB, bg, me]) ((List.Perm.swap mT bg [mB, me]).trans (List.Perm.cons mT (List.Perm.swap mB bg [me]))) ?_))))
     refine AA [] ⟨S, mB, mT, T, bs, rfl, W.skip hno, ?_, OT, fun j hj => ?_⟩ trivial
     ·rw [← Mo hno]; exact B
     ·rw [← Sx hno]; exact hT j hj
    ·obtain ⟨t, ht, hti'⟩ : ∃ t, t < q ∧ top t = i := Classical.byContradiction fun hno => hneg (by
      rw [UN htop (by omega) fun t ht he => hno ⟨t, ht, he⟩]; decide)
     rw [Nh htop ht (by omega) hti']
     refine Ny (CK ?_)
     have hsub := ha.sub_ (i := 0) (j := i) (by omega) (by rw [E8]; omega)
     rw [PR] at hsub
     have hsl : (al.take i).length = i := by rw [List.length_take]; omega
     have hsR : ∀ h', h12.le h' → Rd h' [] (Ch 1 va 0 i) 1 i (((al.take i).map (A1 S0)).flatMap cV) := fun h' l => by
      have := DC (hsub.up l)
      rwa [hsl] at this
     obtain ⟨vs, hvs, hRv, hRs⟩ := hRX
     have htv : t < vs.length := by omega
     have hRvn : Rd h12 [] vc 1 q (vs.flatMap cV) := by have := hRv.rd; rwa [hvs] at this
     have hRt := hRs t htv
     have hRtn : Rd h12 [] vs[t] 1 (Z.d k) ((vec (Z.d k) (X t)).flatMap cI) := by have := hRt.rd; rwa [AQ] at this
     obtain ⟨us, hus, hRw, hRus⟩ := hRU
     have htu : t < us.length := by omega
     have hRwn : Rd h12 [] vl 1 q (us.flatMap cV) := by have := hRw.rd; rwa [hus] at this
     have hsN : al.getD i 0 < N := M.lt (BF hil)
     refine DW (DW (KD (n := 8) (bs := [true, true, true, true, true, true, true, true]) [true, true, true, true, true, true, true, true] Cd (by kernel_rfl) (by kernel_rfl) rfl rfl (by kernel_rfl) (QL rfl underlying130 (hA2 0 _ rfl _) (Qq rfl (QF DL rfl (QL rfl underlying106 (hAg 2 _ rfl _) (QL rfl underlying3 (hA10 0 _ rfl _) (Qp rfl (EA (i) (DC ha).any rfl underlying106 Cf rfl rfl (by omega) (by omega)) (Qp rfl (AJ (hsR _ (Hp.le_refl _)).any rfl underlying106 rfl) (Qq rfl ?_))))))))))
     unfold CD
     simp only [List.cons_append, List.nil_append]
     refine Qe (CK (EV (Qu 1 rfl ?_)))
     refine Uc (fun n s hh ms => ∃ (j : Nat) (S' : Nat → SM) (mB : Hp), n = i - j ∧ s = [(2, .pointer (some ⟨g2, 0, none⟩)), (3, .pointer (some ⟨g3, 0, none⟩)), (7, .pointer (some ⟨g7, 0, none⟩)), (8, .pointer (some ⟨g8, 0, none⟩)), (9, .pointer (some ⟨g9, 0, none⟩)), (10, .pointer (some ⟨g10, 0, none⟩)), (11, A1 S0 (al.getD i 0)), (12, .int .i64 t), (66, Ch 1 va 0 i), (67, .int .i64 i), (68, .int .i64 j)] ∧ h12 = hh ∧ ms = [mB, mT, me] ∧ j ≤ i ∧ FwI Z k N S S' al (al.getD i 0) (fun j => Z.p - X t j) j ∧ BagS Z.d N (Cx al q top U k (i + 1) S') mB)
      (i - 0) _ ⟨0, S, mB, rfl, rfl, rfl, rfl, by omega, FwI.start W.val W.bd, B⟩ Qs ?_
     rintro n s hh2 ms' ⟨j, S', mB, rfl, rfl, rfl, rfl, hj, I, B⟩
     have hgi := DJ (U := U) (k := k) (S := S') (F8 M.nodup htl (Nat.lt_succ_self i) hil)
     have hki : (S' (al.getD i 0)).to = k := by rw [(I.same _).2.2, (W.same _).2.2]; exact M.live _ (BF hil)
     have hgs : A1 S0 (al.getD i 0) = .pointer (some ⟨(Cx al q top U k (i + 1) S' (al.getD i 0)).g, 0, none⟩) := by unfold A1; rw [hgi, (I.same _).1, (W.same _).1]
     refine DW (BV (by kernel_rfl) (Qm rfl (Ak (CK (DW ?_)))))
     refine Uf rfl (fun hltj => ?_) (fun hltj => ?_)
     ·have hji : j < i := Bx hltj
      have hjl : j < al.length := by omega
      have hcs : ∀ ms, Cell h12 ms ((Bl (Ch 1 va 0 i)).add (j * 1)) (A1 S0 (al.getD j 0)) := fun ms => by
       have := Em (hsub.any (ms := ms)) (i := j) (by omega)
       rwa [Ov hji] at this
      have hgj := DJ (U := U) (k := k) (S := S') (F8 M.nodup htl (show j < i + 1 by omega) hjl)
      have hgt : A1 S0 (al.getD j 0) = .pointer (some ⟨(Cx al q top U k (i + 1) S' (al.getD j 0)).g, 0, none⟩) := by unfold A1; rw [hgj, (I.same _).1, (W.same _).1]
      have htN : al.getD j 0 < N := M.lt (BF hjl)
      have hne : al.getD j 0 ≠ al.getD i 0 := fun he => by have := Ef M.nodup hjl hil he; omega
      have hkj : (S' (al.getD j 0)).to = k := by rw [(I.same _).2.2, (W.same _).2.2]; exact M.live _ (BF hjl)
      have hmay : (Dr N S).may Z (al.getD j 0) (al.getD i 0) := by
       have h1 := List.pairwise_iff_getElem.1 M.ord j i hjl hil hji
       have e1 : al[j] = al.getD j 0 := by simp [List.getD, hjl]
       have e2 : al[i] = al.getD i 0 := by simp [List.getD, hil]
       rw [e1, e2] at h1
       unfold Dc.may at h1 ⊢
       show (S (al.getD j 0)).fr = (S (al.getD i 0)).fr ∨ ((S (al.getD i 0)).fr < (S (al.getD j 0)).fr ∧ Z.back ((S (al.getD j 0)).fr - 1) = true) ∨ ((S (al.getD j 0)).fr < (S (al.getD i 0)).fr ∧ Z.back ((S (al.getD i 0)).fr - 1) = false)
       rw [(W.same (al.getD j 0)).2.1, (W.same (al.getD i 0)).2.1]
       exact h1
      have hxb := hLP.bdX t ht j (by omega)
      have hcx : ∀ ms, Cell h12 ms ((Bl vs[t]).add (j * 1)) (.int .i64 (X t j)) := fun ms => by
       exact (hRt.any (ms := ms)).ev (show j < Z.d k by omega)
      refine Ny (CK (DW (EV (DW (BV (by kernel_rfl) (Qm rfl (Qx (Ah _ (hsR _ (Hp.le_refl _)).any rfl underlying106 Cf rfl rfl rfl (by omega)) rfl (Ql rfl underlying108 (hcs _) (Qm rfl (Qm rfl (Ak (CK ?_))))))))))))
      rw [hgs, hgt]
      refine KD (n := 14) (bs := [true, true, true, true, true, true, true, true, true, true, true, true, true, false]) [true, true, true, true, true, true, true, true, true, true, true, true, true] Cd (by kernel_rfl) (by kernel_rfl) rfl rfl (by kernel_rfl) (Qq rfl (QL rfl underlying130 (hA2 0 _ rfl _) (Qq rfl (QF EY rfl (QL rfl underlying3 (hAg 0 _ rfl _) (QL rfl underlying62 ((hG7.at0 rfl).any) (Qq rfl (Qp rfl (Ah (t) hRvn.any rfl underlying62 BN rfl rfl (by omega) (by omega)) (QL rfl underlying24 (hRv.any.cell0 htv rfl) (Qq rfl (Qp rfl (Ah (j) hRtn.any rfl underlying24 A8 rfl rfl (by omega) (by omega)) (QL rfl underlying3 (hcx _) (Qq rfl ?_)))))))))))))
      unfold CD
      simp only [List.cons_append, List.nil_append]
      refine Qo 13 rfl ?_
      refine Bs (pre := [mB]) rfl call112 rfl (Nn Z.p (X t j) Z.d N (al.getD i 0) (al.getD j 0) (Cx al q top U k (i + 1) S') mB h12 hbp (by omega) (fun j => Nat.le_trans (hd j) (by omega)) hsN htN (Ne.symm hne) (by rw [hgi, hgj, hki, hkj]) (by rw [hgi, hki]; omega) (by rw [hgi]; exact I.bd _ hsN) (by rw [hgj]; exact I.bd _ htN) B) rfl rfl rfl rfl (fun x h16 ms16 l16 hF => ?_)
      obtain ⟨rfl, mB', rfl, B'⟩ := hF
      refine Qw (Qe (Aj (CK (BV (by kernel_rfl) (Qx (oA rfl) rfl (Qm rfl (Ak ?_)))))))
      rw [← hgs]
      refine Al (i - (j + 1)) _ (by omega) ⟨j + 1, adds Z.p (X t j) (al.getD i 0) (al.getD j 0) S', mB', rfl, rfl, rfl, rfl, by omega, ?_, ?_⟩ Qs
      ·have := I.step (by omega) hsN htN hne (by rw [(W.same _).2.2]; exact M.live _ (BF hil)) (by rw [(W.same _).2.2]; exact M.live _ (BF hjl)) hmay
       rwa [show Z.p - (Z.p - X t j) = X t j by omega] at this
      ·rw [← Mu (F8 M.nodup htl (Nat.lt_succ_self i) hil) (F8 M.nodup htl (show j < i + 1 by omega) hjl)]
       exact B'
     ·obtain rfl : j = i := by omega
      refine N2 (Aa (Aa (Af (CK ?_))))
      rw [hgs]
      refine DW (BV (by kernel_rfl) (Qm rfl (Ql rfl underlying62 ((hG8.at0 rfl).any) (Qm rfl (Qx (Ah (t) hRwn.any rfl underlying62 BN rfl rfl (by omega) (by omega)) rfl (Ql rfl underlying24 (hRw.any.cell0 htu rfl) ?_))))))
      refine Bs (pre := [mB]) rfl call113 rfl (KZ Z.d N (al.getD j 0) (Cx al q top U k (j + 1) S') (U t) us[t] mB h12 hsN (by rw [hgi, hki]; exact hRus t htu) (by rw [hgi, hki]; omega) (by rw [hgi]; omega) B) rfl rfl rfl rfl (fun x h16 ms16 l16 hF => ?_)
      obtain ⟨rfl, mB', rfl, B'⟩ := hF
      rw [PD M.nodup htl hti ht hti' hki] at B'
      refine Ak (CK (BV (by kernel_rfl) (Ql rfl underlying147 ((hG9.at0 rfl).any) (Ql rfl underlying3 (hA10 0 _ rfl _) ?_))))
      refine GN (z := undef) 1 (j : Int) true NE OT rfl rfl underlying147 rfl rfl rfl (by unfold Dh; omega) rfl rfl (fun mT' bs' OT' => ?_)
      refine Ak (Aj (E1 LG lG fun h13 l13 b13 => (CF (ms' := [mT', mB', bg, me]) ((List.Perm.swap mB' bg [mT', me]).trans ((List.Perm.cons mB' (List.Perm.swap mT' bg [me])).trans (List.Perm.swap mT' mB' [bg, me]))) ?_)))
      refine AA [] ⟨S', mB', mT', _, bs', rfl, ?_, B', OT', fun b hb => ?_⟩ trivial
      ·refine W.step M.nodup hil ht hti' htl hti ?_ (fun b h1 h2 => ?_) I fun a ha => ?_
       ·have := (htop t ht).2.1
        rwa [hti'] at this
       ·exact (htop t ht).2.2.1 b (by omega) (by omega)
       ·have := hLP.lift t ht a ha
        rwa [← hal] at this
      ·rw [F3]
       by_cases hbj : b = j
       ·subst hbj
        rw [if_pos rfl]
        exact (stB_iff.2 ⟨t, ht, by omega, by rw [hti']⟩).symm
       ·rw [if_neg (by omega), hT b hb]
        exact UD M.nodup htl hil hb hbj
   ·intro D hh ms1 lh hJ
    obtain ⟨S, mB, mT, T, bs, rfl, W, B, OT, hT⟩ := hJ
    rw [Nat.sub_self] at W B hT
    rw [← hgb] at *
    have l2h := Hp.le_trans l210 lh
    have hG2 := hG2.le lh
    have hG9 := hG9.le lh
    have ha := ha.up lh
    have hA := hA0.up l2h
    have hG3 := hG30.le l2h
    refine CF (ms' := [mB, AX gm 132 [.int .i64 Z.p, .int .i64 k, va, ve], me, mT, Mk D]) (List.perm_append_comm (l₁ := [mT]) (l₂ := [mB, AX gm 132 [.int .i64 Z.p, .int .i64 k, va, ve], me]) |>.append_right [Mk D]) (Aj (Ab (Ax (Ql rfl underlying130 ((hG2.at0 rfl).any) (Qm rfl (Qf F9 rfl (Ql rfl underlying3 (Cell.blk 1 (k := 1) rfl rfl) (Qx (oA rfl) rfl (Qm rfl (Qf F9 rfl ?_))))))))))
    refine AK 1 _ rfl A8 rfl rfl (by rfl) rfl rfl (by (simp; done)) rfl rfl ?_
    refine B3 (Qm rfl (B3 (Qx (oG rfl underlying42 AI (Seg.any hG3)) rfl (Qc call114 rfl (Oh Z.p (Z.d k) (Z.d (k + 1)) (Z.mat k) ev hh RA hA) (fun xk h11 ms11 l11 hF => ?_)))))
    obtain ⟨l11', F, pv, nb, hEch, hnb, xe, mk, rfl, rfl, hOk⟩ := hF
    have ox : xe.oneCell' = true := (hOk.rd (h := h) (ms := [mk]) (List.Mem.head _)).rd.one
    refine BZ [.int .i64 0, .int .i64 0, .int .i64 0, .slice none 0 0] rfl AI rfl rfl (fun g16 => ?_)
    refine Sa 0 [_, _, _, _] AI rfl (by simp [ox]) ?_
    refine Aq (AL fun h12 l12 hG16 => (Bg hOk fun h13 l13 hRk => ?_))
    have hK := T5 hbp.1 hEch.red hnb
    have hrk := hLP.rank F pv hEch
    have lh13 := Hp.le_trans l11 (Hp.le_trans l12 l13)
    have hG2 := hG2.le lh13
    have hG9 := hG9.le lh13
    have ha := ha.up lh13
    have hG16 := hG16.le l13
    have lh := Hp.le_trans l2h lh13
    refine BX (Cu 1 rfl (Cu 2 rfl (Di ?_)))
    have hA16 := Seg.all hG16
    generalize hu : Fy pv Z.p F (Z.d (k + 1)) = K at *
    generalize hSB : Cx al q top U k 0 S = SB at *
    have hSBg : ∀ l, (SB l).g = (S0 l).g := fun l => by rw [← hSB, (TN l).1, (W.same l).1]
    refine Bv (fun s hh ms' => ∃ (gb : Nat → Nat) (vst : Value) (mB mst : Hp), s = [(2, .pointer (some ⟨g2, 0, none⟩)), (9, .pointer (some ⟨g9, 0, none⟩)), (15, vst)] ∧ h13.le hh ∧ ms' = [mB, AX gm 132 [.int .i64 Z.p, .int .i64 ((k : Int) + 1), va, ve], mst, me, mT, Mk D] ∧ BagS Z.d (N + nb) (BY N k gb (fun s a => K a s) SB) mB ∧ OwnL cV 1 108 mst vst ((List.range' N nb).map (A1 (BY N k gb (fun s a => K a s) SB)))) ?_ (fun s h ms hI => ?_)
    ·refine Ac (Ad (Qf A0 rfl (Ql rfl underlying3 (hA16 2 _ rfl _) (Qm rfl (Aq (Ag ?_))))))
     have hnbl : nb ≤ 200 := by omega
     refine AD (fun n s hh ms' => ∃ (b : Nat) (gb : Nat → Nat) (vst : Value) (mB mst : Hp), n = nb - b ∧ s = [(2, .pointer (some ⟨g2, 0, none⟩)), (9, .pointer (some ⟨g9, 0, none⟩)), (15, vst), (16, .pointer (some ⟨g16, 0, none⟩)), (106, .int .i64 nb), (107, .int .i64 b)] ∧ h13.le hh ∧ ms' = [mB, AX gm 132 [.int .i64 Z.p, .int .i64 ((k : Int) + 1), va, ve], mst, me, mT, Mk D] ∧ b ≤ nb ∧ BagS Z.d (N + b) (BY N k gb (fun s a => K a s) SB) mB ∧ OwnL cV 1 108 mst vst ((List.range' N b).map (A1 (BY N k gb (fun s a => K a s) SB))))
      (nb - 0) _ ⟨0, fun _ => 0, _, mB, _, rfl, rfl, Hp.le_refl _, rfl, by omega, ?_, OwnL.nil BK⟩ Qs ?_
     ·exact B.mono fun l hl x O => by rw [ET hl]; exact O
     rintro n s hh2 ms' ⟨b, gb, vst, mB, mst, rfl, rfl, lb, rfl, hb2, B, hst⟩
     refine Ax (Qm rfl (Aq (Ac ?_)))
     refine AF rfl (fun hltb => ?_) (fun hltb => ?_)
     ·have hbl : b < nb := Bx hltb
      refine Ai (Ab (Ac (Ag (Ax (Qm rfl (Qm rfl (Aq (Di (CV fun h14 l14 lM2 dM2 LM2 => ?_)))))))))
      have hG2 := hG2.le (Hp.le_trans lb l14)
      have hG16 := hG16.le (Hp.le_trans lb l14)
      have hRk := hRk.up (Hp.le_trans lb l14)
      have hstl2 : ((List.range' N b).map (A1 (BY N k gb (fun s a => K a s) SB))).length ≤ 1000 := by simp; omega
      refine AW (n := 9) (bs := [true, true, true, true, false, false, false, false, false]) [true, true, true, true] Cd (by kernel_rfl) (by kernel_rfl) rfl rfl (Qq rfl (QL rfl underlying130 ((hG2.at0 rfl).any) (Qp rfl (oG rfl underlying42 AI (Seg.any hG16)) (Qq rfl ?_))))
      unfold CD
      simp only [List.cons_append, List.nil_append]
      refine Qo 4 rfl (Qc call89 rfl (Eb Z.p (Z.d (k + 1)) nb K xe b h14 (by omega) (by omega) hbl hRk) (fun v h15 ms15 l15 hF => ?_))
      obtain ⟨rfl, mv, rfl, hOv⟩ := hF
      refine AH hOv fun h15 l15 hRv => ?_
      have ov := hRv.rd.one
      refine Qa (Qo 5 rfl (Qc call88 rfl (Hm Z.d gm (k + 1) (fun a => K a b) v _ _ _ h15 (Seg.ofLe (Hp.le_trans lM2 l15)) hRv (by omega)) (fun x h16 ms16 l16 hF => ?_)))
      obtain ⟨rfl, g, m, rfl, rfl, hS⟩ := hF
      refine Qa (Qo 6 rfl ?_)
      refine AB [_] rfl underlying106 Cf rfl (by rfl) rfl rfl (by omega) rfl rfl rfl (fun g116 => ?_)
      refine Qa (Qo 7 rfl ?_)
      refine Ba 3 hst (RdL.one BK (List.Mem.head _) rfl) rfl underlying106 Cf rfl (by omega) rfl rfl rfl (Cj rfl) (by simp only [List.length_singleton]; omega) (by simp only [List.length_singleton]; omega) rfl rfl rfl (fun vst2 mst2 hst2 => ?_)
      refine Qa (Qo 8 rfl (Qm rfl (Qa (Qe (A5 (E1 LM2 (Hp.le_trans lM2 l15) fun h17 q17 b17 => (Ck fun hap => ?_)))))))
      have hdj2 : mB.disj m := by
       have h1 := (List.pairwise_cons.1 hap).2
       exact Hp.disj_symm ((List.pairwise_cons.1 h1).1 _ (by simp))
      refine Db 1 rfl (Db 2 rfl (Cq (Aj (Ab (Ad (Qx (oA rfl) rfl (Qm rfl (Ak ?_))))))))
      refine Al (nb - (b + 1)) _ (by omega) ⟨b + 1, Ja gb (N + b) g, vst2, mB.join m, mst2, rfl, rfl, Hp.le_trans lb (b17 _ (Hp.le_trans l14 l15) dM2), rfl, by omega, ?_, ?_⟩ Qs
      ·refine Bag.snoc (N := N + b) (B.mono fun l hl x O => ?_) ?_ hdj2
       ·rw [Ew (by omega)]; exact O
       ·rw [Dx (Nat.le_add_right N b)]
        show StO Z.d (if N + b = N + b then g else gb (N + b)) (k + 1) (k + 1) (fun _ a => K a (N + b - N)) m
        rw [if_pos rfl, Nat.add_sub_cancel_left]
        exact hS
      ·have e1 : (List.range' N (b + 1)).map (A1 (BY N k (Ja gb (N + b) g) (fun s a => K a s) SB)) = (List.range' N b).map (A1 (BY N k gb (fun s a => K a s) SB)) ++ [.pointer (some ⟨g, 0, none⟩)] := by
        rw [List.range'_1_concat, List.map_append]
        congr 1
        ·refine List.map_congr_left fun l hl => ?_
         unfold A1
         rw [Ew]
         have := List.mem_range'_1.1 hl; omega
        ·show [A1 _ (N + b)] = _
         unfold A1
         rw [Dx (Nat.le_add_right N b)]
         show [Value.pointer (some ⟨(if N + b = N + b then g else gb (N + b)), 0, none⟩)] = _
         rw [if_pos rfl]
       rw [e1]
       exact hst2
     ·obtain rfl : b = nb := by omega
      refine Aw (Aa (Aa (Af ?_)))
      exact AA _ ⟨gb, vst, mB, mst, rfl, lb, rfl, B, hst⟩ Qs
    ·obtain ⟨gb, vst, mB, mst, rfl, lb, rfl, B, hst⟩ := hI
     have hG2 := hG2.le lb
     have hG9 := hG9.le lb
     have ha := ha.up lb
     have hptr : ∀ l, l < N → A1 (BY N k gb (fun s a => K a s) SB) l = A1 S0 l := fun l hl => by unfold A1; rw [ET hl, hSBg]
     generalize hSf : BY N k gb (fun s a => K a s) SB = Sf at *
     have hnbl : nb ≤ 200 := by omega
     have hall := List.Perm.length_eq M.perm
     rw [List.length_append, List.length_range] at hall
     refine Ac (Ax (Ql rfl underlying130 ((hG2.at0 rfl).any) (Qm rfl (Qf DL rfl (Ql rfl underlying106 (Cell.blk 1 (k := 2) rfl rfl) (Qx (AJ (DC ha).any rfl underlying106 rfl) rfl (Qm rfl (Aq (Ag ?_)))))))))
     refine AD (fun n s hh2 ms' => ∃ (i : Nat) (vst ve' : Value) (mst me' : Hp), n = al.length - i ∧ s = [(2, .pointer (some ⟨g2, 0, none⟩)), (9, .pointer (some ⟨g9, 0, none⟩)), (15, vst), (122, va), (123, .int .i64 al.length), (124, .int .i64 i)] ∧ h = hh2 ∧ ms' = [mB, AX gm 132 [.int .i64 Z.p, .int .i64 ((k : Int) + 1), va, ve'], mst, me', mT, Mk D] ∧ i ≤ al.length ∧ OwnL cV 1 108 mst vst ((List.range' N nb ++ (al.take i).filter (EL al q top 0)).map (A1 Sf)) ∧ OwnL cV 1 108 me' ve' ((en ++ (al.take i).filter fun l => !EL al q top 0 l).map (A1 S0)))
      (al.length - 0) _ ⟨0, vst, ve, mst, me, rfl, rfl, rfl, rfl, by omega, by simpa using hst, by simpa using hE⟩ Qs ?_
     rintro n s hh2 ms' ⟨i, vst, ve', mst, me', rfl, rfl, rfl, rfl, hi, hst, hE⟩
     refine Ax (Qm rfl (Aq (Ac ?_)))
     refine AF rfl (fun hlt => ?_) (fun hlt => ?_)
     ·have hil : i < al.length := Bx hlt
      have hiN : al.getD i 0 < N := M.lt (BF hil)
      have hcs : ∀ ms, Cell h ms ((Bl va).add (i * 1)) (A1 S0 (al.getD i 0)) := fun ms => Em ha.any hil
      have hlf : ∀ f : Nat → Bool, ((al.take i).filter f).length ≤ al.length := fun f => Nat.le_trans (List.length_filter_le _ _) (by rw [List.length_take]; omega)
      have hl1 : ((List.range' N nb ++ (al.take i).filter (EL al q top 0)).map (A1 Sf)).length ≤ 400 := by
       have := hlf (EL al q top 0)
       simp only [List.length_map, List.length_append, List.length_range']
       omega
      have hl2 : ((en ++ (al.take i).filter fun l => !EL al q top 0 l).map (A1 S0)).length ≤ 200000 := by
       have := hlf fun l => !EL al q top 0 l
       simp only [List.length_map, List.length_append]
       omega
      refine Ai (Ab ?_)
      refine Bv (fun s hh ms' => ∃ (vst2 ve2 : Value) (mst2 me2 : Hp), s = [(2, .pointer (some ⟨g2, 0, none⟩)), (9, .pointer (some ⟨g9, 0, none⟩)), (15, vst2), (122, va), (123, .int .i64 al.length), (124, .int .i64 i)] ∧ h = hh ∧ ms' = [mB, AX gm 132 [.int .i64 Z.p, .int .i64 ((k : Int) + 1), va, ve2], mst2, me2, mT, Mk D] ∧ OwnL cV 1 108 mst2 vst2 ((List.range' N nb ++ (al.take (i + 1)).filter (EL al q top 0)).map (A1 Sf)) ∧ OwnL cV 1 108 me2 ve2 ((en ++ (al.take (i + 1)).filter fun l => !EL al q top 0 l).map (A1 S0))) ?_ (fun s h ms hI => ?_)
      ·refine Ag (Ax (Qm rfl (Qx (Ah _ (DC ha).any rfl underlying106 Cf rfl rfl rfl (by omega)) rfl (Ql rfl underlying108 (hcs _) (Qm rfl (Qm rfl (B3 (Ql rfl underlying147 ((hG9.at0 rfl).any) (Qm rfl ?_)))))))))
       refine Qx (Jr (V := vB) (z := false) (i : Int) NE OT (by simp) rfl underlying147 VJ rfl rfl (by unfold Dh; omega)) rfl ?_
       rw [hT i hil]
       refine Aq ?_
       refine BJ rfl (fun hsb => ?_) (fun hsb => ?_)
       ·refine Ad (Qm rfl (Qm rfl ?_))
        refine AB [_] rfl underlying106 Cf rfl (by rfl) rfl rfl (by omega) rfl rfl rfl (fun g134 => ?_)
        refine Ba 3 hst (RdL.one BK (List.Mem.head _) rfl) rfl underlying106 Cf rfl (by omega) rfl rfl rfl (Cj rfl) (by simp only [List.length_singleton]; omega) (by simp only [List.length_singleton]; omega) rfl rfl rfl (fun vst2 mst2 hst2 => ?_)
        refine Qm rfl (Ak (Aj (A5 ?_)))
        refine AA _ ⟨vst2, ve', mst2, me', rfl, rfl, rfl, ?_, ?_⟩ Qs
        ·rw [BU hil, List.filter_append, List.filter_cons_of_pos hsb, List.filter_nil, ← List.append_assoc, List.map_append]
         show OwnL _ _ _ _ _ (_ ++ [A1 Sf (al.getD i 0)])
         rw [hptr _ hiN]
         exact hst2
        ·rw [BU hil, List.filter_append, List.filter_cons_of_neg (by rw [hsb]; decide), List.filter_nil, List.append_nil]
         exact hE
       ·have hst3 : OwnL cV 1 108 mst vst ((List.range' N nb ++ (al.take (i + 1)).filter (EL al q top 0)).map (A1 Sf)) := by
         rw [BU hil, List.filter_append, List.filter_cons_of_neg (by rw [hsb]; decide), List.filter_nil, List.append_nil]
         exact hst
        have e3 : ((en ++ (al.take (i + 1)).filter fun l => !EL al q top 0 l).map (A1 S0)) = ((en ++ (al.take i).filter fun l => !EL al q top 0 l).map (A1 S0)) ++ [A1 S0 (al.getD i 0)] := by
         rw [BU hil, List.filter_append, List.filter_cons_of_pos (by rw [hsb]; rfl), List.filter_nil, ← List.append_assoc, List.map_append]
         rfl
        rw [e3]
        refine AW (n := 11) (bs := [true, true, true, true, false, true, false, false, true, true, false]) [true, true, true, true, false, true, false, false, true, true] Cd (by kernel_rfl) (by kernel_rfl) rfl rfl (QL rfl underlying130 ((hG2.at0 rfl).any) (QL rfl underlying130 ((hG2.at0 rfl).any) (Qq rfl (QF Hj rfl (Qq rfl (Qq rfl (QF Hj rfl ?_)))))))
        unfold CD
        simp only [List.cons_append, List.nil_append]
        refine A2 [4, 6] (by kernel_rfl) rfl ?_
        refine Az rfl ?_ ?_
        ·refine Ql rfl underlying106 (Cell.blk 1 (k := 3) rfl rfl) (Qw (Qo 6 rfl ?_))
         refine AB [_] rfl underlying106 Cf rfl (by rfl) rfl rfl (by omega) rfl rfl rfl (fun g142 => ?_)
         refine Qw (Qo 7 rfl ?_)
         refine Ba 4 hE (RdL.one BK (List.Mem.head _) rfl) rfl underlying106 Cf rfl (by omega) rfl rfl rfl (Cj rfl) (by simp only [List.length_singleton]; omega) (by simp only [List.length_singleton]; omega) rfl rfl rfl (fun ve2 me2 hE2 => ?_)
         have oe2 : ve2.oneCell' = true := (hE2.rd (h := h) (ms := [me2]) (List.Mem.head _)).rd.one
         refine Qw (Qo 10 rfl ?_)
         refine AK 2 _ rfl G2 rfl rfl (by assumption) rfl rfl (by (simp; done)) rfl rfl ?_
         refine Qw (Qe (Aj (A5 ?_)))
         exact AA _ ⟨vst, ve2, mst, me2, rfl, rfl, rfl, hst3, hE2⟩ Qs
        refine Az rfl ?_ ?_
        ·refine AB [_] rfl underlying106 Cf rfl (by rfl) rfl rfl (by omega) rfl rfl rfl (fun g142 => ?_)
         refine Qw (Qo 4 rfl (Ql rfl underlying106 (Cell.blk 2 (k := 3) rfl rfl) (Qw (Qo 7 rfl ?_))))
         refine Ba 4 hE (RdL.one BK (List.Mem.head _) rfl) rfl underlying106 Cf rfl (by omega) rfl rfl rfl (Cj rfl) (by simp only [List.length_singleton]; omega) (by simp only [List.length_singleton]; omega) rfl rfl rfl (fun ve2 me2 hE2 => ?_)
         have oe2 : ve2.oneCell' = true := (hE2.rd (h := h) (ms := [me2]) (List.Mem.head _)).rd.one
         refine Qw (Qo 10 rfl ?_)
         refine AK 2 _ rfl G2 rfl rfl (by assumption) rfl rfl (by (simp; done)) rfl rfl ?_
         refine Qw (Qe (Aj (A5 ?_)))
         exact AA _ ⟨vst, ve2, mst, me2, rfl, rfl, rfl, hst3, hE2⟩ Qs
        exact A3
      ·obtain ⟨vst2, ve2, mst2, me2, rfl, rfl, rfl, hst2, hE2⟩ := hI
       refine Ad (Qx (oA rfl) rfl (Qm rfl (Ak ?_)))
       exact Al (al.length - (i + 1)) _ (by omega) ⟨i + 1, vst2, ve2, mst2, me2, rfl, rfl, rfl, rfl, by omega, hst2, hE2⟩ Qs
     ·obtain rfl : i = al.length := by omega
      have ost : vst.oneCell' = true := (hst.rd (h := h) (ms := [mst]) (List.Mem.head _)).rd.one
      refine Aw (Aa (Aa (Af (Ab (Ad (Ql rfl underlying130 ((hG2.at0 rfl).any) (Qm rfl (Qm rfl (Qf DL rfl ?_)))))))))
      refine AK 1 _ rfl G2 rfl rfl (by assumption) rfl rfl (by (simp; done)) rfl rfl ?_
      refine Ak ?_
      rw [List.take_length] at hst hE
      refine Db 2 rfl (CW hst fun h9 l9 hRst => (Db 3 rfl (A5 (In 3 (.inl rfl) rfl ?_))))
      have Mn := Bw.done (gb := gb) hFp hbp.1 M W hb htl hti hK (by omega) hLP.bdU
      rw [hSB, hSf] at Mn
      have e1 : (en ++ al.filter fun l => !EL al q top 0 l).map (A1 Sf) = (en ++ al.filter fun l => !EL al q top 0 l).map (A1 S0) := List.map_congr_left fun l hl => by
       have hlN : l < N := by
        rcases List.mem_append.1 hl with h1 | h1
        ·exact List.mem_range.1 (M.perm.mem_iff.1 (List.mem_append_left _ h1))
        ·exact M.lt (List.mem_filter.1 h1).1
       exact hptr l hlN
      exact B6 rfl (⟨Hp.le_trans l02 (Hp.le_trans lh (Hp.le_trans lb l9)), nb, Sf, _, _, vst, ve', me', mB, rfl, hnbl, hRst, by rw [e1]; exact hE, B, Mn⟩)
end Go.Proofs.YtdnelknieikbaaaGreat
