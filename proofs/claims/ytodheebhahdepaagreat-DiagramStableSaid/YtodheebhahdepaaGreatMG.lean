/- A part of the proof. -/
import Derived.Test.YtodheebhahdepaaGreatMF
import Derived.Shelf.Small.Bits
import Derived.Shelf.Strconv.Itoa0
import Derived.Shelf.Sort.Plain
import Derived.Shelf.Bits.Mul64
import Derived.Ground.Names2Prog
import Derived.Shelf.Slices.CompactI
import Derived.Shelf.Slices.SearchI
import Derived.Shelf.Slices.Cells
import Derived.Shelf.Slices.In.SortNone
import Derived.Test.YtodheebhahdepaaGreatProg
import Derived.Sort.OwnSortedInts
import Derived.Lib.SlicesCompact
set_option linter.unusedSimpArgs false
set_option linter.unusedVariables false
set_option linter.unusedSectionVars false
set_option maxRecDepth 100000
set_option maxHeartbeats 4000000
namespace Go.Proofs.YtodheebhahdepaaGreat
open Go.Proofs.Tryz
open Go.Eng Go.RowKit Go.Lin Go.Sort Go.Srt
variable {e : Entry} {Q : Exit → Act → World → Prop} {ops : Array Oper} {s : Ar} {h : Hp} {ms : List Hp}
def SS (f : Int → Int) (S : List Ce) : Prop := S.Pairwise fun a b => f a.c.id < f b.c.id ∨ (f a.c.id = f b.c.id ∧ (a.c.dim < b.c.dim ∨ (a.c.dim = b.c.dim ∧ a.c.id ≤ b.c.id)))
theorem Vv {f : Int → Int} {l : List CeI} (h : l.Pairwise fun a b => ¬ NT f b a < 0) : SS f (l.map CeI.ce) := by
 unfold SS
 rw [List.pairwise_map]
 refine h.imp fun {a b} h => ?_
 rw [Jl] at h
 show f a.c.id < f b.c.id ∨ (f a.c.id = f b.c.id ∧ (a.c.dim < b.c.dim ∨ (a.c.dim = b.c.dim ∧ a.c.id ≤ b.c.id)))
 omega
def box0 : List Value := .int .i64 0 :: .slice none 0 0 :: .map none :: .slice none 0 0 :: .slice none 0 0 :: List.replicate 400 (.int .i64 0)
theorem Tb (p : Int) (vA : Value) (gL : Nat) : My box0 [(0, [.int .i64 p]), (1, [vA]), (2, [.map (some gL)])] = Ew p vA gL (.slice none 0 0) (.slice none 0 0) (List.replicate 400 0) := by
 unfold box0 Ew
 rw [List.map_replicate]
 rfl
theorem TD : box0.length = 405 := by unfold box0; simp
theorem Xj {v : Value} (h : v.oneCell' = true) : ∀ a ∈ [v], ∀ c ∈ cU a, c.oneCell' = true := fun a ha c hc => by
 rw [List.mem_singleton.1 ha] at hc
 rw [List.mem_singleton.1 (show c ∈ [v] from hc)]; exact h
theorem FC {rest : List Oper} {o : Oper} {d g : Nat} {x y : Operand} {v q : Value} {m : Hp} {l : List Value} (i : Nat) (O : OwnL cU 1 25 m v l) (hm : Bf g 25 [q] ∈ ms) (hl : l.length ≤ 400) (hP : e.P = Tryz.prog) (ho : o.op = .call { callee := .builtin .append, args := #[x, y], argTypes := #[22, 22] })
  (hx : ev s x = some v) (hy : ev s y = some (.slice (some ⟨g, 0, none⟩) 1 1)) (hi : ms[i]? = some m) (hq : q.oneCell' = true) (hd : o.dst = some d) (hn : Nat.blt d e.n = true) (hg : o.guard = none) (K : ∀ v' m', OwnL cU 1 25 m' v' (l ++ [q]) → WL e ops Q rest ((d, v') :: s) h (ms.set i m')) : WL e ops Q (o :: rest) s h ms :=
 Bh i O (RdL.one O8 (x := q) hm rfl) ho (hP ▸ underlying22) (hP ▸ Cn) rfl (by omega) hx hy hi (Xj hq) (by simp only [List.length_singleton]; omega) (by simp only [List.length_singleton]; omega) hd hn hg K
theorem EO {rest : List Oper} {o : Oper} {d n c : Nat} {x : Operand} {a : Option Addr} (hP : e.P = Tryz.prog) (ho : o.op = .buildSlice 22 1 #[(0, x)]) (hx : ev s x = some (.slice a n c)) (hd : o.dst = some d) (hn : Nat.blt d e.n = true) (hg : o.guard = none) (k : ∀ g, WL e ops Q rest ((d, .slice (some ⟨g, 0, none⟩) 1 1) :: s) h (Bf g 25 [.slice a n c] :: ms)) : WL e ops Q (o :: rest) s h ms :=
 Ao [_] ho (hP ▸ underlying22) (hP ▸ Cn) hx rfl rfl rfl (by simp) hd hn hg k
theorem T4 {h0 : Hp} {n : Nat} {listed : Array Bool} (n2 : Nat) (L2 : Array Bool) (I : Ar → List Hp → Prop) (k1 : ∀ L s ms, L = L2 → I s ms → WB e ops Q h0 n2 L s h ms) (k2 : (∀ L s ms, L = L2 → I s ms → WB e ops Q h0 n2 L s h ms) → WB e ops Q h0 n listed s h ms) : WB e ops Q h0 n listed s h ms := k2 k1
theorem Sr (l : List Ce) (F : List (Int × Int)) (v vf : Value) (p : Int) (hp : Hp) (hK : RgC l) (hR : RdC hp v l) (hF : RdL cV 2 hp [] vf F) (hV : QY F) (h0 : HG (l.map Ce.c) F = (0, 0)) (hP : IsP p) (hl : l.length ≤ 400) : FnT Tryz.prog 52 #[.agg #[v], vf, .int .i64 p] hp [] (fun r h' ms' => hp.le h' ∧ ∃ (gm gA : Nat) (mA : Hp) (bs : List Nat) (S : List Ce) (vc vr vv : Value) (Rs Vs : List Value) (mR mV : Hp), r = .tuple #[.pointer (some ⟨gm, 0, none⟩), .int .i64 0] ∧ ms' = [Bf gm 101 (Ew p vc gA vr vv (List.replicate 400 0)), mR, mV] ∧ BK kN kN gA Bq mA (BE F) bs ∧ mA.le h' ∧ RdL cC 3 h' [] vc S ∧ RdL cU 1 h' [] vr Rs ∧ RdL cU 1 h' [] vv Vs ∧ ColsO mR Rs ((List.range S.length).map (Jc p S)) ∧ ColsO mV Vs ((List.range S.length).map (Es S.length)) ∧ (S.map Ce.c).Perm (l.map Ce.c) ∧ SS (D5 (BE F)) S ∧ ∀ a ∈ S, RdL cD 2 h' [] a.v a.c.sd) := by
 have o1 := hR.q.rd.one
 have o2 := hF.rd.one
 have hp1 := hP.1
 have hp2 := hP.2.1
 have hG := hK.r.rgt
 refine Av func52 ntmps52 rfl rfl (fun w0 hw0 => ?_)
 simp only [A5]
 refine Az ?_
 refine A8 [_] rfl rfl (by rfl) rfl rfl rfl (fun g3 => ?_)
 refine Qm rfl (Qm rfl (An (AA fun h1 l1 hS => ?_)))
 have hR := hR.up l1
 have hF := hF.up l1
 have hck := Sb l F v vf h1 hK hR hF hV
 rw [h0] at hck
 refine Ac (Az (Qx (oG rfl underlying29 Bi (Seg.any hS)) rfl (Qm rfl (Qx (AG rfl call68 rfl (IV hck _)) rfl (Qm rfl (Qm rfl (Qm rfl (Qm rfl (Qm rfl (BG (Qm rfl (Qm rfl (An (Ax rfl (fun hc => absurd hc (fun h => h rfl)) (fun hc => Ai (Ad (Az (Qm rfl (Qx (oG rfl underlying29 Bi (Seg.any hS)) rfl (Qc call66 rfl (KZ l v _ hK hR) (fun rC h2 ms2 l2 hQ => ?_)))))))))))))))))))))
 obtain ⟨l2', mC, A, vA, rfl, rfl, hOC, hAl, hsA⟩ := hQ
 have hF := hF.up l2
 refine Qx (Ff rfl underlying29 rfl underlying27 rfl rfl rfl) rfl (Qm rfl (Qc call69 rfl (Lw F vf _ hF hV.n hV.k) (fun rL h3 ms3 l3 hL => ?_)))
 obtain ⟨l3', gL, mL, bL, rfl, rfl, hOL⟩ := hL
 have hsA := fun a ha => (hsA a ha).up l3
 have hAid : ∀ a ∈ A, Bq a.c.id := fun a ha => by
  have h1 : a.c ∈ l.map Ce.c := by rw [← hAl]; exact List.mem_map.2 ⟨a, ha, rfl⟩
  have h2 := hG.pos _ h1
  obtain ⟨b, hb, hbe⟩ := List.mem_map.1 h1
  have h3 := hK.i b hb
  rw [hbe] at h3
  unfold Bq; omega
 obtain ⟨A, rfl⟩ := Uy A fun a ha => ⟨(hsA a ha).rd.one, hAid a ha⟩
 have hOC := own_ceI.1 hOC
 have ovA : vA.oneCell' = true := (hOC.rd (h := h3) (ms := [mC]) (List.Mem.head _)).rd.one
 have cvA : vA.cells = #[vA] := (hOC.rd (h := h3) (ms := [mC]) (List.Mem.head _)).rd.cells
 refine Qx (A6 Xs box0 [(0, [_]), (1, [vA]), (2, [_])] (Ew p vA gL (.slice none 0 0) (.slice none 0 0) (List.replicate 400 0)) rfl X7 (by kernel_rfl) rfl (by rw [TD]; exact ⟨⟨rfl, rfl, rfl⟩, ⟨cvA, rfl, rfl⟩, ⟨rfl, rfl, rfl⟩, trivial⟩) (Tb p vA gL)) rfl ?_
 refine A8 (Ew p vA gL (.slice none 0 0) (.slice none 0 0) (List.replicate 400 0)) rfl rfl rfl rfl rfl rfl (fun g34 => C4 [.pointer none] rfl X2 rfl rfl (fun g10 => ?_))
 refine AK 0 0 rfl X2 rfl rfl (by rfl) rfl rfl (by decide) rfl rfl ?_
 refine An (AA fun h4 l4 hG10 => (EE 1 rfl (BA fun h5 l5 lL => (FB fun h6 l6 lG dG LG => ?_))))
 have l36 := Hp.le_trans l4 (Hp.le_trans l5 l6)
 have hG6 := hG10.le (Hp.le_trans l5 l6)
 have hS6 := Seg.ofLe lG
 have e10 : ∀ ms, Cell h6 ms (⟨g10, 0, none⟩ : Addr) (.pointer (some ⟨g34, 0, none⟩)) := fun ms => Seg.all hG6 0 _ rfl ms
 have e1 : ∀ ms, Cell h6 ms (⟨g34, 1, none⟩ : Addr) vA := fun ms => Seg.all hS6 1 _ rfl ms
 have e2 : ∀ ms, Cell h6 ms (⟨g34, 2, none⟩ : Addr) (.map (some gL)) := fun ms => Seg.all hS6 2 _ rfl ms
 have hAlen : A.length = l.length := by have := congrArg List.length hAl; simpa using this
 have hOC6 := hOC.rd (h := h6) (ms := [mC]) (List.Mem.head _)
 have hpv := VJ p h6 (by unfold Bq; omega)
 rw [decide_eq_true hP] at hpv
 refine Ac (Ah (Az (Qm rfl (Qx (AG rfl call70 rfl (hpv _)) rfl (Qm rfl (Qm rfl (An (AO rfl (Az (Ql rfl underlying62 (e10 _) (Qm rfl (Qf ES rfl (Ql rfl underlying27 (e1 _) (Qx (AC hOC6.rd rfl underlying27 rfl) rfl (Qm rfl (Qm rfl (An ?_)))))))))))))))))
 refine Ax rfl (fun hc => absurd hc (fun h => by omega)) (fun hc => ?_)
 refine Ai (Aj (Ad (Az (Ql rfl underlying62 (e10 _) (Qm rfl (Qf ES rfl (Ql rfl underlying27 (e1 _) (Qx (Bv rfl rfl rfl) rfl (Bg (pre := [mC]) rfl call71 rfl (RR (BE F) gL g34 g10 mL bL A vA mC h6 e10 e2 hOL (Hp.le_trans lL l6) hOC (by omega)) rfl rfl rfl rfl (fun _ h7 ms7 l7 hQ => ?_))))))))))
 obtain ⟨rfl, A', mC', rfl, hOC', hpm, hsr⟩ := hQ
 refine An (EP LG lG fun h7 q7 b7 => (EE 1 rfl (Cb (own_ceI.2 hOC') fun h8 l8 hQ => ?_)))
 have l57 : h5.le h7 := b7 _ l6 dG
 have l58 := Hp.le_trans l57 l8
 have hG8 := hG10.le (Hp.le_trans l5 l58)
 have lL8 := Hp.le_trans lL l58
 have l38 := Hp.le_trans l4 (Hp.le_trans l5 l58)
 have e10 : ∀ ms, Cell h8 ms (⟨g10, 0, none⟩ : Addr) (.pointer (some ⟨g34, 0, none⟩)) := fun ms => Seg.all hG8 0 _ rfl ms
 obtain ⟨S, hSe⟩ : ∃ S, A'.map CeI.ce = S := ⟨_, rfl⟩
 have hsrt := Vv hsr
 have hSp : S.Perm (A.map CeI.ce) := by rw [← hSe]; exact hpm.map _
 have hSc : (S.map Ce.c).Perm (l.map Ce.c) := by rw [← hAl]; exact hSp.map _
 have hSA : ∀ a ∈ S, RdL cD 2 h8 [] a.v a.c.sd := fun a ha => (hsA a (hSp.mem_iff.1 ha)).up l38
 have hSi : ∀ a ∈ S, Bq a.c.id := fun a ha => hAid a (hSp.mem_iff.1 ha)
 have hSs : ∀ a ∈ S, a.c.sd.length ≤ 64 ∧ ∀ s ∈ a.c.sd, Bq s.1 ∧ (s.2 = 1 ∨ s.2 = -1) := fun a ha => by
  have h1 : a.c ∈ l.map Ce.c := hSc.mem_iff.1 (List.mem_map.2 ⟨a, ha, rfl⟩)
  refine ⟨(hK.r.bds h1).2.1, fun s hs => ⟨?_, hG.sgn _ h1 s hs⟩⟩
  obtain ⟨y, hy, e, _⟩ := hG.sid _ h1 s hs
  obtain ⟨b, hb, rfl⟩ := List.mem_map.1 hy
  have h2 := hG.pos _ hy
  have h3 := hK.i b hb
  rw [← e]; unfold Bq; omega
 have hSn : S.length ≤ 400 := by have := hSc.length_eq; rw [List.length_map, List.length_map] at this; omega
 rw [hSe] at hsrt hQ
 have ovA := hQ.rd.one
 refine Az (Cd (K := kN) (V := kN) (Ok := Bq) rfl rfl rfl rfl (fun gP mP hP0 => Qm rfl (An (Bz (Bz (Bz (Bz (Ac (Az (Ql rfl underlying62 (e10 _) (Qm rfl (Qf ES rfl (Ql rfl underlying27 (Cell.blk 5 (k := 1) rfl rfl) (Qx (AC hQ.rd.any rfl underlying27 rfl) rfl (Qm rfl (An (Ah ?_)))))))))))))))))
 refine AD (fun q sl h' ms' => ∃ (j : Nat) (vr vv : Value) (mr mv mR mV mP : Hp) (Rs Vs : List Value) (bs : List Nat), q = S.length - j ∧ sl = [(2, .int .i64 p), (10, .pointer (some ⟨g10, 0, none⟩)), (11, .map (some gP)), (56, vA), (57, .int .i64 S.length), (58, .int .i64 j)] ∧ h8.le h' ∧ ms' = [mr, mv, mR, mV, mP, Bf g34 101 (Ew p vA gL vr vv (List.replicate 400 0))] ∧ j ≤ S.length ∧ BK kN kN gP Bq mP (Dz S j) bs ∧ OwnL cU 1 25 mr vr Rs ∧ OwnL cU 1 25 mv vv Vs ∧ ColsO mR Rs ((List.range j).map (Jc p S)) ∧ ColsO mV Vs ((List.range j).map (Es S.length)) ∧ Rs.length = j ∧ Vs.length = j)
  (S.length - 0) _ ⟨0, .slice none 0 0, .slice none 0 0, Hp.emp, Hp.emp, Hp.emp, Hp.emp, mP, [], [], [], rfl, rfl, Hp.le_refl _, rfl, by omega, hP0, OwnL.nil O8, OwnL.nil O8, rfl, rfl, rfl, rfl⟩ Qs ?_
 rintro q sl h' ms' ⟨j, vr, vv, mr, mv, mR, mV, mP, Rs, Vs, bs, rfl, rfl, l9, rfl, hj, hO, Or, Ov, CR, CV, hRl, hVl⟩
 have hQ := hQ.up l9
 have e10 : ∀ ms, Cell h' ms (⟨g10, 0, none⟩ : Addr) (.pointer (some ⟨g34, 0, none⟩)) := fun ms => (e10 ms).le l9
 have ovr : vr.oneCell' = true := (Or.rd (h := h') (ms := [mr]) (List.Mem.head _)).rd.one
 have ovv : vv.oneCell' = true := (Ov.rd (h := h') (ms := [mv]) (List.Mem.head _)).rd.one
 refine Az (Qm rfl (An (Ac ?_)))
 refine Ax rfl (fun hlt => ?_) (fun hlt => ?_)
 ·have hjl : j < S.length := by omega
  obtain ⟨x, hx⟩ : ∃ x, S[j] = x := ⟨_, rfl⟩
  have hxm : x ∈ S := by rw [← hx]; exact List.getElem_mem hjl
  have hgx : S.getD j default = x := by simp [List.getD, hjl, hx]
  have hX := (hSA x hxm).up l9
  have oxv := hX.rd.one
  have hxI := hSi x hxm
  obtain ⟨hxn, hxs⟩ := hSs x hxm
  have hsx : ∀ ms, Seg h' ms ((AI vA).add (j * 3)) (cC x) := fun ms => by rw [← hx]; exact (hQ.any (ms := ms)).seg hjl
  refine Ai (Ad ?_)
  refine AV (fun sl h'' ms' => ∃ (vr' vv' va vb : Value) (mr' mv' mc mo mP' : Hp) (bs' : List Nat), sl = [(2, .int .i64 p), (10, .pointer (some ⟨g10, 0, none⟩)), (11, .map (some gP)), (56, vA), (57, .int .i64 S.length), (58, .int .i64 j)] ∧ h'.le h'' ∧ ms' = [Bf g34 101 (Ew p vA gL vr' vv' (List.replicate 400 0)), mP', mc, mo, mr', mv', mR, mV] ∧ BK kN kN gP Bq mP' (Dz S (j + 1)) bs' ∧ OwnL cU 1 25 mr' vr' (Rs ++ [va]) ∧ OwnL cU 1 25 mv' vv' (Vs ++ [vb]) ∧ OwnL cI 1 3 mc va (Jc p S j) ∧ OwnL cI 1 3 mo vb (Es S.length j)) ?_ (fun s h ms hI => ?_)
  ·refine Ah (Az (Qm rfl (Qx (Af (j) hQ.rd.any rfl underlying27 AH rfl rfl (by omega) (by omega)) rfl (Qx (oG rfl underlying59 AH (hsx _)) rfl (C4 [.int .i64 0, .int .i64 0, .slice none 0 0] rfl AH rfl rfl (fun g13 => Qm rfl ?_))))))
   refine Sa 0 [_, _, _] AH rfl (by simp [o1, o2, ovA, oxv, ovr, ovv]) ?_
   refine An (AA fun h10 l10 hS13 => ?_)
   have e130 : ∀ ms, Cell h10 ms (⟨g13, 0, none⟩ : Addr) (.int .i64 x.c.id) := fun ms => Seg.all hS13 0 _ rfl ms
   refine Az (Qm rfl (Qf Bo rfl (Ql rfl underlying3 (e130 _) (Qm rfl (Bp (V := kN) (z := undef) 4 x.c.id (j : Int) Ba hO rfl rfl underlying66 rfl rfl rfl hxI rfl rfl (fun mP' bs' hO' => ?_))))))
   have hpl : Dz S (j + 1) = Cr (Dz S j) x.c.id (j : Int) := by rw [← hgx]; rfl
   rw [← hpl] at hO'
   refine An (EE 5 rfl (FB fun h11 l11 lG dG LG => (EE 4 rfl (FB fun h12 l12 lP dP LP => ?_))))
   have l912 := Hp.le_trans l10 (Hp.le_trans l11 l12)
   have hX := hX.up l912
   have hS12 := (Seg.ofLe lG).le l12
   have e10' : ∀ ms, Cell h12 ms (⟨g10, 0, none⟩ : Addr) (.pointer (some ⟨g34, 0, none⟩)) := fun ms => (e10 ms).le l912
   have e11' : ∀ ms, Cell h12 ms (⟨g34, 1, none⟩ : Addr) vA := fun ms => Seg.all hS12 1 _ rfl ms
   have e132' : ∀ ms, Cell h12 ms (⟨g13, 2, none⟩ : Addr) x.v := fun ms => ((Seg.all hS13 2 _ rfl ms).le l11).le l12
   have e130' : ∀ ms, Cell h12 ms (⟨g13, 0, none⟩ : Addr) (.int .i64 x.c.id) := fun ms => ((e130 ms).le l11).le l12
   have hQ12 := hQ.up l912
   refine AV (fun sl h' ms' => ∃ ga gb : Nat, sl = [(2, .int .i64 p), (10, .pointer (some ⟨g10, 0, none⟩)), (11, .map (some gP)), (12, .int .i64 j), (13, .pointer (some ⟨g13, 0, none⟩)), (14, .slice (some ⟨ga, 0, none⟩) S.length S.length), (15, .slice (some ⟨gb, 0, none⟩) S.length S.length), (56, vA), (57, .int .i64 S.length), (58, .int .i64 j)] ∧ h12 = h' ∧ ms' = [Bf ga 3 (List.replicate S.length (.int .i64 0)), Bf gb 3 (List.replicate S.length (.int .i64 0)), mr, mv, mR, mV]) ?_ (fun s h ms hI => ?_)
   ·refine B4 (n := 14) (bs := [true, true, true, true, true, false, true, true, true, true, true, false, false, false]) [true, true, true, true, true, false, true, true, true, true, true] CN (by kernel_rfl) (by kernel_rfl) rfl rfl (QL rfl underlying62 (e10' _) (Qq rfl (QF ES rfl (QL rfl underlying27 (e11' _) (Qp rfl (AC hQ12.rd.any rfl underlying27 rfl) (QL rfl underlying62 (e10' _) (Qq rfl (QF ES rfl (QL rfl underlying27 (e11' _) (Qp rfl (AC hQ12.rd.any rfl underlying27 rfl) ?_))))))))))
    unfold GI
    simp only [List.cons_append, List.nil_append]
    refine A0 [5, 11] (by kernel_rfl) rfl ?_
    refine AB rfl ?_ ?_
    ·refine E0 (n := _) rfl underlying25 Bm rfl rfl rfl (by rfl) (by rfl) (by omega) (by omega) rfl rfl rfl (fun g72 => ?_)
     refine Qw (A0 [11, 12] (by kernel_rfl) rfl ?_)
     refine AB rfl ?_ ?_
     ·refine E0 (n := _) rfl underlying25 Bm rfl rfl rfl (by rfl) (by rfl) (by omega) (by omega) rfl rfl rfl (fun g78 => ?_)
      refine Qw (Qo 12 rfl (Qm rfl (Qw (Qo 13 rfl (Qm rfl (Qw (Qe ?_)))))))
      (refine Gx (List.Perm.swap _ _ _) ?_; exact Ay _ ⟨g72, g78, rfl, rfl, rfl⟩ Qs)
     refine AB rfl ?_ ?_
     ·refine Qm rfl (Qw (Qo 11 rfl ?_))
      refine E0 (n := _) rfl underlying25 Bm rfl rfl rfl (by rfl) (by rfl) (by omega) (by omega) rfl rfl rfl (fun g78 => ?_)
      refine Qw (Qo 13 rfl (Qm rfl (Qw (Qe ?_))))
      (refine Gx (List.Perm.swap _ _ _) ?_; exact Ay _ ⟨g72, g78, rfl, rfl, rfl⟩ Qs)
     exact A3
    refine AB rfl ?_ ?_
    ·refine E0 (n := _) rfl underlying25 Bm rfl rfl rfl (by rfl) (by rfl) (by omega) (by omega) rfl rfl rfl (fun g78 => ?_)
     refine Qw (Qo 5 rfl ?_)
     refine E0 (n := _) rfl underlying25 Bm rfl rfl rfl (by rfl) (by rfl) (by omega) (by omega) rfl rfl rfl (fun g72 => ?_)
     refine Qw (Qo 12 rfl (Qm rfl (Qw (Qo 13 rfl (Qm rfl (Qw (Qe ?_)))))))
     exact Ay _ ⟨g72, g78, rfl, rfl, rfl⟩ Qs
    exact A3
   ·obtain ⟨ga, gb, rfl, rfl, rfl⟩ := hI
    have hO1 : OwnL cI 1 3 (Bf ga 3 (List.replicate S.length (.int .i64 0))) (.slice (some ⟨ga, 0, none⟩) S.length S.length) (Ey p S j 0) := OwnL.rep _ 0 (by omega)
    have hO2 : OwnL cI 1 3 (Bf gb 3 (List.replicate S.length (.int .i64 0))) (.slice (some ⟨gb, 0, none⟩) S.length S.length) (List.replicate S.length 0) := OwnL.rep _ 0 (by omega)
    have hpP : 0 < j + 1 := by omega
    refine Ac (Az (Qf Bl rfl (Ql rfl underlying57 (e132' _) (Qx (AC hX.rd.any rfl underlying57 rfl) rfl (Qm rfl (An (Ah ?_)))))))
    refine AD (fun q sl h' ms' => ∃ (k : Nat) (mc : Hp), q = x.c.sd.length - k ∧ sl = [(2, .int .i64 p), (10, .pointer (some ⟨g10, 0, none⟩)), (11, .map (some gP)), (12, .int .i64 j), (14, .slice (some ⟨ga, 0, none⟩) S.length S.length), (15, .slice (some ⟨gb, 0, none⟩) S.length S.length), (56, vA), (57, .int .i64 S.length), (58, .int .i64 j), (80, x.v), (81, .int .i64 x.c.sd.length), (82, .int .i64 k)] ∧ h12.le h' ∧ ms' = [mc, Bf gb 3 (List.replicate S.length (.int .i64 0)), mr, mv, mR, mV] ∧ k ≤ x.c.sd.length ∧ OwnL cI 1 3 mc (.slice (some ⟨ga, 0, none⟩) S.length S.length) (Ey p S j k))
     (x.c.sd.length - 0) _ ⟨0, _, rfl, rfl, Hp.le_refl _, rfl, by omega, hO1⟩ Qs ?_
    rintro q sl h13 ms' ⟨k, mc, rfl, rfl, l13, rfl, hk, hOc⟩
    have hX := hX.up l13
    refine Az (Qm rfl (An (Ac ?_)))
    refine Ax rfl (fun hlk => ?_) (fun hlk => ?_)
    ·have hkl : k < x.c.sd.length := by omega
     obtain ⟨s, hs⟩ : ∃ s, x.c.sd[k] = s := ⟨_, rfl⟩
     have hsm : s ∈ x.c.sd := by rw [← hs]; exact List.getElem_mem hkl
     obtain ⟨hs1, hs2⟩ := hxs s hsm
     have hss : ∀ ms, Seg h13 ms ((AI x.v).add (k * 2)) (cD s) := fun ms => by rw [← hs]; exact (hX.any (ms := ms)).seg hkl
     have hplt : pl S (j + 1) s.1 < (Ey p S j k).length := by
      rw [Fh]
      have := XG S hpP s.1
      omega
     have hcs : Ey p S j (k + 1) = (Ey p S j k).set (pl S (j + 1) s.1) ((s.2 + p) % p) := by
      have hkg : k < (S.getD j default).c.sd.length := by rw [hgx]; exact hkl
      rw [KV hkg]
      have : (S.getD j default).c.sd[k] = s := by simp only [hgx, hs]
      rw [this]
     rw [Fh] at hplt
     refine Ai (Ad (Ac (Ah (Az (Qx (Af (k) hX.rd.any rfl underlying57 AR rfl rfl (by omega) (by omega)) rfl (Qx (oG rfl underlying81 AR (hss _)) rfl (C4 [.int .i64 0, .int .i64 0] rfl AR rfl rfl (fun g17 => ?_))))))))
     refine Sa 0 [_, _] AR rfl (by simp [Value.oneCell']) ?_
     refine An (AA fun h14 l14 hS17 => ?_)
     have e170 : ∀ ms, Cell h14 ms (⟨g17, 0, none⟩ : Addr) (.int .i64 s.1) := fun ms => Seg.all hS17 0 _ rfl ms
     have e171 : ∀ ms, Cell h14 ms (⟨g17, 1, none⟩ : Addr) (.int .i64 s.2) := fun ms => Seg.all hS17 1 _ rfl ms
     refine Bb 11 CN (by kernel_rfl) rfl (Wm rfl (Wm rfl (Wf Cc rfl (Wl rfl underlying3 (e170 _) (AM (CA (V := kN) (z := (0 : Int)) (u := ((pl S (j + 1) s.1 : Nat) : Int)) s.1 (QD S (j + 1) s.1).symm Ba hO' (Hp.le_trans lP (Hp.le_trans l13 l14)) rfl underlying66 GP rfl rfl hs1) rfl rfl (Wf Cv rfl (Wl rfl underlying3 (e171 _) (Wm rfl (AM (oA rfl) rfl rfl (Wm rfl (AM (B5 rfl rfl rfl (by omega) (by omega)) rfl rfl (AU (Qx (F1 (pl S (j + 1) s.1) rfl underlying25 Bm rfl rfl (by omega) (by omega)) rfl ?_)))))))))))))
     refine DQ 0 (pl S (j + 1) s.1) hOc rfl Bm rfl rfl rfl (by rw [Fh]; exact hplt) rfl rfl (fun mc' hOc' => ?_)
     rw [← hcs] at hOc'
     refine Ak (Aj (Ad (Ab (Qx (oA rfl) rfl (Qm rfl (Ak ?_))))))
     exact Am (x.c.sd.length - (k + 1)) _ (by omega) ⟨k + 1, mc', rfl, rfl, Hp.le_trans l13 l14, rfl, by omega, hOc'⟩ Qs
    ·obtain rfl : k = x.c.sd.length := by omega
     refine Aw (Aa (Aa (Ag (Ad (Az (Qm rfl (Qm rfl (Qx (F1 (j) rfl underlying25 Bm rfl rfl (by omega) (by omega)) rfl ?_))))))))
     refine DQ 1 j hO2 rfl Bm rfl rfl rfl (by simp; omega) rfl rfl (fun mo' hO2' => ?_)
     refine An (EP LP (Hp.le_trans lP l13) fun h14 q14 b14 => (EP LG (b14 _ (Hp.le_trans lG (Hp.le_trans l12 l13)) (E3 lG dP)) fun h15 q15 b15 => ?_))
     have l1015 : h10.le h15 := b15 _ (b14 _ (Hp.le_trans l11 (Hp.le_trans l12 l13)) (E3 l11 dP)) dG
     have l915 := Hp.le_trans l10 l1015
     have e10 : ∀ ms, Cell h15 ms (⟨g10, 0, none⟩ : Addr) (.pointer (some ⟨g34, 0, none⟩)) := fun ms => (e10 ms).le l915
     have hcD : Ey p S j x.c.sd.length = Jc p S j := by unfold Jc; rw [hgx]
     rw [hcD] at hOc
     refine B4 (n := 22) (bs := [true, true, true, true, true, false, true, false, false, true, true, true, false, true, false, false, true, true, false, true, true, false]) [true, true, true, true, true, false, true, false, false, true, true, true, false, true, false, false, true, true, false, true, true] CN (by kernel_rfl) (by kernel_rfl) rfl rfl (QL rfl underlying62 (e10 _) (QL rfl underlying62 (e10 _) (QL rfl underlying62 (e10 _) (Qq rfl (QF EV rfl (Qq rfl (QL rfl underlying62 (e10 _) (Qq rfl (QF Jk rfl (Qq rfl (Qq rfl (QF EV rfl (Qq rfl (QF Jk rfl ?_))))))))))))))
     unfold GI
     simp only [List.cons_append, List.nil_append]
     refine T4 17 #[true, true, true, true, true, true, true, true, true, true, true, true, true, true, true, false, true, true, false, true, true, false] (fun s ms => ∃ B1 B2 gY v2 m2, ms = [B1, B2, Bf g34 101 (Ew p vA gL vr vv (List.replicate 400 0)), mP', mc, mo', m2, mv, mR, mV] ∧ Bf gY 25 [.slice (some ⟨gb, 0, none⟩) S.length S.length] ∈ [B1, B2] ∧ OwnL cU 1 25 m2 v2 (Rs ++ [.slice (some ⟨ga, 0, none⟩) S.length S.length]) ∧ Eng.Sub [(110, v2), (114, vv), (116, .slice (some ⟨gY, 0, none⟩) 1 1), (119, .pointer (some ⟨g34, 3, none⟩)), (121, .pointer (some ⟨g34, 4, none⟩)), (2, .int .i64 p), (10, .pointer (some ⟨g10, 0, none⟩)), (11, .map (some gP)), (56, vA), (57, .int .i64 S.length), (58, .int .i64 j)] s) ?_ (fun fin => ?_)
     ·rintro _ s ms rfl ⟨B1, B2, gY, v2, m2, rfl, hm, hO8, hS⟩
      refine Qo 15 rfl (Wv hS (FC 7 Ov (List.mem_append_left _ hm) (by omega) rfl rfl rfl rfl rfl rfl rfl rfl rfl (fun v3 m3 hO9 => Qw (Qo 18 rfl ?_))))
      refine AK 2 3 rfl Um rfl rfl (hO8.rd (h := h15) (ms := [m2]) (List.Mem.head _)).rd.one rfl rfl (by rw [Jy]; omega) rfl rfl ?_
      refine Qw (Qo 21 rfl ?_)
      refine AK 2 4 rfl Um rfl rfl (hO9.rd (h := h15) (ms := [m3]) (List.Mem.head _)).rd.one rfl rfl (by rw [List.length_set, Jy]; omega) rfl rfl ?_
      refine Qw (Qe ?_)
      refine AS (AS (Aj ?_))
      exact Ay _ ⟨v2, v3, _, _, m2, m3, mc, mo', mP', bs', rfl, l915, rfl, hO', hO8, hO9, hOc, hO2'⟩ Qs
     refine A0 [5, 7, 12, 14] (by kernel_rfl) rfl ?_
     refine AB rfl ?_ ?_
     ·refine Ql rfl underlying22 (Cell.blk 0 (k := 3) rfl rfl) (Qw (A0 [7, 12, 14] (by kernel_rfl) rfl ?_))
      refine AB rfl ?_ ?_
      ·refine EO rfl rfl rfl rfl rfl rfl (fun g109 => Qw (A0 [8, 12, 14] (by kernel_rfl) rfl ?_))
       refine AB rfl ?_ ?_
       ·refine FC 5 Or (.head _) (by omega) rfl rfl rfl rfl rfl rfl rfl rfl rfl (fun v2 m2 hO8 => Qw (A0 [12, 14] (by kernel_rfl) rfl ?_))
        refine AB rfl ?_ ?_
        ·refine Ql rfl underlying22 (Cell.blk 1 (k := 4) rfl rfl) (Qw (Qo 14 rfl (EO rfl rfl rfl rfl rfl rfl (fun g116 => Qw ?_))))
         exact fin _ _ _ (by kernel_rfl) ⟨_, _, _, _, _, rfl, (.head _), hO8, Qs⟩
        refine AB rfl ?_ ?_
        ·refine EO rfl rfl rfl rfl rfl rfl (fun g116 => Qw (Qo 12 rfl (Ql rfl underlying22 (Cell.blk 2 (k := 4) rfl rfl) (Qw ?_))))
         exact fin _ _ _ (by kernel_rfl) ⟨_, _, _, _, _, rfl, (.head _), hO8, Qs⟩
        exact A3
       refine AB rfl ?_ ?_
       ·refine Ql rfl underlying22 (Cell.blk 1 (k := 4) rfl rfl) (Qw (A0 [8, 14] (by kernel_rfl) rfl ?_))
        refine AB rfl ?_ ?_
        ·refine FC 5 Or (.head _) (by omega) rfl rfl rfl rfl rfl rfl rfl rfl rfl (fun v2 m2 hO8 => Qw (Qo 14 rfl (EO rfl rfl rfl rfl rfl rfl (fun g116 => Qw ?_))))
         exact fin _ _ _ (by kernel_rfl) ⟨_, _, _, _, _, rfl, (.head _), hO8, Qs⟩
        refine AB rfl ?_ ?_
        ·refine EO rfl rfl rfl rfl rfl rfl (fun g116 => Qw (Qo 8 rfl (FC 6 Or (.tail _ (.head _)) (by omega) rfl rfl rfl rfl rfl rfl rfl rfl rfl (fun v2 m2 hO8 => Qw ?_))))
         exact fin _ _ _ (by kernel_rfl) ⟨_, _, _, _, _, rfl, (.head _), hO8, Qs⟩
        exact A3
       refine AB rfl ?_ ?_
       ·refine EO rfl rfl rfl rfl rfl rfl (fun g116 => Qw (A0 [8, 12] (by kernel_rfl) rfl ?_))
        refine AB rfl ?_ ?_
        ·refine FC 6 Or (.tail _ (.head _)) (by omega) rfl rfl rfl rfl rfl rfl rfl rfl rfl (fun v2 m2 hO8 => Qw (Qo 12 rfl (Ql rfl underlying22 (Cell.blk 2 (k := 4) rfl rfl) (Qw ?_))))
         exact fin _ _ _ (by kernel_rfl) ⟨_, _, _, _, _, rfl, (.head _), hO8, Qs⟩
        refine AB rfl ?_ ?_
        ·refine Ql rfl underlying22 (Cell.blk 2 (k := 4) rfl rfl) (Qw (Qo 8 rfl (FC 6 Or (.tail _ (.head _)) (by omega) rfl rfl rfl rfl rfl rfl rfl rfl rfl (fun v2 m2 hO8 => Qw ?_))))
         exact fin _ _ _ (by kernel_rfl) ⟨_, _, _, _, _, rfl, (.head _), hO8, Qs⟩
        exact A3
       exact A3
      refine AB rfl ?_ ?_
      ·refine Ql rfl underlying22 (Cell.blk 0 (k := 4) rfl rfl) (Qw (A0 [7, 14] (by kernel_rfl) rfl ?_))
       refine AB rfl ?_ ?_
       ·refine EO rfl rfl rfl rfl rfl rfl (fun g109 => Qw (A0 [8, 14] (by kernel_rfl) rfl ?_))
        refine AB rfl ?_ ?_
        ·refine FC 5 Or (.head _) (by omega) rfl rfl rfl rfl rfl rfl rfl rfl rfl (fun v2 m2 hO8 => Qw (Qo 14 rfl (EO rfl rfl rfl rfl rfl rfl (fun g116 => Qw ?_))))
         exact fin _ _ _ (by kernel_rfl) ⟨_, _, _, _, _, rfl, (.head _), hO8, Qs⟩
        refine AB rfl ?_ ?_
        ·refine EO rfl rfl rfl rfl rfl rfl (fun g116 => Qw (Qo 8 rfl (FC 6 Or (.tail _ (.head _)) (by omega) rfl rfl rfl rfl rfl rfl rfl rfl rfl (fun v2 m2 hO8 => Qw ?_))))
         exact fin _ _ _ (by kernel_rfl) ⟨_, _, _, _, _, rfl, (.head _), hO8, Qs⟩
        exact A3
       refine AB rfl ?_ ?_
       ·refine EO rfl rfl rfl rfl rfl rfl (fun g116 => Qw (Qo 7 rfl (EO rfl rfl rfl rfl rfl rfl (fun g109 => Qw (Qo 8 rfl (FC 6 Or (.head _) (by omega) rfl rfl rfl rfl rfl rfl rfl rfl rfl (fun v2 m2 hO8 => Qw ?_)))))))
        exact fin _ _ _ (by kernel_rfl) ⟨_, _, _, _, _, rfl, (.tail _ (.head _)), hO8, Qs⟩
       exact A3
      refine AB rfl ?_ ?_
      ·refine EO rfl rfl rfl rfl rfl rfl (fun g116 => Qw (A0 [7, 12] (by kernel_rfl) rfl ?_))
       refine AB rfl ?_ ?_
       ·refine EO rfl rfl rfl rfl rfl rfl (fun g109 => Qw (A0 [8, 12] (by kernel_rfl) rfl ?_))
        refine AB rfl ?_ ?_
        ·refine FC 6 Or (.head _) (by omega) rfl rfl rfl rfl rfl rfl rfl rfl rfl (fun v2 m2 hO8 => Qw (Qo 12 rfl (Ql rfl underlying22 (Cell.blk 2 (k := 4) rfl rfl) (Qw ?_))))
         exact fin _ _ _ (by kernel_rfl) ⟨_, _, _, _, _, rfl, (.tail _ (.head _)), hO8, Qs⟩
        refine AB rfl ?_ ?_
        ·refine Ql rfl underlying22 (Cell.blk 2 (k := 4) rfl rfl) (Qw (Qo 8 rfl (FC 6 Or (.head _) (by omega) rfl rfl rfl rfl rfl rfl rfl rfl rfl (fun v2 m2 hO8 => Qw ?_))))
         exact fin _ _ _ (by kernel_rfl) ⟨_, _, _, _, _, rfl, (.tail _ (.head _)), hO8, Qs⟩
        exact A3
       refine AB rfl ?_ ?_
       ·refine Ql rfl underlying22 (Cell.blk 1 (k := 4) rfl rfl) (Qw (Qo 7 rfl (EO rfl rfl rfl rfl rfl rfl (fun g109 => Qw (Qo 8 rfl (FC 6 Or (.head _) (by omega) rfl rfl rfl rfl rfl rfl rfl rfl rfl (fun v2 m2 hO8 => Qw ?_)))))))
        exact fin _ _ _ (by kernel_rfl) ⟨_, _, _, _, _, rfl, (.tail _ (.head _)), hO8, Qs⟩
       exact A3
      exact A3
     refine AB rfl ?_ ?_
     ·refine EO rfl rfl rfl rfl rfl rfl (fun g109 => Qw (A0 [5, 12, 14] (by kernel_rfl) rfl ?_))
      refine AB rfl ?_ ?_
      ·refine Ql rfl underlying22 (Cell.blk 1 (k := 3) rfl rfl) (Qw (A0 [8, 12, 14] (by kernel_rfl) rfl ?_))
       refine AB rfl ?_ ?_
       ·refine FC 5 Or (.head _) (by omega) rfl rfl rfl rfl rfl rfl rfl rfl rfl (fun v2 m2 hO8 => Qw (A0 [12, 14] (by kernel_rfl) rfl ?_))
        refine AB rfl ?_ ?_
        ·refine Ql rfl underlying22 (Cell.blk 1 (k := 4) rfl rfl) (Qw (Qo 14 rfl (EO rfl rfl rfl rfl rfl rfl (fun g116 => Qw ?_))))
         exact fin _ _ _ (by kernel_rfl) ⟨_, _, _, _, _, rfl, (.head _), hO8, Qs⟩
        refine AB rfl ?_ ?_
        ·refine EO rfl rfl rfl rfl rfl rfl (fun g116 => Qw (Qo 12 rfl (Ql rfl underlying22 (Cell.blk 2 (k := 4) rfl rfl) (Qw ?_))))
         exact fin _ _ _ (by kernel_rfl) ⟨_, _, _, _, _, rfl, (.head _), hO8, Qs⟩
        exact A3
       refine AB rfl ?_ ?_
       ·refine Ql rfl underlying22 (Cell.blk 1 (k := 4) rfl rfl) (Qw (A0 [8, 14] (by kernel_rfl) rfl ?_))
        refine AB rfl ?_ ?_
        ·refine FC 5 Or (.head _) (by omega) rfl rfl rfl rfl rfl rfl rfl rfl rfl (fun v2 m2 hO8 => Qw (Qo 14 rfl (EO rfl rfl rfl rfl rfl rfl (fun g116 => Qw ?_))))
         exact fin _ _ _ (by kernel_rfl) ⟨_, _, _, _, _, rfl, (.head _), hO8, Qs⟩
        refine AB rfl ?_ ?_
        ·refine EO rfl rfl rfl rfl rfl rfl (fun g116 => Qw (Qo 8 rfl (FC 6 Or (.tail _ (.head _)) (by omega) rfl rfl rfl rfl rfl rfl rfl rfl rfl (fun v2 m2 hO8 => Qw ?_))))
         exact fin _ _ _ (by kernel_rfl) ⟨_, _, _, _, _, rfl, (.head _), hO8, Qs⟩
        exact A3
       refine AB rfl ?_ ?_
       ·refine EO rfl rfl rfl rfl rfl rfl (fun g116 => Qw (A0 [8, 12] (by kernel_rfl) rfl ?_))
        refine AB rfl ?_ ?_
        ·refine FC 6 Or (.tail _ (.head _)) (by omega) rfl rfl rfl rfl rfl rfl rfl rfl rfl (fun v2 m2 hO8 => Qw (Qo 12 rfl (Ql rfl underlying22 (Cell.blk 2 (k := 4) rfl rfl) (Qw ?_))))
         exact fin _ _ _ (by kernel_rfl) ⟨_, _, _, _, _, rfl, (.head _), hO8, Qs⟩
        refine AB rfl ?_ ?_
        ·refine Ql rfl underlying22 (Cell.blk 2 (k := 4) rfl rfl) (Qw (Qo 8 rfl (FC 6 Or (.tail _ (.head _)) (by omega) rfl rfl rfl rfl rfl rfl rfl rfl rfl (fun v2 m2 hO8 => Qw ?_))))
         exact fin _ _ _ (by kernel_rfl) ⟨_, _, _, _, _, rfl, (.head _), hO8, Qs⟩
        exact A3
       exact A3
      refine AB rfl ?_ ?_
      ·refine Ql rfl underlying22 (Cell.blk 1 (k := 4) rfl rfl) (Qw (A0 [5, 14] (by kernel_rfl) rfl ?_))
       refine AB rfl ?_ ?_
       ·refine Ql rfl underlying22 (Cell.blk 1 (k := 3) rfl rfl) (Qw (A0 [8, 14] (by kernel_rfl) rfl ?_))
        refine AB rfl ?_ ?_
        ·refine FC 5 Or (.head _) (by omega) rfl rfl rfl rfl rfl rfl rfl rfl rfl (fun v2 m2 hO8 => Qw (Qo 14 rfl (EO rfl rfl rfl rfl rfl rfl (fun g116 => Qw ?_))))
         exact fin _ _ _ (by kernel_rfl) ⟨_, _, _, _, _, rfl, (.head _), hO8, Qs⟩
        refine AB rfl ?_ ?_
        ·refine EO rfl rfl rfl rfl rfl rfl (fun g116 => Qw (Qo 8 rfl (FC 6 Or (.tail _ (.head _)) (by omega) rfl rfl rfl rfl rfl rfl rfl rfl rfl (fun v2 m2 hO8 => Qw ?_))))
         exact fin _ _ _ (by kernel_rfl) ⟨_, _, _, _, _, rfl, (.head _), hO8, Qs⟩
        exact A3
       refine AB rfl ?_ ?_
       ·refine EO rfl rfl rfl rfl rfl rfl (fun g116 => Qw (Qo 5 rfl (Ql rfl underlying22 (Cell.blk 2 (k := 3) rfl rfl) (Qw (Qo 8 rfl (FC 6 Or (.tail _ (.head _)) (by omega) rfl rfl rfl rfl rfl rfl rfl rfl rfl (fun v2 m2 hO8 => Qw ?_)))))))
        exact fin _ _ _ (by kernel_rfl) ⟨_, _, _, _, _, rfl, (.head _), hO8, Qs⟩
       exact A3
      refine AB rfl ?_ ?_
      ·refine EO rfl rfl rfl rfl rfl rfl (fun g116 => Qw (A0 [5, 12] (by kernel_rfl) rfl ?_))
       refine AB rfl ?_ ?_
       ·refine Ql rfl underlying22 (Cell.blk 2 (k := 3) rfl rfl) (Qw (A0 [8, 12] (by kernel_rfl) rfl ?_))
        refine AB rfl ?_ ?_
        ·refine FC 6 Or (.tail _ (.head _)) (by omega) rfl rfl rfl rfl rfl rfl rfl rfl rfl (fun v2 m2 hO8 => Qw (Qo 12 rfl (Ql rfl underlying22 (Cell.blk 2 (k := 4) rfl rfl) (Qw ?_))))
         exact fin _ _ _ (by kernel_rfl) ⟨_, _, _, _, _, rfl, (.head _), hO8, Qs⟩
        refine AB rfl ?_ ?_
        ·refine Ql rfl underlying22 (Cell.blk 2 (k := 4) rfl rfl) (Qw (Qo 8 rfl (FC 6 Or (.tail _ (.head _)) (by omega) rfl rfl rfl rfl rfl rfl rfl rfl rfl (fun v2 m2 hO8 => Qw ?_))))
         exact fin _ _ _ (by kernel_rfl) ⟨_, _, _, _, _, rfl, (.head _), hO8, Qs⟩
        exact A3
       refine AB rfl ?_ ?_
       ·refine Ql rfl underlying22 (Cell.blk 2 (k := 4) rfl rfl) (Qw (Qo 5 rfl (Ql rfl underlying22 (Cell.blk 2 (k := 3) rfl rfl) (Qw (Qo 8 rfl (FC 6 Or (.tail _ (.head _)) (by omega) rfl rfl rfl rfl rfl rfl rfl rfl rfl (fun v2 m2 hO8 => Qw ?_)))))))
        exact fin _ _ _ (by kernel_rfl) ⟨_, _, _, _, _, rfl, (.head _), hO8, Qs⟩
       exact A3
      exact A3
     refine AB rfl ?_ ?_
     ·refine Ql rfl underlying22 (Cell.blk 0 (k := 4) rfl rfl) (Qw (A0 [5, 7, 14] (by kernel_rfl) rfl ?_))
      refine AB rfl ?_ ?_
      ·refine Ql rfl underlying22 (Cell.blk 0 (k := 3) rfl rfl) (Qw (A0 [7, 14] (by kernel_rfl) rfl ?_))
       refine AB rfl ?_ ?_
       ·refine EO rfl rfl rfl rfl rfl rfl (fun g109 => Qw (A0 [8, 14] (by kernel_rfl) rfl ?_))
        refine AB rfl ?_ ?_
        ·refine FC 5 Or (.head _) (by omega) rfl rfl rfl rfl rfl rfl rfl rfl rfl (fun v2 m2 hO8 => Qw (Qo 14 rfl (EO rfl rfl rfl rfl rfl rfl (fun g116 => Qw ?_))))
         exact fin _ _ _ (by kernel_rfl) ⟨_, _, _, _, _, rfl, (.head _), hO8, Qs⟩
        refine AB rfl ?_ ?_
        ·refine EO rfl rfl rfl rfl rfl rfl (fun g116 => Qw (Qo 8 rfl (FC 6 Or (.tail _ (.head _)) (by omega) rfl rfl rfl rfl rfl rfl rfl rfl rfl (fun v2 m2 hO8 => Qw ?_))))
         exact fin _ _ _ (by kernel_rfl) ⟨_, _, _, _, _, rfl, (.head _), hO8, Qs⟩
        exact A3
       refine AB rfl ?_ ?_
       ·refine EO rfl rfl rfl rfl rfl rfl (fun g116 => Qw (Qo 7 rfl (EO rfl rfl rfl rfl rfl rfl (fun g109 => Qw (Qo 8 rfl (FC 6 Or (.head _) (by omega) rfl rfl rfl rfl rfl rfl rfl rfl rfl (fun v2 m2 hO8 => Qw ?_)))))))
        exact fin _ _ _ (by kernel_rfl) ⟨_, _, _, _, _, rfl, (.tail _ (.head _)), hO8, Qs⟩
       exact A3
      refine AB rfl ?_ ?_
      ·refine EO rfl rfl rfl rfl rfl rfl (fun g109 => Qw (A0 [5, 14] (by kernel_rfl) rfl ?_))
       refine AB rfl ?_ ?_
       ·refine Ql rfl underlying22 (Cell.blk 1 (k := 3) rfl rfl) (Qw (A0 [8, 14] (by kernel_rfl) rfl ?_))
        refine AB rfl ?_ ?_
        ·refine FC 5 Or (.head _) (by omega) rfl rfl rfl rfl rfl rfl rfl rfl rfl (fun v2 m2 hO8 => Qw (Qo 14 rfl (EO rfl rfl rfl rfl rfl rfl (fun g116 => Qw ?_))))
         exact fin _ _ _ (by kernel_rfl) ⟨_, _, _, _, _, rfl, (.head _), hO8, Qs⟩
        refine AB rfl ?_ ?_
        ·refine EO rfl rfl rfl rfl rfl rfl (fun g116 => Qw (Qo 8 rfl (FC 6 Or (.tail _ (.head _)) (by omega) rfl rfl rfl rfl rfl rfl rfl rfl rfl (fun v2 m2 hO8 => Qw ?_))))
         exact fin _ _ _ (by kernel_rfl) ⟨_, _, _, _, _, rfl, (.head _), hO8, Qs⟩
        exact A3
       refine AB rfl ?_ ?_
       ·refine EO rfl rfl rfl rfl rfl rfl (fun g116 => Qw (Qo 5 rfl (Ql rfl underlying22 (Cell.blk 2 (k := 3) rfl rfl) (Qw (Qo 8 rfl (FC 6 Or (.tail _ (.head _)) (by omega) rfl rfl rfl rfl rfl rfl rfl rfl rfl (fun v2 m2 hO8 => Qw ?_)))))))
        exact fin _ _ _ (by kernel_rfl) ⟨_, _, _, _, _, rfl, (.head _), hO8, Qs⟩
       exact A3
      refine AB rfl ?_ ?_
      ·refine EO rfl rfl rfl rfl rfl rfl (fun g116 => Qw (A0 [5, 7] (by kernel_rfl) rfl ?_))
       refine AB rfl ?_ ?_
       ·refine Ql rfl underlying22 (Cell.blk 1 (k := 3) rfl rfl) (Qw (Qo 7 rfl (EO rfl rfl rfl rfl rfl rfl (fun g109 => Qw (Qo 8 rfl (FC 6 Or (.head _) (by omega) rfl rfl rfl rfl rfl rfl rfl rfl rfl (fun v2 m2 hO8 => Qw ?_)))))))
        exact fin _ _ _ (by kernel_rfl) ⟨_, _, _, _, _, rfl, (.tail _ (.head _)), hO8, Qs⟩
       refine AB rfl ?_ ?_
       ·refine EO rfl rfl rfl rfl rfl rfl (fun g109 => Qw (Qo 5 rfl (Ql rfl underlying22 (Cell.blk 2 (k := 3) rfl rfl) (Qw (Qo 8 rfl (FC 6 Or (.head _) (by omega) rfl rfl rfl rfl rfl rfl rfl rfl rfl (fun v2 m2 hO8 => Qw ?_)))))))
        exact fin _ _ _ (by kernel_rfl) ⟨_, _, _, _, _, rfl, (.tail _ (.head _)), hO8, Qs⟩
       exact A3
      exact A3
     refine AB rfl ?_ ?_
     ·refine EO rfl rfl rfl rfl rfl rfl (fun g116 => Qw (A0 [5, 7, 12] (by kernel_rfl) rfl ?_))
      refine AB rfl ?_ ?_
      ·refine Ql rfl underlying22 (Cell.blk 1 (k := 3) rfl rfl) (Qw (A0 [7, 12] (by kernel_rfl) rfl ?_))
       refine AB rfl ?_ ?_
       ·refine EO rfl rfl rfl rfl rfl rfl (fun g109 => Qw (A0 [8, 12] (by kernel_rfl) rfl ?_))
        refine AB rfl ?_ ?_
        ·refine FC 6 Or (.head _) (by omega) rfl rfl rfl rfl rfl rfl rfl rfl rfl (fun v2 m2 hO8 => Qw (Qo 12 rfl (Ql rfl underlying22 (Cell.blk 2 (k := 4) rfl rfl) (Qw ?_))))
         exact fin _ _ _ (by kernel_rfl) ⟨_, _, _, _, _, rfl, (.tail _ (.head _)), hO8, Qs⟩
        refine AB rfl ?_ ?_
        ·refine Ql rfl underlying22 (Cell.blk 2 (k := 4) rfl rfl) (Qw (Qo 8 rfl (FC 6 Or (.head _) (by omega) rfl rfl rfl rfl rfl rfl rfl rfl rfl (fun v2 m2 hO8 => Qw ?_))))
         exact fin _ _ _ (by kernel_rfl) ⟨_, _, _, _, _, rfl, (.tail _ (.head _)), hO8, Qs⟩
        exact A3
       refine AB rfl ?_ ?_
       ·refine Ql rfl underlying22 (Cell.blk 1 (k := 4) rfl rfl) (Qw (Qo 7 rfl (EO rfl rfl rfl rfl rfl rfl (fun g109 => Qw (Qo 8 rfl (FC 6 Or (.head _) (by omega) rfl rfl rfl rfl rfl rfl rfl rfl rfl (fun v2 m2 hO8 => Qw ?_)))))))
        exact fin _ _ _ (by kernel_rfl) ⟨_, _, _, _, _, rfl, (.tail _ (.head _)), hO8, Qs⟩
       exact A3
      refine AB rfl ?_ ?_
      ·refine EO rfl rfl rfl rfl rfl rfl (fun g109 => Qw (A0 [5, 12] (by kernel_rfl) rfl ?_))
       refine AB rfl ?_ ?_
       ·refine Ql rfl underlying22 (Cell.blk 2 (k := 3) rfl rfl) (Qw (A0 [8, 12] (by kernel_rfl) rfl ?_))
        refine AB rfl ?_ ?_
        ·refine FC 6 Or (.head _) (by omega) rfl rfl rfl rfl rfl rfl rfl rfl rfl (fun v2 m2 hO8 => Qw (Qo 12 rfl (Ql rfl underlying22 (Cell.blk 2 (k := 4) rfl rfl) (Qw ?_))))
         exact fin _ _ _ (by kernel_rfl) ⟨_, _, _, _, _, rfl, (.tail _ (.head _)), hO8, Qs⟩
        refine AB rfl ?_ ?_
        ·refine Ql rfl underlying22 (Cell.blk 2 (k := 4) rfl rfl) (Qw (Qo 8 rfl (FC 6 Or (.head _) (by omega) rfl rfl rfl rfl rfl rfl rfl rfl rfl (fun v2 m2 hO8 => Qw ?_))))
         exact fin _ _ _ (by kernel_rfl) ⟨_, _, _, _, _, rfl, (.tail _ (.head _)), hO8, Qs⟩
        exact A3
       refine AB rfl ?_ ?_
       ·refine Ql rfl underlying22 (Cell.blk 2 (k := 4) rfl rfl) (Qw (Qo 5 rfl (Ql rfl underlying22 (Cell.blk 2 (k := 3) rfl rfl) (Qw (Qo 8 rfl (FC 6 Or (.head _) (by omega) rfl rfl rfl rfl rfl rfl rfl rfl rfl (fun v2 m2 hO8 => Qw ?_)))))))
        exact fin _ _ _ (by kernel_rfl) ⟨_, _, _, _, _, rfl, (.tail _ (.head _)), hO8, Qs⟩
       exact A3
      refine AB rfl ?_ ?_
      ·refine Ql rfl underlying22 (Cell.blk 1 (k := 4) rfl rfl) (Qw (A0 [5, 7] (by kernel_rfl) rfl ?_))
       refine AB rfl ?_ ?_
       ·refine Ql rfl underlying22 (Cell.blk 1 (k := 3) rfl rfl) (Qw (Qo 7 rfl (EO rfl rfl rfl rfl rfl rfl (fun g109 => Qw (Qo 8 rfl (FC 6 Or (.head _) (by omega) rfl rfl rfl rfl rfl rfl rfl rfl rfl (fun v2 m2 hO8 => Qw ?_)))))))
        exact fin _ _ _ (by kernel_rfl) ⟨_, _, _, _, _, rfl, (.tail _ (.head _)), hO8, Qs⟩
       refine AB rfl ?_ ?_
       ·refine EO rfl rfl rfl rfl rfl rfl (fun g109 => Qw (Qo 5 rfl (Ql rfl underlying22 (Cell.blk 2 (k := 3) rfl rfl) (Qw (Qo 8 rfl (FC 6 Or (.head _) (by omega) rfl rfl rfl rfl rfl rfl rfl rfl rfl (fun v2 m2 hO8 => Qw ?_)))))))
        exact fin _ _ _ (by kernel_rfl) ⟨_, _, _, _, _, rfl, (.tail _ (.head _)), hO8, Qs⟩
       exact A3
      exact A3
     exact A3
  ·obtain ⟨vr', vv', va, vb, mr', mv', mc, mo, mP', bs', rfl, l10, rfl, hO', Or', Ov', hOc, hOu⟩ := hI
   refine Ab (Qx (oA rfl) rfl (Qm rfl (Ak (EC fun hap => ?_))))
   simp only [List.pairwise_cons, List.mem_cons, List.not_mem_nil, or_false, forall_eq_or_imp, forall_eq] at hap
   have d1 : mR.disj mc := Hp.disj_symm hap.2.2.1.2.2.2.1
   have d2 : mV.disj mo := Hp.disj_symm hap.2.2.2.1.2.2.2
   have CR' := CR.snoc hOc d1
   have CV' := CV.snoc hOu d2
   rw [← FQ] at CR' CV'
   refine CQ 3 rfl (CQ 7 rfl (EU (CQ 3 rfl (CQ 6 rfl (EU (CQ 2 rfl (CQ 3 rfl (CQ 3 rfl (CQ 3 rfl (CQ 5 rfl (CQ 5 rfl ?_)))))))))))
   exact Am (S.length - (j + 1)) _ (by omega) ⟨j + 1, vr', vv', mr', mv', _, _, mP', _, _, bs', rfl, rfl, Hp.le_trans l9 l10, rfl, by omega, hO', Or', Ov', CR', CV', by rw [List.length_append, hRl]; rfl, by rw [List.length_append, hVl]; rfl⟩ Qs
 ·obtain rfl : j = S.length := by omega
  refine Aw (Aa (Aa (Ag (Ad (Az (Ql rfl underlying62 (e10 _) (Qm rfl (Qm rfl (An (Aq (Fv Or fun h10 l10 hRr => (Fv Ov fun h11 l11 hRv => (CQ 2 rfl (AS (CQ 2 rfl ?_)))))))))))))))
  have l911 := Hp.le_trans l9 (Hp.le_trans l10 l11)
  exact BH rfl rfl rfl (⟨Hp.le_trans l1 (Hp.le_trans l2 (Hp.le_trans l3 (Hp.le_trans l38 l911))), g34, gL, mL, bL, S, vA, vr, vv, Rs, Vs, mR, mV, rfl, rfl, hOL, Hp.le_trans lL8 l911, hQ.up (Hp.le_trans l10 l11), hRr.up l11, hRv, CR, CV, hSc, hsrt, fun a ha => (hSA a ha).up l911⟩)
end Go.Proofs.YtodheebhahdepaaGreat
namespace Go.Proofs.YtodheebhahdepaaGreat
open Go.Proofs.Tryz
open Go.Eng Go.RowKit Go.Lin Go.Sort Go.Srt
variable {j n : Nat} {p : Int} {R V : Nat → List Int} {r v : List Int} {α : Type}
theorem Ops.congr {R' V' : Nat → List Int} {r1 v1 : List Int} (h : Ops p n j R V r v r1 v1) (hR : ∀ k, k < j → R k = R' k) (hV : ∀ k, k < j → V k = V' k) : Ops p n j R' V' r v r1 v1 := by
 induction h with
 | refl => exact .refl
 | step h hk hi h0 h1 h2 h3 ih =>
  rw [hR _ hk] at h3 ⊢
  rw [hV _ hk]
  exact ih.step hk hi h0 h1 h2 h3
def upd (R : Nat → α) (j : Nat) (r : α) (k : Nat) : α := if k = j then r else R k
theorem E7 (R : Nat → α) (j : Nat) (r : α) : upd R j r j = r := if_pos rfl
theorem D6 (R : Nat → α) {k : Nat} (r : α) (h : k ≠ j) : upd R j r k = R k := if_neg h
theorem Red.next {la la' : List Int} (D : Red p n j R V la) (hn : n ≤ 400) (lr : r.length = n) (lv : v.length = n) (rr : Jz p r) (rv : Jz p v) (hL : Yw j r la la') : Red p n (j + 1) (upd R j r) (upd V j v) la' := by
 have hb := Kw r
 have hlt : ∀ {k}, k < j + 1 → k ≠ j → k < j := fun h1 h2 => by omega
 refine ⟨fun k hk => ?_, fun k hk => ?_, fun k hk => ?_, fun k hk => ?_, ?_, fun i hi => ?_, fun k hk h0 => ?_⟩
 ·by_cases e : k = j
  ·rw [e, E7]; exact lr
  ·rw [D6 _ _ e]; exact D.rl k (hlt hk e)
 ·by_cases e : k = j
  ·rw [e, E7]; exact lv
  ·rw [D6 _ _ e]; exact D.vl k (hlt hk e)
 ·by_cases e : k = j
  ·rw [e, E7]; exact rr
  ·rw [D6 _ _ e]; exact D.rr k (hlt hk e)
 ·by_cases e : k = j
  ·rw [e, E7]; exact rv
  ·rw [D6 _ _ e]; exact D.vr k (hlt hk e)
 ·rcases hL with ⟨_, rfl⟩ | ⟨_, _, rfl⟩
  ·exact D.ll
  ·rw [List.length_set]; exact D.ll
 ·have hold : la.getD i 0 = 0 ∨ ∃ k, k < j + 1 ∧ la.getD i 0 = (k : Int) + 1 ∧ Bs (upd R j r k) = i := by
   rcases D.a0 i hi with h | ⟨k, hk, h1, h2⟩
   ·exact .inl h
   ·exact .inr ⟨k, by omega, h1, by rw [D6 _ _ (by omega)]; exact h2⟩
  rcases hL with ⟨_, rfl⟩ | ⟨h1, h2, rfl⟩
  ·exact hold
  ·by_cases e : (Bs r).toNat = i
   ·refine .inr ⟨j, by omega, ?_, by rw [E7]; omega⟩
    simp [List.getD, e, D.ll, hi]
   ·rw [show (la.set (Bs r).toNat ((j : Int) + 1)).getD i 0 = la.getD i 0 by simp [List.getD, List.getElem?_set_ne e]]
    exact hold
 ·by_cases e : k = j
  ·rw [e, E7] at h0 ⊢
   rcases hL with ⟨h1, _⟩ | ⟨h1, h2, rfl⟩
   ·omega
   ·have : (Bs r).toNat < la.length := by rw [D.ll]; omega
    simp [List.getD, this]
  ·rw [D6 _ _ e] at h0 ⊢
   have h3 := D.a1 k (hlt hk e) h0
   rcases hL with ⟨_, rfl⟩ | ⟨h1, h2, rfl⟩
   ·exact h3
   ·have hne : (Bs r).toNat ≠ (Bs (R k)).toNat := fun e => by rw [e, h3] at h2; omega
    rw [show (la.set (Bs r).toNat ((j : Int) + 1)).getD (Bs (R k)).toNat 0 = la.getD (Bs (R k)).toNat 0 by simp [List.getD, List.getElem?_set_ne hne]]
    exact h3
theorem ColsO.head {vs : List Value} {cs : List (List Int)} {m : Hp} (h : ColsO m (vs.drop j) (cs.drop j)) (hj : j < vs.length) (hc : j < cs.length) : ∃ a b, m = a.join b ∧ a.disj b ∧ OwnL cI 1 3 a (vs.getD j undef) cs[j] ∧ ColsO b (vs.drop (j + 1)) (cs.drop (j + 1)) := by
 rw [List.drop_eq_getElem_cons hj, List.drop_eq_getElem_cons hc] at h
 obtain ⟨a, b, h1, h2, h3, h4⟩ := h
 exact ⟨a, b, h1, h2, by rw [show vs.getD j undef = vs[j] by simp [List.getD, hj]]; exact h3, h4⟩
def XS (g : Nat) : Value := .func (.func 54) #[.pointer (some ⟨g, 0, none⟩)] #[]
structure AllC (p : Int) (S : List Ce) (n j : Nat) (R V : Nat → List Int) (la : List Int) : Prop where
 red : Red p n j R V la
 ops : ∀ k, k < j → Ops p n k R V (Jc p S k) (Es n k) (R k) (V k)
theorem AllC.next {S : List Ce} {la la' : List Int} (D : AllC p S n j R V la) (hn : n ≤ 400) (lr : r.length = n) (lv : v.length = n) (rr : Jz p r) (rv : Jz p v) (hL : Yw j r la la') (hO : Ops p n j R V (Jc p S j) (Es n j) r v) : AllC p S n (j + 1) (upd R j r) (upd V j v) la' := by
 refine ⟨D.red.next hn lr lv rr rv hL, fun k hk => ?_⟩
 have e1 : ∀ i, i < j → R i = upd R j r i := fun i hi => (D6 _ _ (by omega)).symm
 have e2 : ∀ i, i < j → V i = upd V j v i := fun i hi => (D6 _ _ (by omega)).symm
 by_cases e : k = j
 ·subst e
  rw [E7, E7]
  exact hO.congr e1 e2
 ·have hk' : k < j := by omega
  rw [D6 _ _ e, D6 _ _ e]
  exact (D.ops k hk').congr (fun i hi => e1 i (by omega)) (fun i hi => e2 i (by omega))
theorem SX (p : Int) (S : List Ce) (n : Nat) : AllC p S n 0 (fun _ => []) (fun _ => []) (List.replicate 400 0) := by
 refine ⟨⟨fun k hk => (by omega), fun k hk => (by omega), fun k hk => (by omega), fun k hk => (by omega), by simp, fun i hi => .inl ?_, fun k hk => (by omega)⟩, fun k hk => (by omega)⟩
 have : ∀ m, i < m → (List.replicate m (0 : Int)).getD i 0 = 0 := fun m h => by simp [List.getD, h]
 exact this 400 hi
theorem Vn (p : Int) (S : List Ce) (g gA : Nat) (vc vr vv : Value) (Rs Vs : List Value) (mR mV h : Hp) (hp : IsP p) (hn : S.length ≤ 400) (oc : vc.oneCell' = true)
  (hRs : RdL cU 1 h [] vr Rs) (hVs : RdL cU 1 h [] vv Vs) (CR : ColsO mR Rs ((List.range S.length).map (Jc p S))) (CV : ColsO mV Vs ((List.range S.length).map (Es S.length))) :
  FnT Tryz.prog 53 #[.int .i64 S.length, XS g] h [Bf g 101 (Ew p vc gA vr vv (List.replicate 400 0)), mR, mV] (fun _ h' ms' => h.le h' ∧ ∃ R V la, ms' = [Bf g 101 (Ew p vc gA vr vv la)] ∧ AllC p S S.length S.length R V la ∧ (∀ k, k < S.length → RdL cI 1 h' [] (Rs.getD k undef) (R k)) ∧ ∀ k, k < S.length → RdL cI 1 h' [] (Vs.getD k undef) (V k)) := by
 have hp1 := hp.1
 have lR : Rs.length = S.length := by have := CR.len; simpa using this
 have lV : Vs.length = S.length := by have := CV.len; simpa using this
 obtain ⟨n, hSn⟩ : ∃ n, S.length = n := ⟨_, rfl⟩
 rw [hSn] at hn CR CV lR lV ⊢
 refine Av func53 ntmps53 rfl rfl (fun w0 hw0 => ?_)
 simp only [A5]
 refine Az (Qm rfl (Qm rfl (An (Ah ?_))))
 refine AD (fun q sl h' ms' => ∃ (j : Nat) (R V : Nat → List Int) (la : List Int) (mR mV : Hp), q = n - j ∧ sl = [(1, XS g), (5, .int .i64 n), (6, .int .i64 j)] ∧ h.le h' ∧ ms' = [Bf g 101 (Ew p vc gA vr vv la), mR, mV] ∧ j ≤ n ∧ ColsO mR (Rs.drop j) (((List.range n).map (Jc p S)).drop j) ∧ ColsO mV (Vs.drop j) (((List.range n).map (Es n)).drop j) ∧ AllC p S n j R V la ∧ (∀ k, k < j → RdL cI 1 h' [] (Rs.getD k undef) (R k)) ∧ ∀ k, k < j → RdL cI 1 h' [] (Vs.getD k undef) (V k))
  (n - 0) _ ⟨0, _, _, _, mR, mV, rfl, rfl, Hp.le_refl _, rfl, by omega, CR, CV, SX p S n, fun k hk => by omega, fun k hk => by omega⟩ Qs ?_
 rintro q sl h' ms' ⟨j, R, V, la, mR, mV, rfl, rfl, l1, rfl, hj, CR, CV, A, hR, hV⟩
 have hRs := hRs.up l1
 have hVs := hVs.up l1
 refine Az (Qm rfl (An (Ac ?_)))
 refine Ax rfl (fun hlt => ?_) (fun hlt => ?_)
 ·have hjn : j < n := by omega
  obtain ⟨a, b, rfl, dab, Oa, CR'⟩ := CR.head (by omega) (by simpa using hjn)
  obtain ⟨c, d, rfl, dcd, Oc, CV'⟩ := CV.head (by omega) (by simpa using hjn)
  rw [List.getElem_map, List.getElem_range] at Oa Oc
  refine EE 1 rfl (Ig dab (EE 3 rfl (Ig dcd (EE 2 rfl (EE 4 rfl (Ai (Ad (Ac (Ah (Az (Qm rfl (Qm rfl (GZ (Qm rfl (Qm rfl ?_)))))))))))))))
  refine Dt (pre := [Bf g 101 (Ew p vc gA vr vv la), a, c]) rfl rfl call54 rfl (RY p n j g gA vc vr vv Rs Vs R V la _ _ a c h' hp hn hjn hRs hVs lR lV hR hV A.red oc Oa Oc (by rw [show (Jc p S j).length = S.length from Fh _ _ _ _]; exact hSn) (Lb n j) (MN (by omega) S j _) (Ro hp1 n j)) rfl rfl rfl rfl (fun v' h2 pre' l2 hF => ?_)
  obtain ⟨l2', r', v2, la', a', c', rfl, Oa', Oc', hO, lr, lv, rr, rv, hL⟩ := hF
  simp only [List.cons_append, List.nil_append, List.append_nil]
  refine OZ 1 rfl (A7 Oa' fun h3 l3 hr' => (OZ 1 rfl (A7 Oc' fun h4 l4 hv' => ?_)))
  have l24 := Hp.le_trans l3 l4
  have l14 := Hp.le_trans l2 l24
  have A' := A.next hn lr lv rr rv hL hO
  have hR' : ∀ k, k < j + 1 → RdL cI 1 h4 [] (Rs.getD k undef) (upd R j r' k) := fun k hk => by
   by_cases e : k = j
   ·rw [e, E7]; exact hr'.up l4
   ·rw [D6 _ _ e]; exact (hR k (by omega)).up l14
  have hV' : ∀ k, k < j + 1 → RdL cI 1 h4 [] (Vs.getD k undef) (upd V j v2 k) := fun k hk => by
   by_cases e : k = j
   ·rw [e, E7]; exact hv'
   ·rw [D6 _ _ e]; exact (hV k (by omega)).up l14
  refine Ak (Aj (Ad (Ab (Qx (oA rfl) rfl (Qm rfl (Ak (CQ 2 rfl (CQ 1 rfl ?_))))))))
  exact Am (n - (j + 1)) _ (by omega) ⟨j + 1, _, _, la', b, d, rfl, rfl, Hp.le_trans l1 l14, rfl, by omega, CR', CV', A', hR', hV'⟩ Qs
 ·obtain rfl : j = n := by omega
  refine Aw (Aa (Aa (Ag (CQ 1 rfl (AS (CQ 1 rfl (AS ?_)))))))
  exact BL rfl (⟨l1, R, V, la, rfl, A, hR, hV⟩)
end Go.Proofs.YtodheebhahdepaaGreat
namespace Go.Proofs.YtodheebhahdepaaGreat
open Go.Proofs.Tryz
open Go.Eng Go.RowKit Go.Lin Go.Sort Go.Srt
structure RedM (p : Int) (F : List (Int × Int)) (l S : List Ce) (R V : Nat → List Int) (gm : Nat) (h : Hp) : Prop where
 ex : ∃ (gA : Nat) (mA : Hp) (bs : List Nat) (vc vr vv : Value) (Rs Vs : List Value) (la : List Int), Seg h [] ⟨gm, 0, none⟩ (Ew p vc gA vr vv la) ∧ BK kN kN gA Bq mA (BE F) bs ∧ mA.le h ∧ RdL cC 3 h [] vc S ∧ RdL cU 1 h [] vr Rs ∧ RdL cU 1 h [] vv Vs ∧ Rs.length = S.length ∧ Vs.length = S.length ∧ (∀ k, k < S.length → RdL cI 1 h [] (Rs.getD k undef) (R k)) ∧ (∀ k, k < S.length → RdL cI 1 h [] (Vs.getD k undef) (V k)) ∧ AllC p S S.length S.length R V la
 perm : (S.map Ce.c).Perm (l.map Ce.c)
 srt : SS (D5 (BE F)) S
 sds : ∀ a ∈ S, RdL cD 2 h [] a.v a.c.sd
theorem R4 (l : List Ce) (F : List (Int × Int)) (v vf : Value) (p : Int) (hp : Hp) (hK : RgC l) (hR : RdC hp v l) (hF : RdL cV 2 hp [] vf F) (hV : QY F) (h0 : HG (l.map Ce.c) F = (0, 0)) (hP : IsP p) (hl : l.length ≤ 400) : FnT Tryz.prog 23 #[.agg #[v], vf, .int .i64 p] hp [] (fun r h' ms' => hp.le h' ∧ ∃ (gm : Nat) (S : List Ce) (R V : Nat → List Int) (vl : Value) (ml : Hp), r = .tuple #[.pointer (some ⟨gm, 0, none⟩), vl, .int .i64 0] ∧ ms' = [ml] ∧ OwnL cI 1 3 ml vl ((List.range S.length).map fun k => Bs (R k)) ∧ RedM p F l S R V gm h') := by
 have o1 := hR.q.rd.one
 have o2 := hF.rd.one
 refine Av func23 ntmps23 rfl rfl (fun w0 hw0 => ?_)
 simp only [A5]
 refine Az ?_
 refine A8 [_] rfl rfl (by rfl) rfl rfl rfl (fun g3 => ?_)
 refine Qm rfl (Qm rfl (Qm rfl (An (AA fun h1 l1 hS => ?_))))
 have hR := hR.up l1
 have hF := hF.up l1
 refine Az (Qx (oG rfl underlying29 Bi (Seg.any hS)) rfl (Qm rfl (Qm rfl (Qc call52 rfl (Sr l F v vf p h1 hK hR hF hV h0 hP hl) (fun rB h2 ms2 l2 hB => ?_)))))
 obtain ⟨l2', gm, gA, mA, bs, S, vc, vr, vv, Rs, Vs, mR, mV, rfl, rfl, hOA, lA, hQ, hRs, hVs, CR, CV, hperm, hsrt, hsds⟩ := hB
 have ovc := hQ.rd.one
 have lR : Rs.length = S.length := by have := CR.len; simpa using this
 have lV : Vs.length = S.length := by have := CV.len; simpa using this
 have hSn : S.length ≤ 400 := by have := hperm.length_eq; rw [List.length_map, List.length_map] at this; omega
 refine Qm rfl (Qm rfl (Qm rfl (Qm rfl (Qm rfl (An (Ac (Az (Qm rfl (Qm rfl (An (Ax rfl (fun hc => absurd hc (fun h => h rfl)) (fun hc => Ai (Ad (Az (Qm rfl (Qm rfl (Qf ES rfl (Ql rfl underlying27 (Cell.blk 0 (k := 1) rfl rfl) (Qx (AC hQ.rd.any rfl underlying27 rfl) rfl (Qm rfl (Qx (Bv rfl rfl rfl) rfl (Bg (pre := [Bf gm 101 (Ew p vc gA vr vv (List.replicate 400 0)), mR, mV]) rfl call53 rfl (Vn p S gm gA vc vr vv Rs Vs mR mV h2 hP hSn ovc hRs hVs CR CV) rfl rfl rfl rfl (fun _ h3 ms3 l3 hE => ?_)))))))))))))))))))))))
 obtain ⟨l3', R, V, la, rfl, A, hRR, hVV⟩ := hE
 refine An (AA fun h4 l4 hSg => ?_)
 have l24 := Hp.le_trans l3 l4
 have hQ := hQ.up l24
 have hRs := hRs.up l24
 have hVs := hVs.up l24
 have hRR := fun k hk => (hRR k hk).up l4
 have hVV := fun k hk => (hVV k hk).up l4
 have lA4 := Hp.le_trans lA l24
 have e3 : ∀ ms, Cell h4 ms (⟨gm, 3, none⟩ : Addr) vr := fun ms => Seg.all hSg 3 _ rfl ms
 have ovr := hRs.rd.one
 refine Bz (Az (Qm rfl (An (Ac (Az (Qm rfl (Qm rfl (Qf EV rfl (Ql rfl underlying22 (e3 _) (Qx (AC hRs.rd.any rfl underlying22 rfl) rfl (Qm rfl (An (Ah ?_)))))))))))))
 refine AD (fun q sl h' ms' => ∃ (j : Nat) (vl : Value) (ml : Hp), q = S.length - j ∧ sl = [(9, .pointer (some ⟨gm, 0, none⟩)), (11, vl), (35, vr), (36, .int .i64 Rs.length), (37, .int .i64 j)] ∧ h4.le h' ∧ ms' = [ml] ∧ j ≤ S.length ∧ OwnL cI 1 3 ml vl ((List.range j).map fun k => Bs (R k)))
  (S.length - 0) _ ⟨0, _, Hp.emp, rfl, rfl, Hp.le_refl _, rfl, by omega, OwnL.nil AT⟩ Qs ?_
 rintro q sl h' ms' ⟨j, vl, ml, rfl, rfl, l5, rfl, hj, hO⟩
 have hRs := hRs.up l5
 have ovl : vl.oneCell' = true := (hO.rd (h := h') (ms := [ml]) (List.Mem.head _)).rd.one
 refine Az (Qm rfl (An (Ac ?_)))
 refine Ax rfl (fun hlt => ?_) (fun hlt => ?_)
 ·have hjn : j < S.length := by omega
  have hjR : j < Rs.length := by omega
  have hRj := (hRR j hjn).up l5
  have orj := hRj.rd.one
  have cR : ∀ ms, Cell h' ms ((AI vr).add (j * 1)) (Rs.getD j undef) := fun ms => by rw [show Rs.getD j undef = Rs[j] by simp [List.getD, hjR]]; exact (hRs.any (ms := ms)).cell0 hjR rfl
  have hlj := A.red.rl j hjn
  refine Ai (Ad (Ac (Ah (Az (Qx (Af (j) hRs.rd.any rfl underlying22 Cn rfl rfl (by omega) (by omega)) rfl (Ql rfl underlying25 (cR _) (Qm rfl (GZ (Qm rfl (Qm rfl (Qx (AG rfl call55 rfl (Tf (Rs.getD j undef) (R j) h' hRj (by omega) _)) rfl ?_)))))))))))
  refine Ao [_] rfl underlying25 Bm rfl (by rfl) rfl rfl (by omega) rfl rfl rfl (fun g44 => ?_)
  refine AJ 1 hO (RdL.one AT (x := Bs (R j)) (List.Mem.head _) rfl) rfl underlying25 Bm rfl (by omega) rfl rfl rfl BW (by simp; omega) (by simp; omega) rfl rfl rfl (fun vl2 ml2 hO2 => ?_)
  refine Qm rfl (Ak (Aj (Ad (Ab (Qx (oA rfl) rfl (Qm rfl (Ak (AS ?_))))))))
  exact Am (S.length - (j + 1)) _ (by omega) ⟨j + 1, vl2, ml2, rfl, rfl, l5, rfl, by omega, by rw [FQ]; exact hO2⟩ Qs
 ·obtain rfl : j = S.length := by omega
  refine Aw (Aa (Aa (Ag (Ad (Az (Qm rfl (Qm rfl (Qm rfl (Qm rfl (Qm rfl (An (Aq ?_))))))))))))
  exact VV rfl rfl rfl rfl (⟨Hp.le_trans l1 (Hp.le_trans l2 (Hp.le_trans l24 l5)), gm, S, R, V, vl, ml, rfl, rfl, hO, ⟨gA, mA, bs, vc, vr, vv, Rs, Vs, la, hSg.le l5, hOA, Hp.le_trans lA4 l5, hQ.up l5, hRs, hVs.up l5, lR, lV, fun k hk => (hRR k hk).up l5, fun k hk => (hVV k hk).up l5, A⟩, hperm, hsrt, fun a ha => (hsds a ha).up (Hp.le_trans l24 l5)⟩)
end Go.Proofs.YtodheebhahdepaaGreat
namespace Go.Proofs
open Go.Proofs.Tryz
open Go.Shelf
def Tryz.lays189_ren : Go.Shelf.Ren := ⟨fun | 189 => 29 | 125 => 57 | 257 => 56 | 128 => 87 | 129 => 88 | 294 => 78 | 295 => 79 | 296 => 80 | 297 => 81 | 298 => 82 | 299 => 83 | 216 => 84 | 300 => 85 | 301 => 86 | 328 => 104 | 329 => 105 | 330 => 106 | 331 => 107 | 332 => 108 | 215 => 102 | 343 => 128 | n => n, fun | 28 => 25 | 3 => 3 | 46 => 106 | 0 => 0 | 51 => 134 | 53 => 136 | 4 => 4 | 183 => 128 | 182 => 127 | 131 => 37 | 5 => 5 | 9 => 9 | 218 => 149 | 222 => 153 | 228 => 168 | 229 => 169 | n => n, fun | n => n⟩
theorem Tryz.lays189 : Go.Proofs.Lays.n189 prog Tryz.lays189_ren := {
 mixed := by kernel_rfl
 f125 := func57.trans (congrArg some (by kernel_rfl))
 f128 := func87.trans (congrArg some (by kernel_rfl))
 f129 := func88.trans (congrArg some (by kernel_rfl))
 f189 := func29.trans (congrArg some (by kernel_rfl))
 f215 := func102.trans (congrArg some (by kernel_rfl))
 f216 := func84.trans (congrArg some (by kernel_rfl))
 f257 := func56.trans (congrArg some (by kernel_rfl))
 f294 := func78.trans (congrArg some (by kernel_rfl))
 f295 := func79.trans (congrArg some (by kernel_rfl))
 f296 := func80.trans (congrArg some (by kernel_rfl))
 f297 := func81.trans (congrArg some (by kernel_rfl))
 f298 := func82.trans (congrArg some (by kernel_rfl))
 f299 := func83.trans (congrArg some (by kernel_rfl))
 f300 := func85.trans (congrArg some (by kernel_rfl))
 f301 := func86.trans (congrArg some (by kernel_rfl))
 f328 := func104.trans (congrArg some (by kernel_rfl))
 f329 := func105.trans (congrArg some (by kernel_rfl))
 f330 := func106.trans (congrArg some (by kernel_rfl))
 f331 := func107.trans (congrArg some (by kernel_rfl))
 f332 := func108.trans (congrArg some (by kernel_rfl))
 f343 := func128.trans (congrArg some (by kernel_rfl))
 t0 := underlying0
 a0 := isAgg0
 z0 := sizeOf0
 v0 := zeroValue0
 t3 := underlying3
 a3 := isAgg3
 z3 := sizeOf3
 v3 := zeroValue3
 t4 := underlying4
 a4 := isAgg4
 z4 := sizeOf4
 v4 := zeroValue4
 t5 := underlying5
 a5 := isAgg5
 z5 := sizeOf5
 v5 := zeroValue5
 t9 := underlying9
 a9 := isAgg9
 z9 := sizeOf9
 v9 := zeroValue9
 t28 := underlying25
 a28 := isAgg25
 z28 := sizeOf25
 v28 := zeroValue25
 t46 := underlying106
 a46 := isAgg106
 z46 := sizeOf106
 v46 := zeroValue106
 t51 := underlying134
 a51 := isAgg134
 z51 := sizeOf134
 v51 := zeroValue134
 t53 := underlying136
 a53 := isAgg136
 z53 := sizeOf136
 v53 := zeroValue136
 t131 := underlying37
 a131 := isAgg37
 z131 := sizeOf37
 v131 := zeroValue37
 t182 := underlying127
 a182 := isAgg127
 z182 := sizeOf127
 v182 := zeroValue127
 t183 := underlying128
 a183 := isAgg128
 z183 := sizeOf128
 v183 := zeroValue128
 t218 := underlying149
 a218 := isAgg149
 z218 := sizeOf149
 v218 := zeroValue149
 t222 := underlying153
 a222 := isAgg153
 z222 := sizeOf153
 v222 := zeroValue153
 t228 := underlying168
 a228 := isAgg168
 z228 := sizeOf168
 v228 := zeroValue168
 t229 := underlying169
 a229 := isAgg169
 z229 := sizeOf169
 v229 := zeroValue169 }
open Go.Sort Go.RowKit in
theorem Tryz.slices_Sort_int (blk off cap : Nat) (zs : List Int) (w : World) (hH : Holds (Value.int .i64) w blk off zs.toArray) (hblk : blk < w.heap.size) (hsz : zs.length < 4611686018427387904) :
  Calls prog 29 #[.slice (some ⟨blk, off, none⟩) zs.length cap] w fun e w' =>
   e = .returned (.tuple #[]) ∧ ∃ n os, w' = grow (putRow (Value.int .i64) (Sort.ahead w n) blk off (zs.mergeSort fun x y => decide (x ≤ y)).toArray) os := Any.slices_Sort_int Tryz.lays189 blk off cap zs w hH hblk hsz
def Tryz.lays212_ren : Go.Shelf.Ren := ⟨fun | 212 => 89 | 263 => 109 | 264 => 110 | n => n, fun | 46 => 106 | 51 => 134 | 146 => 155 | 53 => 136 | 148 => 157 | n => n, fun | n => n⟩
theorem Tryz.lays212 : Go.Proofs.Lays.n212 prog Tryz.lays212_ren := {
 mixed := by kernel_rfl
 f212 := func89.trans (congrArg some (by kernel_rfl))
 f263 := func109.trans (congrArg some (by kernel_rfl))
 f264 := func110.trans (congrArg some (by kernel_rfl))
 t46 := underlying106
 a46 := isAgg106
 z46 := sizeOf106
 v46 := zeroValue106
 t51 := underlying134
 a51 := isAgg134
 z51 := sizeOf134
 v51 := zeroValue134
 t53 := underlying136
 a53 := isAgg136
 z53 := sizeOf136
 v53 := zeroValue136
 t146 := underlying155
 a146 := isAgg155
 z146 := sizeOf155
 v146 := zeroValue155
 t148 := underlying157
 a148 := isAgg157
 z148 := sizeOf157
 v148 := zeroValue157 }
open Go.RowKit Go.Lib in
theorem Tryz.bits_Mul (x y : Nat) (hx : x < 18446744073709551616) (hy : y < 18446744073709551616) (w : World) :
  Calls prog 89 #[.int .u64 x, .int .u64 y] w fun e w' => e = .returned (.tuple #[.int .u64 ((x * y / 18446744073709551616 : Nat) : Int), .int .u64 ((x * y % 18446744073709551616 : Nat) : Int)]) ∧ w' = w := Any.bits_Mul Tryz.lays212 x y hx hy w
def Tryz.laysNm220_ren : Go.Shelf.Ren := ⟨fun | 20 => 34 | n => n, fun | 22 => 25 | 3 => 3 | 4 => 4 | 0 => 0 | n => n, fun | n => n⟩
theorem Tryz.laysNm220 : Go.Proofs.Lays2.n20 prog Tryz.laysNm220_ren := {
 mixed := by kernel_rfl
 f20 := func34.trans (congrArg some (by kernel_rfl))
 t0 := underlying0
 a0 := isAgg0
 z0 := sizeOf0
 v0 := zeroValue0
 t3 := underlying3
 a3 := isAgg3
 z3 := sizeOf3
 v3 := zeroValue3
 t4 := underlying4
 a4 := isAgg4
 z4 := sizeOf4
 v4 := zeroValue4
 t22 := underlying25
 a22 := isAgg25
 z22 := sizeOf25
 v22 := zeroValue25
 i3 := by kernel_rfl }
open Go.RowKit Go.Lib Go.Sort in
theorem Tryz.slices_Compact_int (blk off cap : Nat) (zs : List Int) (w : World) (hH : Holds (Value.int .i64) w blk off zs.toArray) (hsz : zs.length ≤ 9223372036854775807) (hcap : zs.length ≤ cap) :
  Calls prog 34 #[.slice (some ⟨blk, off, none⟩) zs.length cap] w fun e w' => e = .returned (.slice (some ⟨blk, off, none⟩) (Lib.compact zs).length cap) ∧ ∃ q, w' = putRow (Value.int .i64) (Sort.ahead w q) blk off (Lib.compact zs ++ List.replicate (zs.length - (Lib.compact zs).length) 0).toArray := Any.slices_Compact_int Tryz.laysNm220 blk off cap zs w hH hsz hcap
open Go.RowKit Go.Lib Go.Sort in
theorem Tryz.slices_Compact_int_empty (a : Option Addr) (cap : Nat) (w : World) :
  Calls prog 34 #[.slice a 0 cap] w fun e w' => e = .returned (.slice a 0 cap) ∧ w' = w := Any.slices_Compact_int_empty Tryz.laysNm220 a cap w
end Go.Proofs

namespace Go.Proofs.YtodheebhahdepaaGreat
open Go.Proofs.Tryz
open Go.Eng Go.RowKit Go.Sort
def DC (l : List Int) : List Int := l.mergeSort fun x y => decide (x ≤ y)
theorem Cs (l : List Int) : (DC l).Perm l := List.mergeSort_perm l _
theorem DF (l : List Int) : (DC l).Pairwise (· ≤ ·) := by
 have := List.pairwise_mergeSort (le := fun x y : Int => decide (x ≤ y)) (fun a b c => by simp; omega) (fun a b => by simp; omega) l
 exact this.imp fun h => by simpa using h
theorem Ch (l : List Int) : l.flatMap cI = l.map (Value.int .i64) := by
 induction l with
 | nil => rfl
 | cons a l ih => rw [List.flatMap_cons, List.map_cons, ih]; rfl
theorem LA (l : List Int) (v : Value) (m : Hp) (hO : OwnL cI 1 3 m v l) (hl : l.length ≤ 2305843009213693951) (h : Hp) :
  FnT Tryz.prog 29 #[v] h [m] (fun _ h' ms' => h = h' ∧ ∃ m', ms' = [m'] ∧ OwnL cI 1 3 m' v (DC l)) := by
 intro w hw
 obtain ⟨⟨e0, hown⟩, hF⟩ := hO
 rcases hown with ⟨rfl, e1, rfl⟩ | ⟨g, cap, spare, rfl, rfl, e1, e2, e3⟩
 ·obtain rfl : l = [] := List.length_eq_zero_iff.1 e1
  refine (Any.slices_Sort_int_none Tryz.lays189 none 0 w).mono fun x w' ⟨hx, hw'⟩ => ?_
  subst hw'
  exact ⟨_, h, [Hp.emp], hx, Ends.refl hw, rfl, _, rfl, by rw [(Cs []).eq_nil]; exact OwnL.nil AT⟩
 ·have hcs : l.flatMap cI = l.map (Value.int .i64) := Ch l
  have hgw : w.heap[g]? = some (.cells (l.flatMap cI ++ spare).toArray 3 (0, 0)) := hw.own _ (List.mem_singleton.2 rfl) g _ (Hp.one_self _ _)
  have hH : Holds (Value.int .i64) w g 0 l.toArray := holds_of_blockI hgw (by rw [hcs]; simp)
  have hlt := (Array.getElem?_eq_some_iff.1 hgw).1
  refine (Tryz.slices_Sort_int g 0 cap l w hH hlt (by omega)).mono fun x w' ⟨hx, q, os, hw'⟩ => ?_
  have htl : (DC l).length = l.length := (Cs l).length_eq
  change w' = grow (putRow (Value.int .i64) (Sort.ahead w q) g 0 (DC l).toArray) os at hw'
  have hb := heap_sortedI (n := q) (os := os) (DC l).toArray hgw
  have hgr := grownBy_sortedI (w := w) (g := g) (n := q) (os := os) (DC l).toArray
  have hdr : w.drawn ≤ w'.drawn := by rw [hw']; exact Nat.le_add_right _ _
  rw [← hw'] at hb hgr
  have hpc : putCells (Value.int .i64) 0 (DC l).toArray (l.flatMap cI ++ spare).toArray = ((DC l).flatMap cI ++ spare).toArray := by
   apply Array.ext_getElem?
   intro t
   unfold putCells
   rw [Array.getElem?_mapIdx, List.getElem?_toArray, List.getElem?_toArray, Ch, Ch]
   rcases Nat.lt_or_ge t l.length with h | h
   ·rw [List.getElem?_append_left (by simpa using h), List.getElem?_append_left (by simpa [htl] using h)]
    have h2 : t < (DC l).length := by omega
    simp [h, h2]
   ·rw [List.getElem?_append_right (by simpa using h), List.getElem?_append_right (by simpa [htl] using h)]
    simp only [List.length_map, htl, List.size_toArray]
    cases spare[t - l.length]? with
    | none => rfl
    | some u =>
     simp only [Option.map_some]
     rw [if_neg (by omega)]
  rw [hpc] at hb
  have hE := Ends.put (l' := (DC l).flatMap cI ++ spare) (i := 0) (Ends.refl hw) rfl hgr.os ⟨hgr.tape, hdr⟩ hgr.output hgr.size (by simpa using hb) (fun k hk hne => hgr.block k hk (fun e => hne (by simpa using e)))
  refine ⟨_, h, _, hx, hE, rfl, _, rfl, ⟨?_, .inr ⟨g, cap, spare, ?_, rfl, ?_, ?_, e3⟩⟩, hF⟩
  ·rw [Ch]; simp
  ·rw [htl]
  ·rw [List.length_append, Be AT, htl, ← Be AT l, ← List.length_append]; exact e1
  ·rw [htl]; exact e2
theorem Na (l : List Int) (x : Int) : x ∈ Lib.compact l ↔ x ∈ l := by
 have key : ∀ m, m ≤ l.length → ∀ j, j < m → l.toArray[j]! ∈ Lib.compactUpTo l.toArray m := by
  intro m
  induction m with
  | zero => intro _ j hj; omega
  | succ m ih =>
   intro hm j hj
   rw [Lib.compactUpTo_succ, List.mem_append]
   by_cases hjm : j < m
   ·exact .inl (ih (by omega) j hjm)
   ·have : j = m := by omega
    subst this
    cases hk : Lib.keeps l.toArray j with
    | true => right; simp
    | false =>
     left
     unfold Lib.keeps at hk
     have h0 : 0 < j := by
      rcases Nat.eq_zero_or_pos j with h | h
      ·subst h; simp at hk
      ·exact h
     have : l.toArray[j]! = l.toArray[j - 1]! := by
      simp at hk
      simpa using hk.2
     rw [this]
     exact ih (by omega) (j - 1) (by omega)
 constructor
 ·intro h
  unfold Lib.compact Lib.compactUpTo at h
  obtain ⟨j, hj, rfl⟩ := List.mem_map.1 h
  have hj' : j < l.length := by simpa using (List.mem_filter.1 hj).1
  simp [hj']
 ·intro h
  obtain ⟨j, hj, rfl⟩ := List.getElem_of_mem h
  have := key l.length (Nat.le_refl _) j hj
  unfold Lib.compact
  simpa [hj] using this
theorem D8 (l : List Int) : (Lib.compact l).Sublist l := by
 unfold Lib.compact Lib.compactUpTo
 have h1 : (List.range l.length).map (fun j => l.toArray[j]!) = l := by
  have := Lib.range_map_get l.toArray
  simpa using this
 have h2 := List.Sublist.map (fun j => l.toArray[j]!) (List.filter_sublist (l := List.range l.length) (p := Lib.keeps l.toArray))
 rw [h1] at h2
 exact h2
theorem O3 (l : List Int) (v : Value) (m : Hp) (hO : OwnL cI 1 3 m v l) (hl : l.length ≤ 2305843009213693951) (h : Hp) :
  FnT Tryz.prog 34 #[v] h [m] (fun r h' ms' => h = h' ∧ ∃ m', ms' = [m'] ∧ OwnL cI 1 3 m' r (Lib.compact l)) := by
 intro w hw
 have hle : (Lib.compact l).length ≤ l.length := (D8 l).length_le
 obtain ⟨⟨e0, hown⟩, hF⟩ := hO
 rcases hown with ⟨rfl, e1, rfl⟩ | ⟨g, cap, spare, rfl, rfl, e1, e2, e3⟩
 ·obtain rfl : l = [] := List.length_eq_zero_iff.1 e1
  refine (Tryz.slices_Compact_int_empty none 0 w).mono fun x w' ⟨hx, hw'⟩ => ?_
  subst hw'
  exact ⟨_, h, [Hp.emp], hx, Ends.refl hw, rfl, _, rfl, OwnL.nil AT⟩
 ·have hcs : l.flatMap cI = l.map (Value.int .i64) := Ch l
  have hgw : w.heap[g]? = some (.cells (l.flatMap cI ++ spare).toArray 3 (0, 0)) := hw.own _ (List.mem_singleton.2 rfl) g _ (Hp.one_self _ _)
  have hH : Holds (Value.int .i64) w g 0 l.toArray := holds_of_blockI hgw (by rw [hcs]; simp)
  refine (Tryz.slices_Compact_int g 0 cap l w hH (by omega) e2).mono fun x w' ⟨hx, q, hw'⟩ => ?_
  generalize hts : Lib.compact l ++ List.replicate (l.length - (Lib.compact l).length) 0 = ts at hw'
  have htl : ts.length = l.length := by rw [← hts]; simp; omega
  have hb := heap_sortedI (n := q) (os := #[]) ts.toArray hgw
  have hgr := grownBy_sortedI (w := w) (g := g) (n := q) (os := #[]) ts.toArray
  rw [grow_empty] at hb hgr
  have hdr : w.drawn ≤ w'.drawn := by rw [hw']; exact Nat.le_add_right _ _
  rw [← hw'] at hb hgr
  have htk := take_putCellsI (l.flatMap cI ++ spare).toArray ts (by rw [hcs]; simp; omega)
  have hsz : (putCells (Value.int .i64) 0 ts.toArray (l.flatMap cI ++ spare).toArray).size = cap * 1 := by simp [putCells]; simpa using e1
  generalize hpc : putCells (Value.int .i64) 0 ts.toArray (l.flatMap cI ++ spare).toArray = pc at hb htk hsz
  have hE := Ends.put (l' := pc.toList) (i := 0) (Ends.refl hw) rfl hgr.os ⟨hgr.tape, hdr⟩ hgr.output hgr.size (by simpa using hb) (fun k hk hne => hgr.block k hk (fun e => hne (by simpa using e)))
  have hk : pc.toList.take (Lib.compact l).length = (Lib.compact l).flatMap cI := by
   have h1 : pc.toList.take (Lib.compact l).length = (pc.toList.take ts.length).take (Lib.compact l).length := by rw [List.take_take, Nat.min_eq_left (by omega)]
   rw [h1, htk, ← hts, List.map_append, List.take_left' (by simp), Ch]
  refine ⟨_, h, _, hx, hE, rfl, _, rfl, ⟨?_, .inr ⟨g, cap, pc.toList.drop (Lib.compact l).length, rfl, ?_, ?_, by omega, e3⟩⟩, hF⟩
  ·rw [Ch]; simp
  ·rw [← hk, List.take_append_drop]
  ·rw [← hk, List.take_append_drop]; simpa using hsz
end Go.Proofs.YtodheebhahdepaaGreat

namespace Go.Proofs.YtodheebhahdepaaGreat
open Go.Proofs.Tryz
open Go.Eng Go.RowKit
structure Br where
 dim : Int
 birth : Int
 death : Int
 opn : Bool
 low : Int
 high : Int
deriving DecidableEq
def FJ (b : Br) : List Value := [.int .i64 b.dim, .int .i64 b.birth, .int .i64 b.death, .bool b.opn, .int .i64 b.low, .int .i64 b.high]
theorem FF : ∀ b, (FJ b).length = 6 := fun _ => rfl
theorem ER : ∀ a, ∀ c ∈ FJ a, c.oneCell' = true := fun a c hc => by
 simp only [FJ, List.mem_cons, List.not_mem_nil, or_false] at hc
 rcases hc with rfl | rfl | rfl | rfl | rfl | rfl <;> rfl
structure Hk (b : Br) : Prop where
 b1 : -1000000000000 ≤ b.birth
 b2 : b.birth ≤ 1000000000000
 d1 : -1000000000000 ≤ b.death
 d2 : b.death ≤ 1000000000000
def Br.cnt (b : Br) : Bool := b.opn || decide (b.birth < b.death)
def Br.len (b : Br) : Int := b.death - b.birth
def DE (n : Int) : Int := max n (-n)
def Br.apart (x y : Br) : Int := 2 * max (DE (x.birth - y.birth)) (DE (x.death - y.death))
theorem Pd (a : Int) (ha : -9223372036854775807 ≤ a ∧ a ≤ 9223372036854775807) (h : Hp) (ms : List Hp) : FnV Tryz.prog 25 #[.int .i64 a] h ms (.int .i64 (DE a)) := by
 refine FnV.weaken (FnT.toV ?_) (Hp.emp_le h)
 refine Av func25 ntmps25 rfl rfl (fun w0 hw0 => ?_)
 simp only [A5]
 refine Az (Qm rfl (BG (Qm rfl (Qm rfl (Qx (MA rfl rfl (by omega)) rfl (Qx (Ho rfl rfl rfl) rfl (Qm rfl (An (Aq ?_)))))))))
 exact As rfl rfl (rfl)
theorem QH {a : Int} {M : Int} (h : -M ≤ a ∧ a ≤ M) : 0 ≤ DE a ∧ DE a ≤ M := by unfold DE; omega
theorem FD (a b : Int) (h : Hp) (ms : List Hp) : FnV Tryz.prog 11 #[.int .i64 a, .int .i64 b] h ms (.agg (FJ ⟨1, a, b, false, 0, 0⟩).toArray) := by
 refine FnV.weaken (FnT.toV ?_) (Hp.emp_le h)
 refine Av func11 ntmps11 rfl rfl (fun w0 hw0 => ?_)
 simp only [A5]
 refine Az (C4 [.int .i64 0, .int .i64 0, .int .i64 0, .bool false, .int .i64 0, .int .i64 0] rfl BI rfl rfl (fun g4 => BG (Qm rfl (Qm rfl (Qx (A6 WY [.int .i64 0, .int .i64 0, .int .i64 0, .bool false, .int .i64 0, .int .i64 0] [(0, _), (1, _), (2, _)] [_, _, _, _, _, _] rfl BI rfl rfl Qt rfl) rfl ?_)))))
 refine Sa 0 [_, _, _, _, _, _] BI rfl (by simp [Value.oneCell']) ?_
 refine An (Aq ?_)
 refine QS rfl rfl underlying43 rfl BI rfl (Seg.blk 0 rfl) rfl
theorem GC (a : Int) (h : Hp) (ms : List Hp) : FnV Tryz.prog 12 #[.int .i64 a] h ms (.agg (FJ ⟨1, a, 0, true, 0, 0⟩).toArray) := by
 refine FnV.weaken (FnT.toV ?_) (Hp.emp_le h)
 refine Av func12 ntmps12 rfl rfl (fun w0 hw0 => ?_)
 simp only [A5]
 refine Az (C4 [.int .i64 0, .int .i64 0, .int .i64 0, .bool false, .int .i64 0, .int .i64 0] rfl BI rfl rfl (fun g2 => BG (Qm rfl (Qx (A6 WY [.int .i64 0, .int .i64 0, .int .i64 0, .bool false, .int .i64 0, .int .i64 0] [(0, _), (1, _), (3, _)] [_, _, _, _, _, _] rfl BI rfl rfl Qt rfl) rfl ?_))))
 refine Sa 0 [_, _, _, _, _, _] BI rfl (by simp [Value.oneCell']) ?_
 refine An (Aq ?_)
 refine QS rfl rfl underlying43 rfl BI rfl (Seg.blk 0 rfl) rfl
theorem Rc (b : Br) (h : Hp) (ms : List Hp) : FnV Tryz.prog 31 #[.agg (FJ b).toArray] h ms (.bool b.cnt) := by
 refine FnV.weaken (FnT.toV ?_) (Hp.emp_le h)
 refine Av func31 ntmps31 rfl rfl (fun w0 hw0 => ?_)
 simp only [A5]
 refine Az ?_
 refine A8 [_, _, _, _, _, _] rfl rfl (by rfl) rfl rfl rfl (fun g1 => ?_)
 refine Qm rfl (BG (Qf Hj rfl (Ql rfl underlying4 (Cell.blk 0 rfl rfl) (Qm rfl ?_))))
 refine C6 (t := 5) rfl (fun hs => ?_) (fun hs => ?_)
 ·refine Qk rfl (Qk rfl (Qk rfl (Qk rfl (Qk rfl (Qm rfl (Qm rfl (An (Aq ?_))))))))
  exact As rfl rfl (by simp [Br.cnt, hs])
 ·refine Qg (oF G5 rfl) rfl (Qg (oL rfl underlying3 (Cell.blk 0 rfl rfl)) rfl (Qg (oF Hm rfl) rfl (Qg (oL rfl underlying3 (Cell.blk 0 rfl rfl)) rfl (Qg (BY rfl rfl rfl) rfl (Qm rfl (Qm rfl (An (Aq ?_))))))))
  exact As rfl rfl (by simp [Br.cnt, hs])
theorem Gs (b : Br) (hb : Hk b) (h : Hp) (ms : List Hp) : FnV Tryz.prog 32 #[.agg (FJ b).toArray] h ms (.int .i64 b.len) := by
 refine FnV.weaken (FnT.toV ?_) (Hp.emp_le h)
 obtain ⟨b1, b2, b3, b4⟩ := hb
 refine Av func32 ntmps32 rfl rfl (fun w0 hw0 => ?_)
 simp only [A5]
 refine Az ?_
 refine A8 [_, _, _, _, _, _] rfl rfl (by rfl) rfl rfl rfl (fun g1 => ?_)
 refine Qm rfl (BG (Qf G5 rfl (Ql rfl underlying3 (Cell.blk 0 rfl rfl) (Qf Hm rfl (Ql rfl underlying3 (Cell.blk 0 rfl rfl) (Qx (oS rfl) rfl (Qm rfl (An (Aq ?_)))))))))
 exact As rfl rfl (rfl)
theorem NM (x y : Br) (hx : Hk x) (hy : Hk y) (h : Hp) (ms : List Hp) : FnV Tryz.prog 33 #[.agg (FJ x).toArray, .agg (FJ y).toArray] h ms (.int .i64 (x.apart y)) := by
 refine FnV.weaken (FnT.toV ?_) (Hp.emp_le h)
 obtain ⟨x1, x2, x3, x4⟩ := hx
 obtain ⟨y1, y2, y3, y4⟩ := hy
 have hi1 := QH (a := x.birth - y.birth) (M := 2000000000000) (by omega)
 have hi2 := QH (a := x.death - y.death) (M := 2000000000000) (by omega)
 refine Av func33 ntmps33 rfl rfl (fun w0 hw0 => ?_)
 simp only [A5]
 refine Az ?_
 refine A8 [_, _, _, _, _, _] rfl rfl (by rfl) rfl rfl rfl (fun g2 => ?_)
 refine A8 [_, _, _, _, _, _] rfl rfl (by rfl) rfl rfl rfl (fun g3 => ?_)
 refine Qm rfl (An (Ac (Bb 11 CN (by kernel_rfl) rfl (Wf Hm rfl (Wl rfl underlying3 (Cell.blk 1 rfl rfl) (Wf Hm rfl (Wl rfl underlying3 (Cell.blk 0 rfl rfl) (AM (oS rfl) rfl rfl (AM (AG rfl call25 rfl (Pd _ (by omega) _ _)) rfl rfl (Wf G5 rfl (Wl rfl underlying3 (Cell.blk 1 rfl rfl) (Wf G5 rfl (Wl rfl underlying3 (Cell.blk 0 rfl rfl) (AM (oS rfl) rfl rfl (AU (Qx (AG rfl call25 rfl (Pd _ (by omega) _ _)) rfl (Qx (Ho rfl rfl rfl) rfl (Qx (oM rfl) rfl (Qm rfl (An (Aq ?_)))))))))))))))))))))
 exact As rfl rfl (rfl)
theorem EX (l : List Br) (vl : Value) (cf : FuncId) (cs : List Value) (p : Br → Bool) (h : Hp) (hR : RdL FJ 6 h [] vl l) (hl : l.length ≤ 1000000000)
  (hc : ∀ xs w, (callFunc cf xs).run Tryz.prog w = .ok (.enter cf xs) w)
  (hp : ∀ b ∈ l, ∀ ms, FnV Tryz.prog cf ([] ++ [Value.agg (FJ b).toArray] ++ cs).toArray h ms (.bool (p b))) :
  FnT Tryz.prog 27 #[vl, .func (.func cf) #[] cs.toArray] h [] (fun r h' ms' => ms' = [] ∧ RdL FJ 6 h' [] r (l.filter p)) := by
 refine Av func27 ntmps27 rfl rfl (fun w0 hw0 => ?_)
 simp only [A5]
 refine Az (Qm rfl (BG (Qm rfl (An (Ac (Az (Qm rfl (Qx (AC hR.rd.any rfl underlying33 rfl) rfl (Qm rfl (An (Ah (Bz ?_))))))))))))
 refine AD (fun n s h' ms' => ∃ (k : Nat) (v : Value) (m : Hp), n = l.length - k ∧ s = [(1, .func (.func cf) #[] cs.toArray), (8, vl), (9, .int .i64 l.length), (10, .int .i64 k), (5, v)] ∧ h' = h ∧ ms' = [m] ∧ k ≤ l.length ∧ OwnL FJ 6 43 m v ((l.take k).filter p))
  (l.length - 0) _ ⟨0, _, _, rfl, rfl, rfl, rfl, by omega, OwnL.nil FF⟩ Qs ?_
 rintro n s h' ms' ⟨k, v, m, rfl, rfl, rfl, rfl, hk, hO⟩
 have hO2 := hO.own.1
 refine Az (Qm rfl (An (Ac ?_)))
 refine Ax rfl (fun hlt => ?_) (fun hlt => ?_)
 ·have hlt' : k < l.length := by omega
  have hmem : l[k] ∈ l := List.getElem_mem hlt'
  have hts := Fk l p k hlt'
  refine Ai (Ad (Ac (Ah (Az (Qx (Af _ hR.rd.any rfl underlying33 BI rfl rfl rfl (by omega)) rfl (Qx (oG rfl underlying43 BI (hR.any.seg hlt')) rfl (C4 [.int .i64 0, .int .i64 0, .int .i64 0, .bool false, .int .i64 0, .int .i64 0] rfl BI rfl rfl (fun g7 => ?_))))))))
  refine Dx 0 _ rfl BI rfl rfl rfl (ER _) rfl (by rfl) (by rfl) rfl rfl ?_
  refine BG (Qm rfl (Qx (oG rfl underlying43 BI (Seg.blk 0 rfl)) rfl (Qx (B0 rfl rfl hc rfl (hp _ hmem _)) rfl (An ?_))))
  refine Bu rfl (fun hpk => ?_) (fun hpk => ?_)
  ·refine Ab (Qm rfl (Qx (oG rfl underlying43 BI (Seg.blk 0 rfl)) rfl ?_))
   refine Ao _ rfl underlying33 BI rfl (by rfl) (by rfl) rfl (by omega) rfl rfl rfl (fun g19 => ?_)
   have hfl : ((l.take k).filter p).length ≤ k := Nat.le_trans (List.length_filter_le _ _) (by rw [List.length_take]; omega)
   refine AJ 2 hO (RdL.one FF (List.Mem.head _) rfl) rfl underlying33 BI rfl (by omega) rfl rfl rfl ER (by simp; omega) (by simp; omega) rfl rfl rfl (fun v' m' hO' => ?_)
   refine Qm rfl (Ak (Aj (Ad (Ab (Qx (oA rfl) rfl (Qm rfl (Ak ?_)))))))
   refine AS (AS ?_)
   refine Am (l.length - (k + 1)) _ (by omega) ⟨k + 1, v', m', rfl, rfl, rfl, rfl, by omega, by rw [hts, if_pos hpk]; exact hO'⟩ Qs
  ·refine Ai (Aj (Ad (Ab (Qx (oA rfl) rfl (Qm rfl (Ak (AS ?_)))))))
   refine Am (l.length - (k + 1)) _ (by omega) ⟨k + 1, v, m, rfl, rfl, rfl, rfl, by omega, by rw [hts, if_neg (by simp [hpk]), List.append_nil]; exact hO⟩ Qs
 ·refine Aw (Aa (Aa (Ag (Ad (Az (Qm rfl (Qm rfl (An (Aq ?_)))))))))
  have hkl : l.take k = l := List.take_of_length_le (by omega)
  rw [hkl] at hO
  refine Fv hO (fun h' hle hR' => ?_)
  exact As rfl rfl (⟨rfl, hR'⟩)
theorem LK (l : List Int) (vl : Value) (cf : FuncId) (cs : List Value) (p : Int → Bool) (h : Hp) (hR : RdL cI 1 h [] vl l) (hl : l.length ≤ 1000000000)
  (hc : ∀ xs w, (callFunc cf xs).run Tryz.prog w = .ok (.enter cf xs) w)
  (hp : ∀ b ∈ l, ∀ ms, FnV Tryz.prog cf ([] ++ [Value.int .i64 b] ++ cs).toArray h ms (.bool (p b))) :
  FnT Tryz.prog 35 #[vl, .func (.func cf) #[] cs.toArray] h [] (fun r h' ms' => h = h' ∧ ∃ m, ms' = [m] ∧ OwnL cI 1 3 m r (l.filter p)) := by
 refine Av func35 ntmps35 rfl rfl (fun w0 hw0 => ?_)
 simp only [A5]
 refine Az (Qm rfl (BG (Qm rfl (An (Ac (Az (Qm rfl (Qx (AC hR.rd.any rfl underlying25 rfl) rfl (Qm rfl (An (Ah (Bz ?_))))))))))))
 refine AD (fun n s h' ms' => ∃ (k : Nat) (v : Value) (m : Hp), n = l.length - k ∧ s = [(1, .func (.func cf) #[] cs.toArray), (8, vl), (9, .int .i64 l.length), (10, .int .i64 k), (5, v)] ∧ h = h' ∧ ms' = [m] ∧ k ≤ l.length ∧ OwnL cI 1 3 m v ((l.take k).filter p))
  (l.length - 0) _ ⟨0, _, _, rfl, rfl, rfl, rfl, by omega, OwnL.nil AT⟩ Qs ?_
 rintro n s h' ms' ⟨k, v, m, rfl, rfl, rfl, rfl, hk, hO⟩
 have hO2 := hO.own.1
 refine Az (Qm rfl (An (Ac ?_)))
 refine Ax rfl (fun hlt => ?_) (fun hlt => ?_)
 ·have hlt' : k < l.length := by omega
  have hmem : l[k] ∈ l := List.getElem_mem hlt'
  have hts := Fk l p k hlt'
  refine Ai (Ad (Ac (Ah (Az (Qx (Af _ hR.rd.any rfl underlying25 Bm rfl rfl rfl (by omega)) rfl (Ql rfl underlying3 (hR.any.cell0 hlt' rfl) (Qm rfl (BG (Qm rfl (Qm rfl (Qx (B0 rfl rfl hc rfl (hp _ hmem _)) rfl (An ?_))))))))))))
  refine Bu rfl (fun hpk => ?_) (fun hpk => ?_)
  ·refine Ab (Qm rfl (Qm rfl ?_))
   refine Ao [_] rfl underlying25 Bm rfl (by rfl) rfl rfl (by omega) rfl rfl rfl (fun g19 => ?_)
   have hfl : ((l.take k).filter p).length ≤ k := Nat.le_trans (List.length_filter_le _ _) (by rw [List.length_take]; omega)
   refine AJ 1 hO (RdL.one AT (List.Mem.head _) rfl) rfl underlying25 Bm rfl (by omega) rfl rfl rfl BW (by simp; omega) (by simp; omega) rfl rfl rfl (fun v' m' hO' => ?_)
   refine Qm rfl (Ak (Aj (Ad (Ab (Qx (oA rfl) rfl (Qm rfl (Ak (AS ?_))))))))
   refine Am (l.length - (k + 1)) _ (by omega) ⟨k + 1, v', m', rfl, rfl, rfl, rfl, by omega, by rw [hts, if_pos hpk]; exact hO'⟩ Qs
  ·refine Ai (Aj (Ad (Ab (Qx (oA rfl) rfl (Qm rfl (Ak ?_))))))
   refine Am (l.length - (k + 1)) _ (by omega) ⟨k + 1, v, m, rfl, rfl, rfl, rfl, by omega, by rw [hts, if_neg (by simp [hpk]), List.append_nil]; exact hO⟩ Qs
 ·refine Aw (Aa (Aa (Ag (Ad (Az (Qm rfl (Qm rfl (An (Aq ?_)))))))))
  have hkl : l.take k = l := List.take_of_length_le (by omega)
  rw [hkl] at hO
  exact As rfl rfl (⟨rfl, m, rfl, hO⟩)
def Br.openIn (dim : Int) (b : Br) : Bool := decide (b.dim = dim) && b.opn
def Br.finIn (dim : Int) (b : Br) : Bool := decide (b.dim = dim) && !b.opn && b.cnt
theorem Rq (b : Br) (gd : Nat) (dim : Int) (h : Hp) (hD : ∀ ms, Cell h ms ⟨gd, 0, none⟩ (.int .i64 dim)) (ms : List Hp) : FnV Tryz.prog 28 ([] ++ [Value.agg (FJ b).toArray] ++ [Value.pointer (some ⟨gd, 0, none⟩)]).toArray h ms (.bool (b.openIn dim)) := by
 refine fun w hw => (?_ : FnV _ _ _ h [] _) w (hw.weaken (Hp.le_refl _) (List.nil_sublist _))
 refine FnT.toV ?_
 show FnT _ _ #[.agg (FJ b).toArray, .pointer (some ⟨gd, 0, none⟩)] _ _ _
 refine Av func28 ntmps28 rfl rfl (fun w0 hw0 => ?_)
 simp only [A5]
 refine Az ?_
 refine A8 [_, _, _, _, _, _] rfl rfl (by rfl) rfl rfl rfl (fun g2 => ?_)
 refine Qm rfl (BG (Qf OY rfl (Ql rfl underlying3 (Cell.blk 0 rfl rfl) (Ql rfl underlying3 (hD _) (Qm rfl (Qm rfl ?_))))))
 refine AQ (t := 8) rfl (fun hs => ?_) (fun hs => ?_)
 ·refine Qg (oF Hj rfl) rfl (Qg (oL rfl underlying4 (Cell.blk 0 rfl rfl)) rfl (Qm rfl (Qm rfl (An (Aq ?_)))))
  exact As rfl rfl (by simp [Br.openIn, hs])
 ·refine Qk rfl (Qk rfl (Qm rfl (Qm rfl (An (Aq ?_)))))
  exact As rfl rfl (by simp [Br.openIn, hs])
theorem MV (b : Br) (gd : Nat) (dim : Int) (h : Hp) (hD : ∀ ms, Cell h ms ⟨gd, 0, none⟩ (.int .i64 dim)) (ms : List Hp) : FnV Tryz.prog 30 ([] ++ [Value.agg (FJ b).toArray] ++ [Value.pointer (some ⟨gd, 0, none⟩)]).toArray h ms (.bool (b.finIn dim)) := by
 refine fun w hw => (?_ : FnV _ _ _ h [] _) w (hw.weaken (Hp.le_refl _) (List.nil_sublist _))
 refine FnT.toV ?_
 show FnT _ _ #[.agg (FJ b).toArray, .pointer (some ⟨gd, 0, none⟩)] _ _ _
 refine Av func30 ntmps30 rfl rfl (fun w0 hw0 => ?_)
 simp only [A5]
 refine Az ?_
 refine A8 [_, _, _, _, _, _] rfl rfl (by rfl) rfl rfl rfl (fun g2 => ?_)
 refine Qm rfl (BG (Qf OY rfl (Ql rfl underlying3 (Cell.blk 0 rfl rfl) (Ql rfl underlying3 (hD _) (Qm rfl (Qm rfl ?_))))))
 refine AQ (t := 8) rfl (fun hs => ?_) (fun hs => ?_)
 ·refine Qg (oF Hj rfl) rfl (Qg (oL rfl underlying4 (Cell.blk 0 rfl rfl)) rfl (Qg (Ft rfl rfl) rfl (Qm rfl (Qm rfl ?_))))
  refine C6 (t := 13) rfl (fun hs2 => ?_) (fun hs2 => ?_)
  ·refine Qg (oG rfl underlying43 BI (Seg.blk 0 rfl)) rfl (Qg (AG rfl call31 rfl (Rc _ _ _)) rfl (Qm rfl (Qm rfl (An (Aq ?_)))))
   exact As rfl rfl (by simp [Br.finIn, hs] at hs2 ⊢; simp [hs2])
  ·refine Qk rfl (Qk rfl (Qm rfl (Qm rfl (An (Aq ?_)))))
   exact As rfl rfl (by simp [Br.finIn, hs] at hs2 ⊢; simp [hs2])
 ·refine Qk rfl (Qk rfl (Qk rfl (Qm rfl (Qm rfl (Qk rfl (Qk rfl (Qm rfl (Qm rfl (An (Aq ?_))))))))))
  exact As rfl rfl (by simp [Br.finIn, hs])
theorem VB (b : Int) (gd : Nat) (m : Int) (h : Hp) (hD : ∀ ms, Cell h ms ⟨gd, 0, none⟩ (.int .i64 m)) (ms : List Hp) : FnV Tryz.prog 36 ([] ++ [Value.int .i64 b] ++ [Value.pointer (some ⟨gd, 0, none⟩)]).toArray h ms (.bool (decide (m ≤ b))) := by
 refine fun w hw => (?_ : FnV _ _ _ h [] _) w (hw.weaken (Hp.le_refl _) (List.nil_sublist _))
 refine FnT.toV ?_
 show FnT _ _ #[.int .i64 b, .pointer (some ⟨gd, 0, none⟩)] _ _ _
 refine Av func36 ntmps36 rfl rfl (fun w0 hw0 => ?_)
 simp only [A5]
 refine Az (Qm rfl (BG (Qm rfl (Ql rfl underlying3 (hD _) (Qm rfl (Qm rfl (An (Aq ?_))))))))
 exact As rfl rfl (rfl)
theorem E8 {α β : Type} (f : α → β) (l : List α) (k : Nat) (hk : k < l.length) : (l.take (k + 1)).map f = (l.take k).map f ++ [f l[k]] := by
 rw [List.take_succ_eq_append_getElem hk, List.map_append]; rfl
def AW (dim : Int) (l : List Br) : List Int := DC ((l.filter (Br.openIn dim)).map Br.birth)
theorem K8 (l : List Br) (vl : Value) (gd : Nat) (dim : Int) (h : Hp) (hR : RdL FJ 6 h [] vl l) (hl : l.length ≤ 1000000000) (hD : Cell h [] ⟨gd, 0, none⟩ (.int .i64 dim)) :
  FnT Tryz.prog 26 #[vl, .pointer (some ⟨gd, 0, none⟩)] h [] (fun r h' ms' => ms' = [] ∧ RdL cI 1 h' [] r (AW dim l)) := by
 refine Av func26 ntmps26 rfl rfl (fun w0 hw0 => ?_)
 simp only [A5]
 refine Az (Qm rfl (BG (Qm rfl (An (Ac (Az (Qm rfl (Qx (Bv rfl rfl rfl) rfl (Qc call27 rfl (EX l vl 28 [Value.pointer (some ⟨gd, 0, none⟩)] (Br.openIn dim) h hR hl call28 (fun b _ ms => Rq b gd dim h (fun _ => hD.any) ms)) (fun v9 h9 ms9 hle9 hL => ?_))))))))))
 obtain ⟨rfl, hR9⟩ := hL
 simp only [List.nil_append]
 have hlf : (l.filter (Br.openIn dim)).length ≤ l.length := List.length_filter_le _ _
 unfold AW
 generalize hq : l.filter (Br.openIn dim) = q at hR9 hlf ⊢
 refine Qx (AC hR9.rd.any rfl underlying33 rfl) rfl (Qm rfl (An (Ah (Bz ?_))))
 refine AD (fun n s h' ms' => ∃ (k : Nat) (v : Value) (m : Hp), n = q.length - k ∧ s = [(9, v9), (10, .int .i64 q.length), (11, .int .i64 k), (4, v)] ∧ h9 = h' ∧ ms' = [m] ∧ k ≤ q.length ∧ OwnL cI 1 3 m v ((q.take k).map Br.birth))
  (q.length - 0) _ ⟨0, _, _, rfl, rfl, rfl, rfl, by omega, OwnL.nil AT⟩ Qs ?_
 rintro n s h' ms' ⟨k, v, m, rfl, rfl, rfl, rfl, hk, hO⟩
 have hO2 := hO.own.1
 refine Az (Qm rfl (An (Ac ?_)))
 refine Ax rfl (fun hlt => ?_) (fun hlt => ?_)
 ·have hlt' : k < q.length := by omega
  have hts := E8 Br.birth q k hlt'
  refine Ai (Ad (Ac (Ah (Az (Qx (Af _ hR9.rd.any rfl underlying33 BI rfl rfl rfl (by omega)) rfl (Qx (oG rfl underlying43 BI (hR9.any.seg hlt')) rfl (C4 [.int .i64 0, .int .i64 0, .int .i64 0, .bool false, .int .i64 0, .int .i64 0] rfl BI rfl rfl (fun g6 => ?_))))))))
  refine Dx 0 _ rfl BI rfl rfl rfl (ER _) rfl (by rfl) (by rfl) rfl rfl ?_
  refine GZ (Qm rfl (Qf Hm rfl (Ql rfl underlying3 (Cell.blk 0 rfl rfl) ?_)))
  refine Ao _ rfl underlying25 Bm rfl (by rfl) (by rfl) rfl (by omega) rfl rfl rfl (fun g18 => ?_)
  refine AJ 2 hO (RdL.one AT (List.Mem.head _) rfl) rfl underlying25 Bm rfl (by omega) rfl rfl rfl BW (by simp; omega) (by simp; omega) rfl rfl rfl (fun v' m' hO' => ?_)
  refine Qm rfl (Ak (Aj (Ad (Ab (Qx (oA rfl) rfl (Qm rfl (Ak ?_)))))))
  refine AS (AS ?_)
  refine Am (q.length - (k + 1)) _ (by omega) ⟨k + 1, v', m', rfl, rfl, rfl, rfl, by omega, by rw [hts]; exact hO'⟩ Qs
 ·have hkl : q.take k = q := List.take_of_length_le (by omega)
  rw [hkl] at hO
  refine Aw (Aa (Aa (Ag (Ad (Az (Qm rfl ?_))))))
  refine Bg (pre := [m]) rfl call29 rfl (LA (q.map Br.birth) v m hO (by simp; omega) _) rfl rfl rfl rfl (fun _ _ _ _ hL => ?_)
  obtain ⟨rfl, m2, rfl, hO3⟩ := hL
  refine BG (Qm rfl (Qm rfl (An (Aq (Fv hO3 (fun h' hle hR' => ?_))))))
  exact As rfl rfl (⟨rfl, hR'⟩)
theorem WT (x y : Nat) (hx : x < 18446744073709551616) (hy : y < 18446744073709551616) (h : Hp) (ms : List Hp) {x' y' : Int} (ex : x' = x) (ey : y' = y) :
  FnV Tryz.prog 89 #[.int .u64 x', .int .u64 y'] h ms (.tuple #[.int .u64 ((x * y / 18446744073709551616 : Nat) : Int), .int .u64 ((x * y % 18446744073709551616 : Nat) : Int)]) := by
 subst ex ey
 exact FnV.ofCalls fun w => Tryz.bits_Mul x y hx hy w
theorem Ru (n k j : Nat) (a : Int) (h : k + j ≤ n) :
  ((List.replicate k (Value.int .i64 a) ++ List.replicate (n - k) (Value.int .i64 0)).take k ++ (List.replicate k (Value.int .i64 a)).take j ++ (List.replicate k (Value.int .i64 a) ++ List.replicate (n - k) (Value.int .i64 0)).drop (k + j)) = List.replicate (k + min j k) (Value.int .i64 a) ++ List.replicate (n - (k + j)) (Value.int .i64 0) := by
 rw [List.take_left' (by simp), List.take_replicate, List.drop_append, List.drop_eq_nil_of_le (by simp), List.nil_append, List.drop_replicate, List.length_replicate, List.replicate_append_replicate]
 congr 2; omega
theorem RX (n : Nat) (hn : n ≤ 1000000000) (vx : Value) (h : Hp) (hR : RdL cI 1 h [] vx [-1]) {n' : Int} (en : n' = n) :
  FnT Tryz.prog 59 #[vx, .int .i64 n'] h [] (fun r h' ms' => h = h' ∧ ∃ m, ms' = [m] ∧ OwnL cI 1 3 m r (List.replicate n (-1))) := by
 subst en
 have hm1 : 1 * n / 18446744073709551616 = 0 := by omega
 have hm2 : 1 * n % 18446744073709551616 = n := by omega
 refine Av func59 ntmps59 rfl rfl (fun w0 hw0 => ?_)
 simp only [A5]
 refine Az (Qm rfl (An (Ac (Az (Qm rfl (Qm rfl (An (Ax rfl (fun hc => absurd hc (by omega)) (fun hc => Ai (Ad (Az (Qm rfl (Qx (AC hR.rd.any rfl underlying25 rfl) rfl ?_)))))))))))))
 refine Qx (Mu rfl underlying3 underlying106 rfl (Of (by simp))) rfl ?_
 refine Qm rfl (Qx (Mu rfl underlying3 underlying106 rfl (Of (by omega))) rfl ?_)
 refine Qx (AG rfl call89 rfl (WT 1 n (by omega) (by omega) _ _ (by simp) rfl)) rfl ?_
 refine Qm rfl ?_
 rw [hm1, hm2]
 refine Qm rfl (Qm rfl (Qm rfl (Qm rfl (An (Ac (Az (Qm rfl (Qm rfl (Qm rfl (AQ (t := 23) rfl (fun hs => absurd hs (by omega)) (fun hs => Qg (Au rfl rfl) rfl (Qg (BY rfl rfl rfl) rfl (Qm rfl (An (Ax rfl (fun hc => absurd hc (by omega)) (fun hc => Ai (Ad (Az (Qm rfl (Qx (Mu rfl underlying106 underlying3 rfl (Dd (by omega))) rfl ?_))))))))))))))))))))
 refine E0 (n := n) rfl underlying25 Bm rfl rfl rfl (by rfl) (by rfl) (by omega) (by omega) rfl rfl rfl (fun g30 => ?_)
 refine Qm rfl (BG (Qm rfl (Qm rfl ?_)))
 refine NJ (n := min 1 n) 0 rfl underlying25 Bm rfl rfl rfl hR.rd.any (by simp) rfl rfl (by simp; omega) (fun c hc => by simp [cI] at hc; subst hc; rfl) rfl rfl rfl ?_
 have e0 : ((List.replicate n (Value.int .i64 0)).take 0 ++ ([-1].flatMap cI).take (min 1 n) ++ (List.replicate n (Value.int .i64 0)).drop (0 + min 1 n)) = List.replicate (min 1 n) (Value.int .i64 (-1)) ++ List.replicate (n - min 1 n) (Value.int .i64 0) := by
  rcases Nat.eq_zero_or_pos n with h0 | h0
  ·subst h0; rfl
  ·rw [show min 1 n = 1 by omega]; simp [cI]
 rw [e0]
 refine Qm rfl (An (Ac (Ah ?_)))
 refine AD (fun q s h' ms' => ∃ (k : Nat) (y : Int), q = n - k ∧ s = [(7, .slice (some ⟨g30, 0, none⟩) n n), (8, .int .i64 y)] ∧ h = h' ∧ ms' = [Bf g30 3 (List.replicate k (Value.int .i64 (-1)) ++ List.replicate (n - k) (Value.int .i64 0))] ∧ y = k ∧ k ≤ n ∧ (0 < n → 0 < k))
  _ _ ⟨min 1 n, (min 1 n : Nat), rfl, rfl, rfl, rfl, rfl, by omega, by omega⟩ Qs ?_
 rintro q s h' ms' ⟨k, y, rfl, rfl, rfl, rfl, hy, hk, hk0⟩
 refine Ac (Az (Qm rfl (Qm rfl (Qx (Oj (ty := 25) rfl underlying25 rfl) rfl (Qm rfl (An ?_))))))
 refine Ax rfl (fun hlt => ?_) (fun hlt => ?_)
 ·refine Ai (Ad (Ah (CS 7 [true] CN (by kernel_rfl) (by kernel_rfl) (by kernel_rfl) (Dq rfl rfl rfl rfl (BM rfl rfl) ?_))))
  refine ⟨rfl, ?_⟩
  simp only [DI, zap, List.cons_append, List.nil_append, List.take_succ_cons, List.take_zero, List.drop_succ_cons, List.drop_zero, List.take_nil, List.drop_nil]
  refine Dl rfl rfl rfl (Wm rfl (Wm rfl (AM (ON k rfl underlying25 Bm rfl rfl hy (by omega)) rfl rfl (Wm rfl (Wm rfl (AM (OC k rfl underlying25 Bm rfl rfl hy (by omega)) rfl rfl (AU ?_)))))))
  have hRd : Rd h [Bf g30 3 (List.replicate k (Value.int .i64 (-1)) ++ List.replicate (n - k) (Value.int .i64 0))] (.slice (some ⟨g30, 0, none⟩) k n) 1 k (List.replicate k (Value.int .i64 (-1))) :=
   ⟨_, n, rfl, by omega, by omega, by simp, fun _ => ⟨_, rfl, fun j v hv => Cell.blk 0 rfl (by rw [List.getElem?_append_left (List.getElem?_eq_some_iff.1 hv).1]; exact hv)⟩⟩
  refine NJ (a := if n = k then ⟨g30, 0, none⟩ else (⟨g30, 0, none⟩ : Addr).add (k * 1)) (n := min k (n - k)) (of := k) 0 rfl underlying25 Bm rfl rfl (by rw [if_neg (by omega)]; simp [Addr.add]; omega) hRd (by omega) rfl rfl (by simp; omega) (fun c hc => by rw [(List.mem_replicate.1 hc).2]; rfl) rfl rfl rfl ?_
  have e1 : ((List.replicate k (Value.int .i64 (-1)) ++ List.replicate (n - k) (Value.int .i64 0)).take k ++ (List.replicate k (Value.int .i64 (-1))).take (min k (n - k)) ++ (List.replicate k (Value.int .i64 (-1)) ++ List.replicate (n - k) (Value.int .i64 0)).drop (k + min k (n - k))) = List.replicate (k + min k (n - k)) (Value.int .i64 (-1)) ++ List.replicate (n - (k + min k (n - k))) (Value.int .i64 0) := by
   rw [Ru n k _ _ (by omega)]; congr 2; omega
  rw [e1]
  refine Qx (oA rfl) rfl (Qm rfl (Ak (Gj (Aj ?_))))
  refine Am (n - (k + min k (n - k))) _ (by omega) ⟨k + min k (n - k), y + (min k (n - k) : Nat), rfl, rfl, rfl, rfl, by omega, by omega, by omega⟩ Qs
 ·obtain rfl : k = n := by omega
  refine Aw (Aa (Aa (Ag (Ad (Az (Qm rfl (Qm rfl (An (Aq ?_)))))))))
  exact As rfl rfl (⟨rfl, _, rfl, ⟨⟨by simp [Ch], .inr ⟨g30, k, [], by simp, by simp [Ch], by simp [Ch], by simp, by omega⟩⟩, AT⟩⟩)
open Go.Kuhn
def Bt (la lb : List Br) (cost : Int) (i k : Nat) : Bool :=
 if h : i < la.length ∧ k < lb.length then decide ((la[i]'h.1).apart (lb[k]'h.2) ≤ cost)
 else if h : i < la.length then decide (la[i].len ≤ cost)
 else if h : k < lb.length then decide (lb[k].len ≤ cost) else true
theorem UG (la lb : List Br) (va vb : Value) (ga gb gc : Nat) (cost : Int) (h : Hp) (hRa : RdL FJ 6 h [] va la) (hRb : RdL FJ 6 h [] vb lb) (hla : la.length ≤ 1000000) (hlb : lb.length ≤ 1000000) (hA : ∀ b ∈ la, Hk b) (hB : ∀ b ∈ lb, Hk b)
  (ca : Cell h [] ⟨ga, 0, none⟩ va) (cb : Cell h [] ⟨gb, 0, none⟩ vb) (cc : Cell h [] ⟨gc, 0, none⟩ (.int .i64 cost)) (i k : Nat) {i' k' : Int} (ei : i' = i) (ek : k' = k) (ms : List Hp) :
  FnV Tryz.prog 58 ([] ++ [Value.int .i64 i', .int .i64 k'] ++ [Value.pointer (some ⟨ga, 0, none⟩), .pointer (some ⟨gb, 0, none⟩), .pointer (some ⟨gc, 0, none⟩)]).toArray h ms (.bool (Bt la lb cost i k)) := by
 subst ei ek
 refine fun w hw => (?_ : FnV _ _ _ h [] _) w (hw.weaken (Hp.le_refl _) (List.nil_sublist _))
 refine FnT.toV ?_
 show FnT _ _ #[.int .i64 (i : Int), .int .i64 (k : Int), .pointer (some ⟨ga, 0, none⟩), .pointer (some ⟨gb, 0, none⟩), .pointer (some ⟨gc, 0, none⟩)] _ _ _
 refine Av func58 ntmps58 rfl rfl (fun w0 hw0 => ?_)
 simp only [A5]
 refine Az (Qm rfl (An (Ac (Ah (Az (Qm rfl (Ql rfl underlying33 (ca) (Qx (AC hRa.rd rfl underlying33 rfl) rfl (Qm rfl (Qm rfl ?_))))))))))
 refine AQ (t := 13) rfl (fun h1 => ?_) (fun h1 => ?_)
 ·refine Qg (Au rfl rfl) rfl (Qg (oL rfl underlying33 (cb)) rfl (Qg (AC hRb.rd rfl underlying33 rfl) rfl (Qg (C0 rfl rfl rfl) rfl (Qm rfl (Qm rfl (An ?_))))))
  refine Ax rfl (fun h2 => ?_) (fun h2 => ?_)
  ·have h1' : i < la.length := by omega
   have h2' : k < lb.length := by omega
   refine Ac (Bb 10 CN (by kernel_rfl) rfl (Wl rfl underlying33 (ca) (Wm rfl (AM (Af i hRa.rd rfl underlying33 BI rfl rfl (by omega) (by omega)) rfl rfl (AM (oG rfl underlying43 BI (hRa.seg h1')) rfl rfl (Wl rfl underlying33 (cb) (Wm rfl (AM (Af k hRb.rd rfl underlying33 BI rfl rfl (by omega) (by omega)) rfl rfl (AM (oG rfl underlying43 BI (hRb.seg h2')) rfl rfl (AM (AG rfl call33 rfl (NM _ _ (hA _ (List.getElem_mem h1')) (hB _ (List.getElem_mem h2')) _ _)) rfl rfl (Wl rfl underlying3 (cc) (AU (Qm rfl (Qm rfl (An (Aq (Al (Ae ?_))))))))))))))))))
   exact As rfl rfl (by unfold Bt; rw [dif_pos ⟨h1', h2'⟩])
  ·have h1' : i < la.length := by omega
   refine Az (Qm rfl (Ql rfl underlying33 (ca) (Qx (AC hRa.rd rfl underlying33 rfl) rfl (Qm rfl (Qm rfl (An ?_))))))
   refine Ax rfl (fun hc => ?_) (fun hc => absurd (h1) hc)
   refine Ac (Bb 6 CN (by kernel_rfl) rfl (Wl rfl underlying33 (ca) (Wm rfl (AM (Af i hRa.rd rfl underlying33 BI rfl rfl (by omega) (by omega)) rfl rfl (AM (oG rfl underlying43 BI (hRa.seg h1')) rfl rfl (AM (AG rfl call32 rfl (Gs _ (hA _ (List.getElem_mem h1')) _ _)) rfl rfl (Wl rfl underlying3 (cc) (AU (Qm rfl (Qm rfl (An (Aq (Al (Ae ?_))))))))))))))
   exact As rfl rfl (by unfold Bt; rw [dif_neg (by omega), dif_pos h1'])
 ·refine Qk rfl (Qk rfl (Qk rfl (Qk rfl (Qm rfl (Qm rfl (An (AO rfl (Az (Qm rfl (Ql rfl underlying33 (ca) (Qx (AC hRa.rd rfl underlying33 rfl) rfl (Qm rfl (Qm rfl (An (Ax rfl (fun hc => absurd hc (h1)) (fun hc => Az (Qm rfl (Ql rfl underlying33 (cb) (Qx (AC hRb.rd rfl underlying33 rfl) rfl (Qm rfl (Qm rfl (An ?_))))))))))))))))))))))
  refine Ax rfl (fun h3 => ?_) (fun h3 => ?_)
  ·have h3' : k < lb.length := by omega
   refine Ac (Bb 6 CN (by kernel_rfl) rfl (Wl rfl underlying33 (cb) (Wm rfl (AM (Af k hRb.rd rfl underlying33 BI rfl rfl (by omega) (by omega)) rfl rfl (AM (oG rfl underlying43 BI (hRb.seg h3')) rfl rfl (AM (AG rfl call32 rfl (Gs _ (hB _ (List.getElem_mem h3')) _ _)) rfl rfl (Wl rfl underlying3 (cc) (AU (Qm rfl (Qm rfl (An (Aq (Al (Ae ?_))))))))))))))
   exact As rfl rfl (by unfold Bt; rw [dif_neg (by omega), dif_neg (by omega), dif_pos h3'])
  ·refine Ai (Aj (Ad (Az (Qm rfl (An (Aq ?_))))))
   exact As rfl rfl (by unfold Bt; rw [dif_neg (by omega), dif_neg (by omega), dif_neg (by omega)])
def X6 (fits : Nat → Nat → Bool) (nl n i : Nat) (seen : List Bool) (part : List Int) (h : Hp) (rest : List Hp) (vs vp : Value) : Value → Hp → List Hp → Prop := fun r h' ms' =>
 ∃ (b : Bool) (m1 m2 : Hp) (seen' : List Bool) (part' : List Int), r = .bool b ∧ h = h' ∧ ms' = rest ++ [m1, m2] ∧ OwnL cB 1 4 m1 vs seen' ∧ OwnL cI 1 3 m2 vp part' ∧ G7 fits nl part' ∧ part'.length = part.length ∧ seen'.length = seen.length ∧
  (b = true → KT fits nl i seen part seen' part') ∧ (b = false → part' = part ∧ LI fits i n n seen part seen')
abbrev pA (g : Nat) : Value := .pointer (some ⟨g, 0, none⟩)
abbrev V4 (ga gb gc : Nat) : Value := .func (.func 58) ([] : List Value).toArray [pA ga, pA gb, pA gc].toArray
abbrev V1 (g1 g2 g3 g4 g5 : Nat) : Value := .func (.func 60) ([] : List Value).toArray [pA g1, pA g2, pA g3, pA g4, pA g5].toArray
theorem VT (la lb : List Br) (va vb : Value) (ga gb gc g1 g2 g3 g4 g5 : Nat) (cost : Int) (h : Hp) (hRa : RdL FJ 6 h [] va la) (hRb : RdL FJ 6 h [] vb lb) (hla : la.length ≤ 1000000) (hlb : lb.length ≤ 1000000) (hA : ∀ b ∈ la, Hk b) (hB : ∀ b ∈ lb, Hk b)
  (ca : Cell h [] ⟨ga, 0, none⟩ va) (cb : Cell h [] ⟨gb, 0, none⟩ vb) (cc : Cell h [] ⟨gc, 0, none⟩ (.int .i64 cost)) (n : Nat) (hn : n = la.length + lb.length) (vs vp : Value)
  (c1 : Cell h [] ⟨g1, 0, none⟩ (.int .i64 n)) (c3 : Cell h [] ⟨g3, 0, none⟩ (V4 ga gb gc)) (c4 : Cell h [] ⟨g4, 0, none⟩ vp) (c5 : Cell h [] ⟨g5, 0, none⟩ (V1 g1 g2 g3 g4 g5)) (N : Nat) :
  ∀ (i : Nat) (seen : List Bool) (part : List Int) (ms mp : Hp), E9 seen ≤ N → i < n → seen.length = n → part.length = n → G7 (Bt la lb cost) n part → OwnL cB 1 4 ms vs seen → OwnL cI 1 3 mp vp part → ∀ {i' : Int}, i' = i →
  FnT Tryz.prog 60 ([] ++ [Value.int .i64 i'] ++ [pA g1, pA g2, pA g3, pA g4, pA g5]).toArray h [Bf g2 108 [vs], ms, mp] (X6 (Bt la lb cost) n n i seen part h [Bf g2 108 [vs]] vs vp) := by
 induction N using Nat.strongRecOn with
 | _ N ih =>
 intro i seen part ms mp hN hi hsl hpl hK hS hP i' ei
 subst ei
 show FnT _ _ #[.int .i64 (i : Int), pA g1, pA g2, pA g3, pA g4, pA g5] _ _ _
 refine Av func60 ntmps60 rfl rfl (fun w0 hw0 => ?_)
 simp only [A5]
 refine Az (Qm rfl (An (Ac (Az (Ql rfl underlying3 (c1.any) (Qm rfl (An (Ah ?_))))))))
 refine AD (fun q s h' ms' => ∃ (k : Nat) (seen1 : List Bool) (m1 mp1 : Hp), q = n - k ∧ s = [(0, .int .i64 i), (1, pA g1), (2, pA g2), (3, pA g3), (4, pA g4), (5, pA g5), (9, .int .i64 n), (10, .int .i64 k)] ∧ h = h' ∧ ms' = [Bf g2 108 [vs], m1, mp1] ∧ k ≤ n ∧ OwnL cB 1 4 m1 vs seen1 ∧ OwnL cI 1 3 mp1 vp part ∧ LI (Bt la lb cost) i n k seen part seen1)
  (n - 0) _ ⟨0, seen, ms, mp, rfl, rfl, rfl, rfl, by omega, hS, hP, LI.start⟩ Qs ?_
 rintro q s h' ms' ⟨k, seen1, m1, mp1, rfl, rfl, rfl, rfl, hk, hS1, hP1, hL⟩
 refine Az (Qm rfl (An (Ac ?_)))
 refine Ax rfl (fun hlt => ?_) (fun hlt => ?_)
 ·have hkn : k < n := by omega
  have hks : k < seen1.length := by rw [hL.slen]; omega
  have hkp : k < part.length := by omega
  have hRs := OwnL.rd hS1 (h := h) (ms := [Bf g2 108 [vs], m1, mp1]) (.tail _ (.head _))
  refine Ai (Ad (Ac (Ah (Az (Qm rfl (Qm rfl (An (Ac (Az (Ql rfl underlying108 (Cell.blk0 0 rfl rfl) (Qm rfl (Qx (Af _ hRs.rd rfl underlying108 XL rfl rfl rfl (by omega)) rfl (Ql rfl underlying4 (hRs.cell0 hks rfl) (Qm rfl ?_))))))))))))))
  refine C6 (t := 17) rfl (fun hsk => ?_) (fun hsk => ?_)
  ·refine Qk rfl (Qk rfl (Qk rfl (Qk rfl (Qk rfl (Qm rfl (An (Bk rfl (Aw (Aa (Ag (Ad (Ab (Qx (oA rfl) rfl (Qm rfl (Ak ?_)))))))))))))))
   refine Am (n - (k + 1)) _ (by omega) ⟨k + 1, seen1, m1, mp1, rfl, rfl, rfl, rfl, by omega, hS1, hP1, hL.skip (.inl (by rw [List.getElem?_eq_getElem hks, hsk]))⟩ Qs
  ·refine Qg (oL rfl underlying87 (c3.any)) rfl (Qg (Au rfl rfl) rfl (Qg (Au rfl rfl) rfl (Qg (B0 rfl rfl call58 rfl (UG la lb va vb ga gb gc cost h hRa hRb hla hlb hA hB ca cb cc i k rfl rfl _)) rfl (Qg (Ft rfl rfl) rfl (Qm rfl (An ?_))))))
   refine Bu rfl (fun hft => ?_) (fun hft => ?_)
   ·refine Aw (Aa (Ag (Ad (Ab (Qx (oA rfl) rfl (Qm rfl (Ak ?_)))))))
    refine Am (n - (k + 1)) _ (by omega) ⟨k + 1, seen1, m1, mp1, rfl, rfl, rfl, rfl, by omega, hS1, hP1, hL.skip (.inr (by simpa using hft))⟩ Qs
   ·have hft' : Bt la lb cost i k = true := by simpa using hft
    have h0 : seen1[k]? ≠ some true := by rw [List.getElem?_eq_getElem hks, hsk]; simp
    refine Ai (Ad (Az (Ql rfl underlying108 (Cell.blk0 0 rfl rfl) (Qm rfl (Qx (Af _ hRs.rd rfl underlying108 XL rfl rfl rfl (by omega)) rfl (FM (F := cB) (f := fun x => .bool x) (a := true) 1 k (fun _ => rfl) hS1 rfl XL rfl rfl rfl rfl hks rfl rfl (fun m2 hS2 => ?_)))))))
    have hRp := OwnL.rd hP1 (h := h) (ms := [Bf g2 108 [vs], m2, mp1]) (.tail _ (.tail _ (.head _)))
    refine An (Ac (Bb 11 CN (by kernel_rfl) rfl (Wl rfl underlying25 (c4.any) (Wm rfl (AM (Af _ hRp.rd rfl underlying25 Bm rfl rfl rfl (by omega)) rfl rfl (Wl rfl underlying3 (hRp.cell0 hkp rfl) (Wm rfl (Wm rfl ?_))))))))
    refine BV (t := 32) rfl (fun hneg => ?_) (fun hneg => ?_)
    ·refine Ap rfl rfl rfl rfl rfl (Ap rfl rfl rfl rfl rfl (Ap rfl rfl rfl rfl rfl (Ap rfl rfl rfl rfl rfl (Ap rfl rfl rfl rfl rfl (AU (Qk rfl (Qm rfl (An (Bk rfl (Az (Ql rfl underlying25 (c4.any) (Qm rfl (Qm rfl (Qx (Af _ hRp.rd rfl underlying25 Bm rfl rfl rfl (by omega)) rfl (FM (F := cI) (f := fun x => .int .i64 x) (a := (i : Int)) 2 k (fun _ => rfl) hP1 rfl Bm rfl rfl rfl rfl hkp rfl rfl (fun m3 hP3 => BG (Qm rfl (An (Aq (Al (Ae (Ae (Al (Ae ?_))))))))))))))))))))))))
     have hT := hL.free hK hi hkp hks h0 hft' hneg
     exact As rfl rfl (⟨true, m2, m3, _, _, rfl, rfl, rfl, hS2, hP3, hT.pre, hT.plen, hT.slen, fun _ => hT, fun h => (by cases h)⟩)
    ·obtain ⟨p, hp, hpn, hpf⟩ : ∃ p : Nat, part[k] = (p : Int) ∧ p < n ∧ Bt la lb cost p k = true := by
      rcases hK k hkp with h1 | h1
      ·omega
      ·exact h1
     have hp' : part[k]? = some (p : Int) := by rw [List.getElem?_eq_getElem hkp, hp]
     have hu : E9 (seen1.set k true) < N := by
      have u1 := Kg seen1 k hks hsk
      have u2 := IX seen seen1 hL.slen hL.mono
      omega
     refine AF (oL rfl underlying76 (c5.any)) rfl rfl rfl rfl (AF (oL rfl underlying25 (c4.any)) rfl rfl rfl rfl (AF (Au rfl rfl) rfl rfl rfl rfl (AF (Af _ hRp.rd rfl underlying25 Bm rfl rfl rfl (by omega)) rfl rfl rfl rfl (AF (oL rfl underlying3 (hRp.cell0 hkp rfl)) rfl rfl rfl rfl (AU ?_)))))
     refine Ow (pre := [Bf g2 108 [vs], m2, mp1]) rfl rfl call60 rfl (ih _ hu p (seen1.set k true) part m2 mp1 (Nat.le_refl _) hpn (by rw [List.length_set, hL.slen]; exact hsl) hpl hK hS2 hP1 hp) rfl rfl rfl rfl rfl rfl rfl (fun _ _ _ _ hF => ?_)
     obtain ⟨b, m3, mp3, seen3, part3, rfl, rfl, rfl, hS3, hP3, hK3, hpl3, hsl3, hT, hFa⟩ := hF
     simp only [List.cons_append, List.nil_append, List.append_nil]
     refine Qm rfl (An ?_)
     refine Bu rfl (fun hb => ?_) (fun hb => ?_)
     ·have hT := hL.moved hi hkp hks h0 hft' hp' (hT hb)
      have hRp := OwnL.rd hP3 (h := h) (ms := [Bf g2 108 [vs], m3, mp3]) (.tail _ (.tail _ (.head _)))
      have hkp3 : k < part3.length := by omega
      refine Az (Ql rfl underlying25 (c4.any) (Qm rfl (Qm rfl (Qx (Af _ hRp.rd rfl underlying25 Bm rfl rfl rfl (by omega)) rfl ?_))))
      refine FM (F := cI) (f := fun x => .int .i64 x) (a := (i : Int)) 2 k (fun _ => rfl) hP3 rfl Bm rfl rfl rfl rfl (by rw [hpl3]; exact hkp) rfl rfl (fun m4 hP4 => ?_)
      refine BG (Qm rfl (An (Aq (Al (Ae (Ae (Al (Ae ?_))))))))
      exact As rfl rfl (⟨true, m3, m4, _, _, rfl, rfl, rfl, hS3, hP4, hT.pre, hT.plen, hT.slen, fun _ => hT, fun h => (by cases h)⟩)
     ·obtain ⟨rfl, hLF⟩ := hFa hb
      refine Ai (Aj (Ad (Ab (Qx (oA rfl) rfl (Qm rfl (Ak ?_))))))
      refine Am (n - (k + 1)) _ (by omega) ⟨k + 1, seen3, m3, mp3, rfl, rfl, rfl, rfl, by omega, hS3, hP3, hL.fail hks hp' hLF⟩ Qs
 ·obtain rfl : k = n := by omega
  refine Aw (Aa (Aa (Ag (Ad (Az (Qm rfl (An (Aq ?_))))))))
  exact As rfl rfl (⟨false, m1, mp1, seen1, part, rfl, rfl, rfl, hS1, hP1, hK, rfl, hL.slen, fun h => (by cases h), fun _ => ⟨rfl, hL⟩⟩)
theorem US (g n : Nat) (hn : n ≤ 9223372036854775807) : OwnL cB 1 4 (Bf g 4 (List.replicate n (Value.bool false))) (.slice (some ⟨g, 0, none⟩) n n) (List.replicate n false) :=
 ⟨⟨by rw [← O7]; simp, .inr ⟨g, n, [], by simp, by rw [← O7]; simp, by rw [← O7]; simp, by simp, hn⟩⟩, W0⟩
theorem N1 (la lb : List Br) (va vb : Value) (cost : Int) (h : Hp) (hRa : RdL FJ 6 h [] va la) (hRb : RdL FJ 6 h [] vb lb) (hla : la.length ≤ 1000000) (hlb : lb.length ≤ 1000000) (hA : ∀ b ∈ la, Hk b) (hB : ∀ b ∈ lb, Hk b) :
  FnT Tryz.prog 37 #[va, vb, .int .i64 cost] h [] (fun r _ _ => ∃ b, r = .bool b ∧ (b = true → Pos (Bt la lb cost) (la.length + lb.length)) ∧ (b = false → Xe (Bt la lb cost) (la.length + lb.length))) := by
 refine Av func37 ntmps37 rfl rfl (fun w0 hw0 => ?_)
 simp only [A5]
 refine Az (A8 [_] rfl rfl ((RdL.rd ‹_›).cells) rfl rfl rfl (fun g3 => A8 [_] rfl rfl ((RdL.rd ‹_›).cells) rfl rfl rfl (fun g4 => ?_)))
 refine A8 [_] rfl rfl (by rfl) rfl rfl rfl (fun g5 => ?_)
 refine Qm rfl (BG (Ql rfl underlying33 (Cell.blk0 2 rfl rfl) (Qx (AC hRa.rd.any rfl underlying33 rfl) rfl (Ql rfl underlying33 (Cell.blk0 1 rfl rfl) (Qx (AC hRb.rd.any rfl underlying33 rfl) rfl (Qx (oA rfl) rfl (C4 [.int .i64 0] rfl Bm rfl rfl (fun g7 => ?_))))))))
 refine AK 0 0 rfl Bm rfl rfl (by rfl) rfl rfl (by decide) rfl rfl ?_
 refine BG (Qx (Bv rfl rfl rfl) rfl (C4 [.nilFunc] rfl Xq rfl rfl (fun g8 => ?_)))
 refine AK 0 0 rfl Xq rfl rfl (by rfl) rfl rfl (by decide) rfl rfl ?_
 refine BG ?_
 refine Ao [_] rfl underlying25 Bm rfl (by rfl) rfl rfl (by omega) rfl rfl rfl (fun g19 => ?_)
 refine BF (fun h1 hle1 s19 => ?_)
 have hR19 : RdL cI 1 h1 [] (.slice (some ⟨g19, 0, none⟩) 1 1) [-1] := ⟨⟨_, 1, rfl, by simp, by omega, rfl, fun _ => ⟨_, rfl, s19⟩⟩, AT⟩
 obtain ⟨n, hn⟩ : ∃ n, n = la.length + lb.length := ⟨_, rfl⟩
 rw [← hn]
 refine Ql rfl underlying3 (Cell.blk0 1 rfl rfl) (Qc call59 rfl (RX n (by omega) _ h1 hR19 (by omega)) (fun vp _ _ _ hL => ?_))
 obtain ⟨rfl, mp, rfl, hP⟩ := hL
 simp only [List.cons_append, List.nil_append]
 have hRp := OwnL.rd hP (h := h1) (ms := [mp]) (.head _)
 refine C4 [.slice none 0 0] rfl Cn rfl rfl (fun g9 => AK 0 0 rfl Cn rfl rfl ((RdL.rd ‹_›).one) rfl rfl (by decide) rfl rfl (BG (C4 [.slice none 0 0] rfl Wa rfl rfl (fun g10 => BG (C4 [.nilFunc] rfl XD rfl rfl (fun g11 => BG (Qx (Bv rfl rfl rfl) rfl ?_)))))))
 refine AK 0 0 rfl XD rfl rfl (by rfl) rfl rfl (by decide) rfl rfl ?_
 refine An (Dr 0 rfl (fun h2 l2 s11 => Dr 1 rfl (fun h3 l3 s9 => Dr 2 rfl (fun h4 l4 s8 => Dr 2 rfl (fun h5 l5 s7 => Dr 2 rfl (fun h6 l6 s5 => Dr 2 rfl (fun h7 l7 s4 => Dr 2 rfl (fun h8 l8 s3 => ?_))))))))
 have t3 := l8
 have t4 := Hp.le_trans l7 t3
 have t5 := Hp.le_trans l6 t4
 have t6 := Hp.le_trans l5 t5
 have t7 := Hp.le_trans l4 t6
 have t8 := Hp.le_trans l3 t7
 have t9 := Hp.le_trans l2 t8
 have t10 := Hp.le_trans hle1 t9
 have ca : Cell h8 [] ⟨g3, 0, none⟩ va := s3.at0 rfl
 have cb : Cell h8 [] ⟨g4, 0, none⟩ vb := (s4.at0 rfl).le t3
 have cc : Cell h8 [] ⟨g5, 0, none⟩ (.int .i64 cost) := (s5.at0 rfl).le t4
 have c7 : Cell h8 [] ⟨g7, 0, none⟩ (.int .i64 n) := (s7.le t5).at0 (by rw [hn]; simp)
 have c8 : Cell h8 [] ⟨g8, 0, none⟩ (V4 g3 g4 g5) := (s8.at0 rfl).le t6
 have c9 : Cell h8 [] ⟨g9, 0, none⟩ vp := (s9.at0 rfl).le t7
 have c11 : Cell h8 [] ⟨g11, 0, none⟩ (V1 g7 g10 g8 g9 g11) := (s11.at0 rfl).le t8
 have hRa' := hRa.up t10
 have hRb' := hRb.up t10
 clear s3 s4 s5 s7 s8 s9 s11 s19 hR19 t3 t4 t5 t6 t7 t8 t9 t10 l2 l3 l4 l5 l6 l7 l8 hle1
 try simp only [List.eraseIdx_cons_zero, List.eraseIdx_cons_succ]
 have hcnt : ∀ x : Nat, (List.replicate n (-1 : Int)).count (x : Int) = if x < 0 then 1 else 0 := fun x => by
  rw [List.count_replicate, if_neg (by simp), if_neg (by omega)]
 have hK0 : G7 (Bt la lb cost) n (List.replicate n (-1)) := fun k hk => .inl (by simp)
 refine Ac (Az (Ql rfl underlying3 (c7.any) (Qm rfl (An (Ah ?_)))))
 refine AD (fun q s h' ms' => ∃ (i : Nat) (part : List Int) (m : Hp) (vold : Value), q = n - i ∧ s = [(7, pA g7), (10, pA g10), (11, pA g11), (23, .int .i64 n), (24, .int .i64 i)] ∧ h8 = h' ∧ ms' = [Bf g10 108 [vold], m] ∧ i ≤ n ∧ part.length = n ∧ OwnL cI 1 3 m vp part ∧ G7 (Bt la lb cost) n part ∧ ∀ x : Nat, part.count (x : Int) = if x < i then 1 else 0)
  (n - 0) _ ⟨0, _, mp, _, rfl, rfl, rfl, rfl, by omega, by simp, hP, hK0, hcnt⟩ Qs ?_
 clear hcnt hP hRp
 rintro q s h' ms' ⟨i, part, m, vold, rfl, rfl, rfl, rfl, hi, hpl, hP, hK, hcnt⟩
 clear hK0
 refine Az (Qm rfl (An (Ac ?_)))
 refine Ax rfl (fun hlt => ?_) (fun hlt => ?_)
 ·refine Ai (Ad (Ac (Ah (Az (Qm rfl (Qm rfl (BG (Ql rfl underlying3 (c7.any) ?_))))))))
  refine E0 (n := n) rfl underlying108 XL rfl rfl rfl (by rfl) (by rfl) (by omega) (by omega) rfl rfl rfl (fun g28 => ?_)
  refine AK 1 0 rfl Wa rfl rfl (by rfl) rfl rfl (by (simp; done)) rfl rfl ?_
  refine BG (Ql rfl underlying76 (c11.any) (Qm rfl (Mp (List.Perm.swap _ _ _) ?_)))
  refine Dt (pre := [Bf g10 108 [.slice (some ⟨g28, 0, none⟩) n n], Bf g28 4 (List.replicate n (Value.bool false)), m]) rfl rfl call60 rfl (VT la lb va vb g3 g4 g5 g7 g10 g8 g9 g11 cost h8 hRa' hRb' hla hlb hA hB ca cb cc n hn _ vp c7 c8 c9 c11 _ i (List.replicate n false) part _ m (Nat.le_refl _) (by omega) (by simp) hpl hK (US g28 n (by omega)) hP rfl) rfl rfl rfl rfl (fun _ _ _ _ hF => ?_)
  obtain ⟨b, m1, m2, seen', part', rfl, rfl, rfl, hS1, hP1, hK1, hpl1, hsl1, hT, hFa⟩ := hF
  simp only [List.cons_append, List.nil_append, List.append_nil]
  refine Qm rfl (An ?_)
  refine Bu rfl (fun hb => ?_) (fun hb => ?_)
  ·have hb' : b = false := by simpa using hb
   obtain ⟨rfl, hL⟩ := hFa hb'
   refine Az (Qm rfl (An (Aq (Al (Ae (Ae (Al (Ae ?_))))))))
   exact As rfl rfl (⟨false, rfl, fun h => (by cases h), fun _ => ⟨i, part', seen', by omega, hpl, hK, hcnt, hL⟩⟩)
  ·have hb' : b = true := by simpa using hb
   have hT := hT hb'
   refine Ai (Aj (Ad (Ab (Qx (oA rfl) rfl (Qm rfl (Ak ?_))))))
   refine Gx (ms' := [m1, Bf g10 108 [.slice (some ⟨g28, 0, none⟩) n n], m2]) (List.Perm.swap _ _ _) (AS ?_)
   refine Am (n - (i + 1)) _ (by omega) ⟨i + 1, part', m2, _, rfl, rfl, rfl, rfl, by omega, by omega, hP1, hK1, fun x => ?_⟩ Qs
   rw [hT.cnt x, hcnt x]
   by_cases h1 : x < i
   ·rw [if_pos h1, if_neg (by omega), if_pos (by omega)]
   ·by_cases h2 : x = i
    ·rw [if_neg h1, if_pos h2, if_pos (by omega)]
    ·rw [if_neg h1, if_neg h2, if_neg (by omega)]
 ·obtain rfl : i = n := by omega
  refine Aw (Aa (Aa (Ag (Ad (Az (Qm rfl (An (Aq ?_))))))))
  exact As rfl rfl (⟨true, rfl, fun _ => ⟨part, hpl, hK, fun x hx => by rw [hcnt x, if_pos hx]⟩, fun h => by cases h⟩)
open Classical in
noncomputable def VH (F : Nat → Nat → Bool) (n : Nat) : Bool := decide (Pos F n)
theorem Pe (la lb : List Br) (va vb : Value) (cost : Int) (h : Hp) (hRa : RdL FJ 6 h [] va la) (hRb : RdL FJ 6 h [] vb lb) (hla : la.length ≤ 1000000) (hlb : lb.length ≤ 1000000) (hA : ∀ b ∈ la, Hk b) (hB : ∀ b ∈ lb, Hk b) (ms : List Hp) :
  FnV Tryz.prog 37 #[va, vb, .int .i64 cost] h ms (.bool (VH (Bt la lb cost) (la.length + lb.length))) := by
 refine fun w hw => (?_ : FnV _ _ _ h [] _) w (hw.weaken (Hp.le_refl _) (List.nil_sublist _))
 refine FnT.toV (FnT.mono (N1 la lb va vb cost h hRa hRb hla hlb hA hB) ?_)
 rintro r h' ms' ⟨b, rfl, h1, h2⟩
 unfold VH
 cases b with
 | true => simp [h1 rfl]
 | false => simp [NA (h2 rfl)]
def CK (l : List (Int × Int)) : Int := l.foldl (fun m p => max m (2 * DE (p.1 - p.2))) 0
def BN (p q : List Br) (m : Int) : List Int := m :: (p.flatMap fun x => x.len :: q.map x.apart) ++ q.map Br.len
def tried (p q : List Br) (m : Int) : List Int := Lib.compact ((DC (BN p q m)).filter fun n => decide (m ≤ n))
theorem LH (l : List (Int × Int)) (p : Int × Int) : CK (l ++ [p]) = max (CK l) (2 * DE (p.1 - p.2)) := by simp [CK]
theorem N8 (M : Int) : ∀ (l : List (Int × Int)) (a : Int), 0 ≤ a → a ≤ M → (∀ p ∈ l, 2 * DE (p.1 - p.2) ≤ M) → 0 ≤ l.foldl (fun m p => max m (2 * DE (p.1 - p.2))) a ∧ l.foldl (fun m p => max m (2 * DE (p.1 - p.2))) a ≤ M
 | [], a, h1, h2, _ => ⟨h1, h2⟩
 | p :: l, a, h1, h2, h => N8 M l _ (by show 0 ≤ max a _; omega) (by have := h p (by simp); show max a (2 * DE (p.1 - p.2)) ≤ M; omega) fun q hq => h q (by simp [hq])
theorem G4 (l : List (Int × Int)) (h : ∀ p ∈ l, DE (p.1 - p.2) ≤ 2000000000000) : 0 ≤ CK l ∧ CK l ≤ 4000000000000 :=
 N8 4000000000000 l 0 (by omega) (by omega) fun p hp => by have := h p hp; omega
theorem ET (dim : Int) (l : List Br) (h : ∀ b ∈ l, Hk b) : ∀ x ∈ AW dim l, -1000000000000 ≤ x ∧ x ≤ 1000000000000 := by
 intro x hx
 have := (Cs _).mem_iff.1 hx
 obtain ⟨b, hb, rfl⟩ := List.mem_map.1 this
 have := h b (List.mem_filter.1 hb).1
 exact ⟨this.b1, this.b2⟩
theorem HZ (dim : Int) (l : List Br) : (AW dim l).length ≤ l.length := by
 unfold AW
 rw [(Cs _).length_eq, List.length_map]
 exact List.length_filter_le _ _
theorem UE (g : Nat) (x : Int) : OwnL cI 1 3 (Bf g 3 [.int .i64 x]) (.slice (some ⟨g, 0, none⟩) 1 1) [x] :=
 ⟨⟨rfl, .inr ⟨g, 1, [], rfl, rfl, rfl, Nat.le_refl _, by omega⟩⟩, AT⟩
theorem SH {b : Br} (h : Hk b) : -2000000000000 ≤ b.len ∧ b.len ≤ 2000000000000 := by
 obtain ⟨h1, h2, h3, h4⟩ := h; unfold Br.len; omega
theorem Pf {p q : List Br} {c c' : Int} (h : c ≤ c') (i k : Nat) (hf : Bt p q c i k = true) : Bt p q c' i k = true := by
 unfold Bt at *
 split
 ·rename_i h1; rw [dif_pos h1] at hf; have := of_decide_eq_true hf; exact decide_eq_true (by omega)
 ·rename_i h1
  rw [dif_neg h1] at hf
  split
  ·rename_i h2; rw [dif_pos h2] at hf; have := of_decide_eq_true hf; exact decide_eq_true (by omega)
  ·rename_i h2
   rw [dif_neg h2] at hf
   split
   ·rename_i h3; rw [dif_pos h3] at hf; have := of_decide_eq_true hf; exact decide_eq_true (by omega)
   ·rfl
theorem PW (p q : List Br) (c : Int) (hp : ∀ b ∈ p, b.len ≤ c) (hq : ∀ b ∈ q, b.len ≤ c) : Pos (Bt p q c) (p.length + q.length) := by
 refine ⟨(List.range q.length).map (fun k => ((p.length + k : Nat) : Int)) ++ (List.range p.length).map (fun k : Nat => (k : Int)), by simp; omega, fun k hk => ?_, fun x hx => ?_⟩
 ·right
  rw [List.getElem_append]
  split
  ·rename_i h1
   have h1' : k < q.length := by simpa using h1
   refine ⟨p.length + k, by simp, by omega, ?_⟩
   unfold Bt
   rw [dif_neg (by omega), dif_neg (by omega), dif_pos h1']
   exact decide_eq_true (hq _ (List.getElem_mem h1'))
  ·rename_i h1
   have h1' : q.length ≤ k := by simpa using h1
   have h2' : k - q.length < p.length := by simp at hk; omega
   refine ⟨k - q.length, by simp, by omega, ?_⟩
   unfold Bt
   rw [dif_neg (by omega), dif_pos h2']
   exact decide_eq_true (hp _ (List.getElem_mem h2'))
 ·have hn : ((List.range q.length).map (fun k => ((p.length + k : Nat) : Int)) ++ (List.range p.length).map (fun k : Nat => (k : Int))).Nodup := by
   refine List.nodup_append.2 ⟨List.pairwise_map.2 (List.nodup_range.imp fun h e => h (by omega)), List.pairwise_map.2 (List.nodup_range.imp fun h e => h (by omega)), fun a ha b hb e => ?_⟩
   obtain ⟨i, hi, rfl⟩ := List.mem_map.1 ha
   obtain ⟨j, hj, rfl⟩ := List.mem_map.1 hb
   simp at hi hj; omega
  have hm : (x : Int) ∈ (List.range q.length).map (fun k => ((p.length + k : Nat) : Int)) ++ (List.range p.length).map (fun k : Nat => (k : Int)) := by
   rw [List.mem_append]
   rcases Nat.lt_or_ge x p.length with h | h
   ·exact .inr (List.mem_map.2 ⟨x, by simpa using h, rfl⟩)
   ·exact .inl (List.mem_map.2 ⟨x - p.length, by simp; omega, by simp; omega⟩)
  have h1 := List.nodup_iff_count.1 hn (x : Int)
  have h2 := List.count_pos_iff.2 hm
  omega
def IsDist (p q : List Br) (L d : Int) : Prop := d ∈ BN p q L ∧ L ≤ d ∧ Pos (Bt p q d) (p.length + q.length) ∧ ∀ c ∈ BN p q L, L ≤ c → Pos (Bt p q c) (p.length + q.length) → d ≤ c
theorem Ra (p q : List Br) (L c : Int) : c ∈ tried p q L ↔ c ∈ BN p q L ∧ L ≤ c := by
 unfold tried
 rw [Na, List.mem_filter, (Cs _).mem_iff]; simp
theorem Mr (p q : List Br) (L : Int) : (tried p q L).Pairwise (· ≤ ·) := by
 unfold tried
 exact ((DF _).filter _).sublist (D8 _)
theorem It (p q : List Br) (L : Int) : (∀ b ∈ p, b.len ∈ BN p q L) ∧ (∀ b ∈ q, b.len ∈ BN p q L) := by
 unfold BN
 constructor
 ·intro b hb
  refine List.mem_append_left _ (List.mem_cons_of_mem _ (List.mem_flatMap.2 ⟨b, hb, by simp⟩))
 ·intro b hb
  exact List.mem_append_right _ (List.mem_map.2 ⟨b, hb, rfl⟩)
theorem Hc {l : List Int} (h : l.Pairwise (· ≤ ·)) {i j : Nat} (hij : i ≤ j) (hj : j < l.length) : l[i]'(by omega) ≤ l[j] := by
 rcases Nat.lt_or_ge i j with h1 | h1
 ·exact List.pairwise_iff_getElem.1 h i j (by omega) hj h1
 ·have : i = j := by omega
  subst this; exact Int.le_refl _
theorem MQ (la lb : List Br) (va vb : Value) (dim : Int) (h : Hp) (hRa : RdL FJ 6 h [] va la) (hRb : RdL FJ 6 h [] vb lb) (hla : la.length ≤ 10000) (hlb : lb.length ≤ 10000) (hA : ∀ b ∈ la, Hk b) (hB : ∀ b ∈ lb, Hk b) :
  FnT Tryz.prog 9 #[va, vb, .int .i64 dim] h [] (fun r _ _ => ∃ (d : Int) (e : Bool), r = .tuple #[.int .i64 d, .bool e] ∧ ((AW dim la).length ≠ (AW dim lb).length → d = 0 ∧ e = false) ∧ ((AW dim la).length = (AW dim lb).length → e = true ∧ IsDist (la.filter (Br.finIn dim)) (lb.filter (Br.finIn dim)) (CK ((AW dim la).zip (AW dim lb))) d)) := by
 refine Av func9 ntmps9 rfl rfl (fun w0 hw0 => ?_)
 simp only [A5]
 refine Az ?_
 refine A8 [_] rfl rfl (by rfl) rfl rfl rfl (fun g5 => ?_)
 refine BF (fun h1 l1 s5 => ?_)
 have c5 : Cell h1 [] ⟨g5, 0, none⟩ (.int .i64 dim) := s5.at0 rfl
 have hRa1 := hRa.up l1
 have hRb1 := hRb.up l1
 refine Qm rfl (Qm rfl (BG (Qx (Bv rfl rfl rfl) rfl (Qm rfl (BG (Qm rfl (Qm rfl (Dt (pre := []) rfl rfl call26 rfl (K8 la va g5 dim h1 hRa1 (by omega) c5) rfl rfl rfl rfl (fun vx h2 _ l2 hL => ?_)))))))))
 obtain ⟨rfl, hRx⟩ := hL
 refine Qm rfl (Qm rfl (Dt (pre := []) rfl rfl call26 rfl (K8 lb vb g5 dim h2 (hRb1.up l2) (by omega) (c5.le l2)) rfl rfl rfl rfl (fun vy h3 _ l3 hL => ?_)))
 obtain ⟨rfl, hRy⟩ := hL
 have hRx := hRx.up l3
 have hxb := ET dim la hA
 have hyb := ET dim lb hB
 have hxl := HZ dim la
 have hyl := HZ dim lb
 generalize hX : AW dim la = X at hRx hxb hxl ⊢
 generalize hY : AW dim lb = Y at hRy hyb hyl ⊢
 have c5 := c5.le (Hp.le_trans l2 l3)
 have hRa1 := hRa1.up (Hp.le_trans l2 l3)
 have hRb1 := hRb1.up (Hp.le_trans l2 l3)
 clear s5 l1 hRa hRb l2 l3
 refine Qm rfl (Qm rfl (An (Ac (Az (Qm rfl (Qx (AC hRx.rd.any rfl underlying25 rfl) rfl (Qm rfl (Qx (AC hRy.rd.any rfl underlying25 rfl) rfl (Qm rfl (An ?_))))))))))
 have hZ : ∀ p ∈ X.zip Y, DE (p.1 - p.2) ≤ 2000000000000 := fun p hp => by
  have h1 := hxb _ (List.of_mem_zip hp).1
  have h2 := hyb _ (List.of_mem_zip hp).2
  unfold DE; omega
 refine Ax rfl (fun hne => ?_) (fun hne => ?_)
 ·refine Ac (Ab (Qm rfl (Qm rfl (An (Aq (Ae ?_))))))
  exact BH rfl rfl rfl (⟨0, false, rfl, fun _ => ⟨rfl, rfl⟩, fun h => absurd h (by omega)⟩)
 ·have hlen : X.length = Y.length := by omega
  refine Ai (Ad (Az (C4 [.int .i64 0] rfl Bm rfl rfl (fun g11 => ?_))))
  refine AK 0 0 rfl Bm rfl rfl (by rfl) rfl rfl (by decide) rfl rfl ?_
  refine An (Ac (Az (Qm rfl (Qx (AC hRx.rd.any rfl underlying25 rfl) rfl (Qm rfl (An (Ah ?_)))))))
  refine AD (fun q s h' ms' => ∃ (k : Nat), q = X.length - k ∧ s = [(0, va), (1, vb), (5, .pointer (some ⟨g5, 0, none⟩)), (9, vx), (10, vy), (11, .pointer (some ⟨g11, 0, none⟩)), (39, .int .i64 X.length), (40, .int .i64 k)] ∧ h3 = h' ∧ ms' = [Bf g11 3 [.int .i64 (CK ((X.zip Y).take k))]] ∧ k ≤ X.length)
   (X.length - 0) _ ⟨0, rfl, rfl, rfl, rfl, by omega⟩ Qs ?_
  rintro q s h' ms' ⟨k, rfl, rfl, rfl, rfl, hk⟩
  refine Az (Qm rfl (An (Ac ?_)))
  refine Ax rfl (fun hlt => ?_) (fun hlt => ?_)
  ·have hkx : k < X.length := by omega
   have hky : k < Y.length := by omega
   have hkz : k < (X.zip Y).length := by simp; omega
   have b1 := hxb _ (List.getElem_mem hkx)
   have b2 := hyb _ (List.getElem_mem hky)
   have b3 := G4 ((X.zip Y).take k) fun p hp => hZ p (List.mem_of_mem_take hp)
   have b4 : DE (X[k] - Y[k]) ≤ 2000000000000 ∧ 0 ≤ DE (X[k] - Y[k]) := by unfold DE; omega
   have hst : (X.zip Y).take (k + 1) = (X.zip Y).take k ++ [(X[k], Y[k])] := by rw [List.take_succ_eq_append_getElem hkz]; simp
   refine Ai (Ad (Ac (Ah (Az (Qm rfl (Qm rfl (An (Bb 12 CN (by kernel_rfl) rfl (Wl rfl underlying3 (Cell.blk0 0 rfl rfl) (Wm rfl (Wm rfl (AM (Af _ hRx.rd.any rfl underlying25 Bm rfl rfl rfl (by omega)) rfl rfl (Wl rfl underlying3 (hRx.any.cell0 hkx rfl) (Wm rfl (Wm rfl (AM (Af _ hRy.rd.any rfl underlying25 Bm rfl rfl rfl (by omega)) rfl rfl (Wl rfl underlying3 (hRy.any.cell0 hky rfl) (AM (oS rfl) rfl rfl (AM (AG rfl call25 rfl (Pd _ (by omega) _ _)) rfl rfl (AM (oM rfl) rfl rfl (AU (Qx (Ho rfl rfl rfl) rfl ?_))))))))))))))))))))))
   refine AK 0 0 rfl Bm rfl rfl (by rfl) rfl rfl (by (simp; done)) rfl rfl ?_
   refine Ak (Aj (Ad (Ab (Qx (oA rfl) rfl (Qm rfl (Ak ?_))))))
   refine Am (X.length - (k + 1)) _ (by omega) ⟨k + 1, rfl, rfl, rfl, by rw [hst, LH]; rfl, by omega⟩ Qs
  ·have hkX : k = X.length := by omega
   have htk : (X.zip Y).take k = X.zip Y := List.take_of_length_le (by simp; omega)
   rw [htk]
   have b3 := G4 (X.zip Y) hZ
   generalize CK (X.zip Y) = L at b3 ⊢
   refine Aw (Aa (Aa (Ag (Ad (AA (fun h4 l4 s11 => ?_))))))
   have c11 : Cell h4 [] ⟨g11, 0, none⟩ (.int .i64 L) := s11.at0 rfl
   have c5 := c5.le l4
   have hRa1 := hRa1.up l4
   have hRb1 := hRb1.up l4
   refine Az (Qx (Bv rfl rfl rfl) rfl (Qm rfl (BG (Qm rfl (Qm rfl (Qc call27 rfl (EX la va 30 [Value.pointer (some ⟨g5, 0, none⟩)] (Br.finIn dim) h4 hRa1 (by omega) call30 (fun b _ ms => MV b g5 dim h4 (fun _ => c5.any) ms)) (fun vp h5 _ l5 hL => ?_)))))))
   obtain ⟨rfl, hRp⟩ := hL
   refine Qm rfl (Qm rfl (Qc call27 rfl (EX lb vb 30 [Value.pointer (some ⟨g5, 0, none⟩)] (Br.finIn dim) h5 (hRb1.up l5) (by omega) call30 (fun b _ ms => MV b g5 dim h5 (fun _ => (c5.le l5).any) ms)) (fun vq h6 _ l6 hL => ?_)))
   obtain ⟨rfl, hRq⟩ := hL
   have hRp := hRp.up l6
   have c11 := c11.le (Hp.le_trans l5 l6)
   have hp1 : (la.filter (Br.finIn dim)).length ≤ la.length := List.length_filter_le _ _
   have hq1 : (lb.filter (Br.finIn dim)).length ≤ lb.length := List.length_filter_le _ _
   have hpA : ∀ b ∈ la.filter (Br.finIn dim), Hk b := fun b hb => hA b (List.mem_filter.1 hb).1
   have hqB : ∀ b ∈ lb.filter (Br.finIn dim), Hk b := fun b hb => hB b (List.mem_filter.1 hb).1
   generalize la.filter (Br.finIn dim) = p at hRp hp1 hpA ⊢
   generalize lb.filter (Br.finIn dim) = q at hRq hq1 hqB ⊢
   refine Qm rfl (Qm rfl (BG (Ql rfl underlying3 (c11.any) ?_)))
   refine Ao [_] rfl underlying25 Bm rfl (by rfl) rfl rfl (by omega) rfl rfl rfl (fun g65 => ?_)
   refine Qm rfl (An (Ac (Az (Qm rfl (Qx (AC hRp.rd.any rfl underlying33 rfl) rfl (Qm rfl (An (Ah ?_))))))))
   refine AD (fun n s h' ms' => ∃ (k : Nat) (v : Value) (m : Hp) (C : List Int), n = p.length - k ∧ s = [(11, .pointer (some ⟨g11, 0, none⟩)), (14, vp), (15, vq), (16, v), (66, vp), (67, .int .i64 p.length), (68, .int .i64 k)] ∧ h6 = h' ∧ ms' = [m] ∧ k ≤ p.length ∧ OwnL cI 1 3 m v C ∧ C = L :: ((p.take k).flatMap fun x => x.len :: q.map x.apart) ∧ C.length ≤ 1 + k * 20000)
    (p.length - 0) _ ⟨0, _, _, [L], rfl, rfl, rfl, rfl, by omega, UE _ _, rfl, by simp⟩ Qs ?_
   rintro n s h' ms' ⟨k, v, m, C, rfl, rfl, rfl, rfl, hk, hO, hC, hCl⟩
   refine Az (Qm rfl (An (Ac ?_)))
   refine Ax rfl (fun hltp => ?_) (fun hltp => ?_)
   ·have hkp : k < p.length := by omega
    have hbk := hpA _ (List.getElem_mem hkp)
    have hts : (p.take (k + 1)).flatMap (fun x => x.len :: q.map x.apart) = (p.take k).flatMap (fun x => x.len :: q.map x.apart) ++ (p[k].len :: q.map p[k].apart) := by
     rw [List.take_succ_eq_append_getElem hkp, List.flatMap_append]; simp
    refine Ai (Ad (Ac (Ah (Az (Qx (Af _ hRp.rd.any rfl underlying33 BI rfl rfl rfl (by omega)) rfl (Qx (oG rfl underlying43 BI (hRp.any.seg hkp)) rfl (C4 [.int .i64 0, .int .i64 0, .int .i64 0, .bool false, .int .i64 0, .int .i64 0] rfl BI rfl rfl (fun g18 => ?_))))))))
    refine Dx 0 _ rfl BI rfl rfl rfl (ER _) rfl (by rfl) (by rfl) rfl rfl ?_
    refine BG (Qm rfl (Qx (oG rfl underlying43 BI (Seg.blk 0 rfl)) rfl (Qx (AG rfl call32 rfl (Gs _ hbk _ _)) rfl ?_)))
    refine Ao [_] rfl underlying25 Bm rfl (by rfl) rfl rfl (by omega) rfl rfl rfl (fun g75 => ?_)
    refine AJ 2 hO (RdL.one AT (List.Mem.head _) rfl) rfl underlying25 Bm rfl (by omega) rfl rfl rfl BW (by simp; omega) (by simp; omega) rfl rfl rfl (fun v1 m1 hO1 => ?_)
    refine Qm rfl (BG (Qm rfl (Qx (AC hRq.rd.any rfl underlying33 rfl) rfl (Qm rfl (An (Ah (Jh ?_)))))))
    refine AD (fun n s h' ms' => ∃ (j : Nat) (v : Value) (m : Hp) (D : List Int), n = q.length - j ∧ s = [(11, .pointer (some ⟨g11, 0, none⟩)), (14, vp), (15, vq), (16, v), (18, .pointer (some ⟨g18, 0, none⟩)), (66, vp), (67, .int .i64 p.length), (68, .int .i64 k), (77, vq), (78, .int .i64 q.length), (79, .int .i64 j)] ∧ h6 = h' ∧ ms' = [Bf g18 43 (FJ p[k]), m] ∧ j ≤ q.length ∧ OwnL cI 1 3 m v D ∧ D = C ++ p[k].len :: (q.take j).map p[k].apart ∧ D.length ≤ 2 + k * 20000 + j)
     (q.length - 0) _ ⟨0, _, m1, _, rfl, rfl, rfl, rfl, by omega, hO1, rfl, by simp; omega⟩ Qs ?_
    clear hO hO1
    rintro n s h' ms' ⟨j, v, m, D, rfl, rfl, rfl, rfl, hj, hO, hD, hDl⟩
    refine Az (Qm rfl (An (Ac ?_)))
    refine Ax rfl (fun hltq => ?_) (fun hltq => ?_)
    ·have hjq : j < q.length := by omega
     have hbj := hqB _ (List.getElem_mem hjq)
     have htj := E8 p[k].apart q j hjq
     refine Ai (Ad (Ac (Ah (Az (Qx (Af _ hRq.rd.any rfl underlying33 BI rfl rfl rfl (by omega)) rfl (Qx (oG rfl underlying43 BI (hRq.any.seg hjq)) rfl (C4 [.int .i64 0, .int .i64 0, .int .i64 0, .bool false, .int .i64 0, .int .i64 0] rfl BI rfl rfl (fun g20 => ?_))))))))
     refine Dx 0 _ rfl BI rfl rfl rfl (ER _) rfl (by rfl) (by rfl) rfl rfl ?_
     refine GZ (Qm rfl (Qx (oG rfl underlying43 BI (Seg.blk 1 rfl)) rfl (Qx (oG rfl underlying43 BI (Seg.blk 0 rfl)) rfl (Qx (AG rfl call33 rfl (NM _ _ hbk hbj _ _)) rfl ?_))))
     refine Ao [_] rfl underlying25 Bm rfl (by rfl) rfl rfl (by omega) rfl rfl rfl (fun g87 => ?_)
     refine AJ 3 hO (RdL.one AT (List.Mem.head _) rfl) rfl underlying25 Bm rfl (by omega) rfl rfl rfl BW (by simp; omega) (by simp; omega) rfl rfl rfl (fun v1 m1 hO1 => ?_)
     refine Qm rfl (Ak (Aj (Ad (Ab (Qx (oA rfl) rfl (Qm rfl (Ak ?_)))))))
     refine AS (AS ?_)
     refine Am (q.length - (j + 1)) _ (by omega) ⟨j + 1, v1, m1, _, rfl, rfl, rfl, rfl, by omega, hO1, by rw [hD, htj]; simp, by simp; omega⟩ Qs
    ·rw [List.take_of_length_le (by omega)] at hD
     refine Aw (Aa (Aa (Ag (Aj (Ad (Ab (Qx (oA rfl) rfl (Qm rfl (Ak (AS ?_))))))))))
     refine Am (p.length - (k + 1)) _ (by omega) ⟨k + 1, v, m, D, rfl, rfl, rfl, rfl, by omega, hO, by rw [hD, hC, hts]; simp, by omega⟩ Qs
   ·have hkP : k = p.length := by omega
    rw [List.take_of_length_le (by omega)] at hC
    refine Aw (Aa (Aa (Ag (Ad (Ac (Az (Qm rfl (Qx (AC hRq.rd.any rfl underlying33 rfl) rfl (Qm rfl (An (Ah ?_)))))))))))
    refine AD (fun n s h' ms' => ∃ (j : Nat) (v : Value) (m : Hp) (D : List Int), n = q.length - j ∧ s = [(11, .pointer (some ⟨g11, 0, none⟩)), (14, vp), (15, vq), (16, v), (91, vq), (92, .int .i64 q.length), (93, .int .i64 j)] ∧ h6 = h' ∧ ms' = [m] ∧ j ≤ q.length ∧ OwnL cI 1 3 m v D ∧ D = C ++ (q.take j).map Br.len ∧ D.length ≤ 1 + k * 20000 + j)
     (q.length - 0) _ ⟨0, v, m, C, rfl, rfl, rfl, rfl, by omega, hO, by simp, by omega⟩ Qs ?_
    clear hO
    rintro n s h' ms' ⟨j, v, m, D, rfl, rfl, rfl, rfl, hj, hO, hD, hDl⟩
    refine Az (Qm rfl (An (Ac ?_)))
    refine Ax rfl (fun hltq => ?_) (fun hltq => ?_)
    ·have hjq : j < q.length := by omega
     have hbj := hqB _ (List.getElem_mem hjq)
     have htj := E8 Br.len q j hjq
     refine Ai (Ad (Ac (Ah (Az (Qx (Af _ hRq.rd.any rfl underlying33 BI rfl rfl rfl (by omega)) rfl (Qx (oG rfl underlying43 BI (hRq.any.seg hjq)) rfl (C4 [.int .i64 0, .int .i64 0, .int .i64 0, .bool false, .int .i64 0, .int .i64 0] rfl BI rfl rfl (fun g22 => ?_))))))))
     refine Dx 0 _ rfl BI rfl rfl rfl (ER _) rfl (by rfl) (by rfl) rfl rfl ?_
     refine GZ (Qm rfl (Qx (oG rfl underlying43 BI (Seg.blk 0 rfl)) rfl (Qx (AG rfl call32 rfl (Gs _ hbj _ _)) rfl ?_)))
     refine Ao [_] rfl underlying25 Bm rfl (by rfl) rfl rfl (by omega) rfl rfl rfl (fun g100 => ?_)
     refine AJ 2 hO (RdL.one AT (List.Mem.head _) rfl) rfl underlying25 Bm rfl (by omega) rfl rfl rfl BW (by simp; omega) (by simp; omega) rfl rfl rfl (fun v1 m1 hO1 => ?_)
     refine Qm rfl (Ak (Aj (Ad (Ab (Qx (oA rfl) rfl (Qm rfl (Ak ?_)))))))
     refine AS (AS ?_)
     refine Am (q.length - (j + 1)) _ (by omega) ⟨j + 1, v1, m1, _, rfl, rfl, rfl, rfl, by omega, hO1, by rw [hD, htj]; simp, by simp; omega⟩ Qs
    ·rw [List.take_of_length_le (by omega)] at hD
     have hDc : D = BN p q L := by rw [hD, hC]; rfl
     refine Aw (Aa (Aa (Ag (Ad (Az (Qm rfl (Bg (pre := [m]) rfl call29 rfl (LA D v m hO (by omega) _) rfl rfl rfl rfl (fun _ _ _ _ hL => ?_))))))))
     obtain ⟨rfl, m2, rfl, hO2⟩ := hL
     simp only [List.cons_append, List.nil_append, List.append_nil]
     have hsl : (DC D).length = D.length := (Cs D).length_eq
     refine An (Cb hO2 (fun h7 l7 hRs => ?_))
     have c11 := c11.le l7
     refine Az (Qm rfl (Qx (Bv rfl rfl rfl) rfl (Qc call35 rfl (LK (DC D) v 36 [Value.pointer (some ⟨g11, 0, none⟩)] (fun n => decide (L ≤ n)) h7 hRs (by omega) call36 (fun b _ ms => VB b g11 L h7 (fun _ => c11.any) ms)) (fun v17 _ _ _ hL => ?_))))
     obtain ⟨rfl, m3, rfl, hO3⟩ := hL
     have hfl : ((DC D).filter fun n => decide (L ≤ n)).length ≤ (DC D).length := List.length_filter_le _ _
     refine Bg (pre := [m3]) rfl call34 rfl (O3 _ v17 m3 hO3 (by omega) _) rfl rfl rfl rfl (fun v18 _ _ _ hL => ?_)
     obtain ⟨rfl, m4, rfl, hO4⟩ := hL
     simp only [List.cons_append, List.nil_append, List.append_nil]
     have hT : Lib.compact ((DC D).filter fun n => decide (L ≤ n)) = tried p q L := by rw [hDc]; rfl
     rw [hT] at hO4
     have hTm := Ra p q L
     have hTs := Mr p q L
     have hTu : (tried p q L).length ≤ D.length := by
      rw [← hT]; exact Nat.le_trans (D8 _).length_le (by omega)
     generalize tried p q L = T at hO4 hTm hTs hTu
     have hLc : L ∈ BN p q L := by unfold BN; simp
     have hTl : 0 < T.length := List.length_pos_of_mem ((hTm L).2 ⟨hLc, Int.le_refl _⟩)
     obtain ⟨cl1, cl2⟩ := It p q L
     have hmax : ∀ b : Int, b ∈ BN p q L → b ≤ T[T.length - 1] := fun b hb => by
      rcases Int.lt_or_le b L with h1 | h1
      ·have := ((hTm _).1 (List.getElem_mem (show T.length - 1 < T.length by omega))).2
       omega
      ·obtain ⟨j, hj, e⟩ := List.getElem_of_mem ((hTm b).2 ⟨hb, h1⟩)
       rw [← e]
       exact Hc hTs (by omega) (by omega)
     have hlast : Pos (Bt p q T[T.length - 1]) (p.length + q.length) := PW p q _ (fun b hb => hmax _ (cl1 b hb)) (fun b hb => hmax _ (cl2 b hb))
     have hdone : ∀ d, d ∈ T → Pos (Bt p q d) (p.length + q.length) → (∀ c ∈ T, Pos (Bt p q c) (p.length + q.length) → d ≤ c) → IsDist p q L d := fun d h1 h2 h3 =>
      ⟨((hTm d).1 h1).1, ((hTm d).1 h1).2, h2, fun c h4 h5 h6 => h3 c ((hTm c).2 ⟨h4, h5⟩) h6⟩
     clear hmax cl1 cl2 hT hTm hLc
     refine Qm rfl (An (Cb hO4 (fun h8 l8 hRT => ?_)))
     have hRp := hRp.up (Hp.le_trans l7 l8)
     have hRq := hRq.up (Hp.le_trans l7 l8)
     refine Az (Qm rfl (Qx (AC hRT.rd rfl underlying25 rfl) rfl (Qx (oS rfl) rfl (Qm rfl (Qm rfl (An (Ac (Ah ?_))))))))
     refine AD (fun n s h' ms' => ∃ (lo hi : Nat) (x y : Int) (hhi : hi < T.length), n = hi - lo ∧ s = [(14, vp), (15, vq), (16, v18), (23, .int .i64 x), (24, .int .i64 y)] ∧ h8 = h' ∧ ms' = [] ∧ x = lo ∧ y = hi ∧ lo ≤ hi ∧ (∀ j (hj : j < lo) (hj' : j < T.length), ¬ Pos (Bt p q T[j]) (p.length + q.length)) ∧ Pos (Bt p q T[hi]) (p.length + q.length))
      (T.length - 1 - 0) _ ⟨0, T.length - 1, 0, (T.length : Int) - 1, by omega, rfl, rfl, rfl, rfl, rfl, by omega, by omega, fun j hj => by omega, hlast⟩ Qs ?_
     rintro n s h' ms' ⟨lo, hi, x, y, hhi, rfl, rfl, rfl, rfl, hx, hy, hlo, hno, hyes⟩
     refine Ac (Az (Qm rfl (Qm rfl (Qm rfl (An ?_)))))
     refine Ax rfl (fun hlh => ?_) (fun hlh => ?_)
     ·obtain ⟨m, hm⟩ : ∃ m, m = (lo + hi) / 2 := ⟨_, rfl⟩
      have hmT : m < T.length := by omega
      refine Ai (Ad (Ah (Az (Qm rfl (Qm rfl (Qx (oA rfl) rfl (Qx (H0 rfl rfl rfl (by omega) (by omega)) rfl (Qm rfl (BG (Qm rfl (Qm rfl (Qm rfl (Qm rfl (Qx (Af (m) hRT.rd rfl underlying25 Bm rfl rfl (by omega) (by omega)) rfl (Ql rfl underlying3 (hRT.cell0 hmT rfl) (Qx (AG rfl call37 rfl (Pe p q vp vq _ h8 hRp hRq (by omega) (by omega) hpA hqB _)) rfl (An ?_)))))))))))))))))
      refine Bu rfl (fun hpo => ?_) (fun hpo => ?_)
      ·have hpo' : Pos (Bt p q T[m]) (p.length + q.length) := by simpa [VH] using hpo
       refine Ab (Qm rfl (Qm rfl (Ak (Aj ?_))))
       refine Am (m - lo) _ (by omega) ⟨lo, m, x, (x + y) / 2, hmT, rfl, rfl, rfl, rfl, hx, by omega, by omega, hno, hpo'⟩ Qs
      ·have hpo' : ¬ Pos (Bt p q T[m]) (p.length + q.length) := by simpa [VH] using hpo
       refine Ab (Qm rfl (Qx (oA rfl) rfl (Qm rfl (Ak (Aj ?_)))))
       refine Am (hi - (m + 1)) _ (by omega) ⟨m + 1, hi, (x + y) / 2 + 1, y, hhi, rfl, rfl, rfl, rfl, by omega, hy, by omega, fun j hj hj' hp => hpo' (hp.mono (Pf (Hc hTs (by omega) hmT))), hyes⟩ Qs
     ·obtain rfl : lo = hi := by omega
      have hID := hdone _ (List.getElem_mem hhi) hyes fun c hc hp => by
       obtain ⟨j, hj, rfl⟩ := List.getElem_of_mem hc
       rcases Nat.lt_or_ge j lo with h1 | h1
       ·exact absurd hp (hno j h1 hj)
       ·exact Hc hTs h1 hj
      refine Aw (Aa (Aa (Ag (Ad (Az (Qm rfl (Qm rfl (Qx (Af (lo) hRT.rd rfl underlying25 Bm rfl rfl (by omega) (by omega)) rfl (Ql rfl underlying3 (hRT.cell0 hhi rfl) (Qm rfl (Qm rfl (An (Aq ?_)))))))))))))
      exact BH rfl rfl rfl (⟨T[lo], true, rfl, fun h => absurd hlen h, fun _ => ⟨rfl, hID⟩⟩)
end Go.Proofs.YtodheebhahdepaaGreat

namespace Go.Proofs.YtodheebhahdepaaGreat
open Go.Eng Go.RowKit Go.Kuhn
def DB (la lb : List Br) (cost : Int) (i k : Nat) : Bool := if h : i < la.length ∧ k < lb.length then decide ((la[i]'h.1).apart (lb[k]'h.2) ≤ cost) else false
def Cw (la : List Br) (cost : Int) (i : Nat) : Bool := if h : i < la.length then decide (cost < la[i].len) else false
def Om (la lb : List Br) (cost : Int) : Prop := ∃ part : List Int, part.length = lb.length ∧ G7 (DB la lb cost) la.length part ∧ ∀ x : Nat, part.count (x : Int) = if x < la.length ∧ Cw la cost x = true then 1 else 0
def VU (la lb : List Br) (cost : Int) : Prop := ∃ (i : Nat) (part : List Int) (seen : List Bool), i < la.length ∧ Cw la cost i = true ∧ part.length = lb.length ∧ G7 (DB la lb cost) la.length part ∧ (∀ x : Nat, part.count (x : Int) = if x < i ∧ Cw la cost x = true then 1 else 0) ∧ LI (DB la lb cost) i lb.length lb.length (List.replicate lb.length false) part seen
def put (x : Int) : List Int → List Int
 | [] => [x]
 | y :: l => if y ≤ x then y :: put x l else x :: y :: l
end Go.Proofs.YtodheebhahdepaaGreat
namespace Go.Proofs.YtodheebhahdepaaGreat
open Go.Kuhn
variable {la lb : List Br} {c : Int} {i k : Nat} {F : Nat → Nat → Bool} {part : List Int}
theorem HJ {nl : Nat} (hK : G7 F nl part) {x : Nat} (h : 0 < part.count (x : Int)) : ∃ k, part[k]? = some (x : Int) ∧ k < part.length ∧ F x k = true := by
 obtain ⟨k, hk, e⟩ := List.getElem_of_mem (List.count_pos_iff.1 h)
 refine ⟨k, by rw [List.getElem?_eq_getElem hk, e], hk, ?_⟩
 rcases hK k hk with h1 | ⟨p, h1, _, h2⟩
 ·rw [e] at h1; omega
 ·rw [e] at h1
  have : p = x := by omega
  rwa [this] at h2
theorem Nh {G : Nat → Nat → Bool} {n : Nat} {seen : List Bool} (T : Nat → Prop) (hone : ∀ x : Nat, part.count (x : Int) ≤ 1) (hi : part.count (i : Int) = 0) (hT : ∀ x : Nat, x = i ∨ (x : Int) ∈ part → T x) (L : LI F i n n (List.replicate n false) part seen)
  (R : Nat → Nat → Prop) (hex : ∀ x, T x → ∃ k, k < n ∧ F x k = true ∧ R x k) (hinj : ∀ x y k, R x k → R y k → x = y) : False := by
 classical
 let pos : Nat → Nat := fun x => if h : T x then (hex x h).choose else 0
 have hp : ∀ x, T x → pos x < n ∧ F x (pos x) = true ∧ R x (pos x) := fun x hx => by
  have : pos x = (hex x hx).choose := by simp only [pos, hx, dif_pos]
  rw [this]; exact (hex x hx).choose_spec
 exact BQ (pos := pos) (by simp [List.getElem?_replicate]) (by simp) hone hi L (fun x hx => ⟨(hp x (hT x hx)).1, (hp x (hT x hx)).2.1⟩)
  (fun x y hx hy e => hinj x y (pos x) (hp x (hT x hx)).2.2 (by rw [e]; exact (hp y (hT y hy)).2.2))
theorem F5 (h : Cw la c i = true) : ∃ hi : i < la.length, c < la[i].len := by
 unfold Cw at h
 split at h
 ·rename_i hi; exact ⟨hi, of_decide_eq_true h⟩
 ·cases h
theorem Ia (h : DB la lb c i k = true) : ∃ (hi : i < la.length) (hk : k < lb.length), la[i].apart lb[k] ≤ c := by
 unfold DB at h
 split at h
 ·rename_i hi; exact ⟨hi.1, hi.2, of_decide_eq_true h⟩
 ·cases h
theorem Pm (x y : Br) : x.apart y = y.apart x := by unfold Br.apart DE; omega
theorem JE (h : DB la lb c i k = true) : DB lb la c k i = true := by
 obtain ⟨hi, hk, h⟩ := Ia h
 unfold DB; rw [dif_pos ⟨hk, hi⟩, Pm]; exact decide_eq_true h
theorem FG (la lb : List Br) (c : Int) : Om la lb c ∨ VU la lb c := by
 have go : ∀ i, i ≤ la.length → (∃ part : List Int, part.length = lb.length ∧ G7 (DB la lb c) la.length part ∧ ∀ x : Nat, part.count (x : Int) = if x < i ∧ Cw la c x = true then 1 else 0) ∨ VU la lb c := by
  intro i
  induction i with
  | zero => exact fun _ => .inl ⟨List.replicate lb.length (-1), by simp, fun k hk => .inl (by simp), fun x => by rw [List.count_replicate, if_neg (by simp), if_neg (by omega)]⟩
  | succ i ih =>
   intro hi
   rcases ih (by omega) with ⟨part, h1, h2, h3⟩ | h
   ·cases hl : Cw la c i with
    | false =>
     refine .inl ⟨part, h1, h2, fun x => ?_⟩
     rw [h3 x]
     by_cases g2 : x = i
     ·subst g2; simp [hl]
     ·by_cases g1 : x < i
      ·simp [g1, show x < i + 1 by omega]
      ·simp [g1, show ¬ x < i + 1 by omega]
    | true =>
     rcases PK (DB la lb c) la.length lb.length _ i (List.replicate lb.length false) part (Nat.le_refl _) (by omega) (by simp) h1 h2 with ⟨s', p', hT⟩ | ⟨s', hL⟩
     ·refine .inl ⟨p', by rw [hT.plen, h1], hT.pre, fun x => ?_⟩
      rw [hT.cnt x, h3 x]
      by_cases g2 : x = i
      ·subst g2; simp [hl]
      ·by_cases g1 : x < i
       ·simp [g1, g2, show x < i + 1 by omega]
       ·simp [g1, g2, show ¬ x < i + 1 by omega]
     ·exact .inr ⟨i, part, s', by omega, hl, h1, h2, h3, hL⟩
   ·exact .inr h
 rcases go la.length (Nat.le_refl _) with ⟨part, h1, h2, h3⟩ | h
 ·exact .inl ⟨part, h1, h2, h3⟩
 ·exact .inr h
theorem JY (h : Bt la lb c i k = true) : (i < la.length → k < lb.length → DB la lb c i k = true) ∧ (∀ hi : i < la.length, ¬ k < lb.length → la[i].len ≤ c) ∧ (¬ i < la.length → ∀ hk : k < lb.length, lb[k].len ≤ c) := by
 unfold Bt at h
 refine ⟨fun h1 h2 => ?_, fun h1 h2 => ?_, fun h1 h2 => ?_⟩
 ·rw [dif_pos ⟨h1, h2⟩] at h; unfold DB; rw [dif_pos ⟨h1, h2⟩]; exact h
 ·rw [dif_neg (by omega), dif_pos h1] at h; exact of_decide_eq_true h
 ·rw [dif_neg (by omega), dif_neg h1, dif_pos h2] at h; exact of_decide_eq_true h
theorem Tq (h : Pos (Bt la lb c) (la.length + lb.length)) : ¬ VU la lb c := by
 rintro ⟨i, part, seen, hi, hl, hpl, hK, hc, L⟩
 obtain ⟨p2, hl2, hK2, hc2⟩ := h
 refine Nh (G := DB la lb c) (fun x => x < la.length ∧ Cw la c x = true) (fun x => by rw [hc x]; split <;> omega) (by rw [hc i, if_neg (by omega)]) (fun x hx => ?_) L (fun x k => p2[k]? = some (x : Int)) (fun x hx => ?_) (fun x y k h1 h2 => by rw [h1] at h2; have := Option.some.inj h2; omega)
 ·rcases hx with rfl | hx
  ·exact ⟨hi, hl⟩
  ·have := List.count_pos_iff.2 hx
   rw [hc x] at this
   split at this
   ·rename_i h1; exact ⟨by omega, h1.2⟩
   ·omega
 ·obtain ⟨k, h1, h2, h3⟩ := HJ hK2 (x := x) (by rw [hc2 x (by omega)]; decide)
  obtain ⟨f1, f2, _⟩ := JY h3
  obtain ⟨g1, g2⟩ := F5 hx.2
  rcases Nat.lt_or_ge k lb.length with hk | hk
  ·exact ⟨k, hk, f1 hx.1 hk, h1⟩
  ·have := f2 g1 (by omega); omega
theorem Yn {n : Nat} (hl : part.length = n) (hK : G7 F n part) (hc : ∀ x : Nat, x < n → part.count (x : Int) = 1) (k : Nat) (hk : k < n) : ∃ p : Nat, p < n ∧ part[k]? = some (p : Int) ∧ F p k = true := by
 rcases hK k (by omega) with h | ⟨p, h1, h2, h3⟩
 ·exfalso
  have hex : ∀ x, x < n → ∃ j, part[j]? = some (x : Int) := fun x hx => by
   obtain ⟨j, h1, _, _⟩ := HJ hK (x := x) (by rw [hc x hx]; decide)
   exact ⟨j, h1⟩
  classical
  let pos : Nat → Nat := fun x => if h : x < n then (hex x h).choose else 0
  have hp : ∀ x, x < n → part[pos x]? = some (x : Int) := fun x hx => by
   have : pos x = (hex x hx).choose := by simp only [pos, hx, dif_pos]
   rw [this]; exact (hex x hx).choose_spec
  have h1 : ((List.range n).map pos).Nodup := List.pairwise_map.2 (List.nodup_range.imp_of_mem fun {a b} ha hb hne e => hne (by
   have e1 := hp a (by simpa using ha)
   have e2 := hp b (by simpa using hb)
   rw [e, e2] at e1
   have := Option.some.inj e1
   omega))
  have h2 : ∀ y ∈ (List.range n).map pos, y ∈ (List.range n).erase k := fun y hy => by
   obtain ⟨x, hx, rfl⟩ := List.mem_map.1 hy
   have e1 := hp x (by simpa using hx)
   have hlt := (List.getElem?_eq_some_iff.1 e1).1
   have hne : pos x ≠ k := fun e => by
    rw [e, List.getElem?_eq_getElem (by omega), h] at e1
    have := Option.some.inj e1
    omega
   exact (List.mem_erase_of_ne hne).2 (by simp; omega)
  have := nodup_le _ _ h1 h2
  rw [List.length_map, List.length_erase_of_mem (by simpa using hk), List.length_range] at this
  omega
 ·exact ⟨p, h2, by rw [List.getElem?_eq_getElem (by omega), h1], h3⟩
theorem Q5 (h : Pos (Bt la lb c) (la.length + lb.length)) : ¬ VU lb la c := by
 rintro ⟨i, part, seen, hi, hl, hpl, hK, hc, L⟩
 obtain ⟨p2, hl2, hK2, hc2⟩ := h
 refine Nh (G := DB lb la c) (fun x => x < lb.length ∧ Cw lb c x = true) (fun x => by rw [hc x]; split <;> omega) (by rw [hc i, if_neg (by omega)]) (fun x hx => ?_) L (fun x k => p2[x]? = some (k : Int)) (fun x hx => ?_) (fun x y k h1 h2 => Gr (by
   rcases Nat.lt_or_ge k (la.length + lb.length) with h3 | h3
   ·rw [hc2 k h3]; decide
   ·exfalso
    have hxl := (List.getElem?_eq_some_iff.1 h1).1
    rcases hK2 x hxl with h4 | ⟨p, h4, h5, _⟩
    ·rw [List.getElem?_eq_getElem hxl, h4] at h1; have := Option.some.inj h1; omega
    ·rw [List.getElem?_eq_getElem hxl, h4] at h1; have := Option.some.inj h1; omega) h1 h2)
 ·rcases hx with rfl | hx
  ·exact ⟨hi, hl⟩
  ·have := List.count_pos_iff.2 hx
   rw [hc x] at this
   split at this
   ·rename_i h1; exact ⟨by omega, h1.2⟩
   ·omega
 ·obtain ⟨p, h1, h2, h3⟩ := Yn hl2 hK2 hc2 x (by omega)
  obtain ⟨f1, _, f3⟩ := JY h3
  obtain ⟨g1, g2⟩ := F5 hx.2
  rcases Nat.lt_or_ge p la.length with hp | hp
  ·exact ⟨p, hp, JE (f1 hp hx.1), h2⟩
  ·have := f3 (by omega) g1; omega
end Go.Proofs.YtodheebhahdepaaGreat

namespace Go.Proofs.YtodheebhahdepaaGreat
open Go.Kuhn
theorem SB {F : Nat → Nat → Bool} {n : Nat} (h : Xe F n) : ∃ Ls S : List Nat, Ls.Nodup ∧ S.Nodup ∧ Ls.length = S.length + 1 ∧ (∀ k ∈ S, k < n) ∧ ∀ x ∈ Ls, x < n ∧ ∀ k, k < n → F x k = true → k ∈ S := by
 obtain ⟨i, part, seen, hi, hl, hK, hc, L⟩ := h
 let S := (List.range n).filter fun k => seen[k]? == some true
 have hS : ∀ k, k ∈ S ↔ seen[k]? = some true := fun k => by
  simp only [S, List.mem_filter, List.mem_range, beq_iff_eq]
  constructor
  ·exact fun h => h.2
  ·intro h
   refine ⟨?_, h⟩
   obtain ⟨h', _⟩ := List.getElem?_eq_some_iff.1 h
   have e1 := L.slen
   simp at e1; omega
 have hSn : S.Nodup := List.Pairwise.filter _ List.nodup_range
 let f : Nat → Nat := fun k => (part[k]?.getD 0).toNat
 have hf : ∀ k ∈ S, part[k]? = some ((f k : Nat) : Int) ∧ ∀ j', j' < n → F (f k) j' = true → seen[j']? = some true := fun k hk => by
  obtain ⟨p, e1, e2⟩ := L.closed k ((hS k).1 hk) (by simp [List.getElem?_replicate])
  have : f k = p := by simp [f, e1]
  rw [this]; exact ⟨e1, e2⟩
 have hlt : ∀ k ∈ S, f k < i := fun k hk => by
  have h1 := List.count_pos_iff.2 (List.mem_of_getElem? (hf k hk).1)
  rw [hc (f k)] at h1
  split at h1
  ·assumption
  ·omega
 refine ⟨i :: S.map f, S, ?_, hSn, by simp, fun k hk => by simpa using (List.mem_filter.1 hk).1, fun x hx => ?_⟩
 ·refine List.nodup_cons.2 ⟨fun h => ?_, ?_⟩
  ·obtain ⟨k, hk, e⟩ := List.mem_map.1 h
   have := hlt k hk; omega
  ·refine List.pairwise_map.2 (hSn.imp_of_mem fun {a b} ha hb hne e => hne ?_)
   have h1 := (hf a ha).1
   have h2 := (hf b hb).1
   rw [e] at h1
   exact Gr (by rw [hc (f b)]; split <;> omega) h1 h2
 ·rcases List.mem_cons.1 hx with rfl | hx
  ·exact ⟨hi, fun k hk hF => (hS k).2 (L.tried k hk hk hF)⟩
  ·obtain ⟨k, hk, rfl⟩ := List.mem_map.1 hx
   exact ⟨by have := hlt k hk; omega, fun j hj hF => (hS j).2 ((hf k hk).2 j hj hF)⟩
theorem JL {la lb : List Br} {c : Int} (h : Om la lb c) : ∃ pos : Nat → Nat, (∀ x, x < la.length → Cw la c x = true → pos x < lb.length ∧ DB la lb c x (pos x) = true) ∧ ∀ x y, x < la.length → Cw la c x = true → y < la.length → Cw la c y = true → pos x = pos y → x = y := by
 obtain ⟨p2, hl2, hK2, hc2⟩ := h
 have hex : ∀ x, (x < la.length ∧ Cw la c x = true) → ∃ k, p2[k]? = some (x : Int) ∧ k < lb.length ∧ DB la lb c x k = true := fun x hx => by
  obtain ⟨k, h1, h2, h3⟩ := HJ hK2 (x := x) (by rw [hc2 x, if_pos hx]; decide)
  exact ⟨k, h1, by omega, h3⟩
 classical
 let pos : Nat → Nat := fun x => if h : x < la.length ∧ Cw la c x = true then (hex x h).choose else 0
 have hp : ∀ x, (x < la.length ∧ Cw la c x = true) → p2[pos x]? = some (x : Int) ∧ pos x < lb.length ∧ DB la lb c x (pos x) = true := fun x hx => by
  have : pos x = (hex x hx).choose := by simp only [pos, hx, and_self, dif_pos]
  rw [this]; exact (hex x hx).choose_spec
 refine ⟨pos, fun x h1 h2 => (hp x ⟨h1, h2⟩).2, fun x y h1 h2 h3 h4 e => ?_⟩
 have e1 := (hp x ⟨h1, h2⟩).1
 have e2 := (hp y ⟨h3, h4⟩).1
 rw [e, e2] at e1
 have := Option.some.inj e1
 omega
theorem Jb (n a : Nat) : ((List.range n).map (· + a)).Nodup := List.pairwise_map.2 (List.nodup_range.imp fun h e => h (by omega))
theorem SG {p q : List Br} {c : Int} (h1 : Om p q c) (h2 : Om q p c) : Pos (Bt p q c) (p.length + q.length) := by
 rcases Kn (Bt p q c) (p.length + q.length) with h | h
 ·exact h
 exfalso
 obtain ⟨Ls, S, hLn, hSn, hlen, hSl, hL⟩ := SB h
 by_cases hd : ∃ x ∈ Ls, p.length ≤ x
 ·-- a place without a bar: all places without bars and all short bars lie in S
  obtain ⟨d, hdL, hdp⟩ := hd
  have hdS := (hL d hdL).2
  have hSd : ∀ k, q.length ≤ k → k < p.length + q.length → k ∈ S := fun k hk hk' => hdS k hk' (by
   unfold Bt; rw [dif_neg (by omega), dif_neg (by omega), dif_neg (by omega)])
  have hSs : ∀ k (hk : k < q.length), Cw q c k = false → k ∈ S := fun k hk hl => hdS k (by omega) (by
   unfold Bt; rw [dif_neg (by omega), dif_neg (by omega), dif_pos hk]
   unfold Cw at hl; rw [dif_pos hk] at hl
   have := of_decide_eq_false hl
   exact decide_eq_true (by omega))
  obtain ⟨pos, hp, hinj⟩ := JL h2
  let U := (List.range q.length).filter fun k => decide (k ∉ S)
  have hU : ∀ k ∈ U, k < q.length ∧ Cw q c k = true ∧ k ∉ S := fun k hk => by
   obtain ⟨g1, g2⟩ := List.mem_filter.1 hk
   have g1 : k < q.length := by simpa using g1
   have g2 : k ∉ S := of_decide_eq_true g2
   refine ⟨g1, ?_, g2⟩
   cases e : Cw q c k with
   | true => rfl
   | false => exact absurd (hSs k g1 e) g2
  have hUn : U.Nodup := List.Pairwise.filter _ List.nodup_range
  have c1 := nodup_le (List.range (p.length + q.length)) (S ++ U) List.nodup_range fun k hk => by
   have hk : k < p.length + q.length := by simpa using hk
   by_cases hS : k ∈ S
   ·exact List.mem_append_left _ hS
   ·refine List.mem_append_right _ (List.mem_filter.2 ⟨?_, decide_eq_true hS⟩)
    rcases Nat.lt_or_ge k q.length with g | g
    ·simpa using g
    ·exact absurd (hSd k g hk) hS
  have c2 := nodup_le (Ls ++ U.map pos) (List.range (p.length + q.length)) (by
   refine List.nodup_append.2 ⟨hLn, List.pairwise_map.2 (hUn.imp_of_mem fun {a b} ha hb hne e => hne (hinj a b (hU a ha).1 (hU a ha).2.1 (hU b hb).1 (hU b hb).2.1 e)), fun a ha b hb e => ?_⟩
   obtain ⟨k, hk, rfl⟩ := List.mem_map.1 hb
   obtain ⟨g1, g2, g3⟩ := hU k hk
   obtain ⟨g4, g5⟩ := hp k g1 g2
   subst e
   refine g3 ((hL _ ha).2 k (by omega) ?_)
   have := JE g5
   obtain ⟨i1, i2, i3⟩ := Ia this
   unfold Bt; rw [dif_pos ⟨i1, i2⟩]; exact decide_eq_true i3) fun x hx => by
   rcases List.mem_append.1 hx with hx | hx
   ·simpa using (hL x hx).1
   ·obtain ⟨k, hk, rfl⟩ := List.mem_map.1 hx
    have := (hp k (hU k hk).1 (hU k hk).2.1).1
    simp; omega
  simp at c1 c2
  omega
 ·have hreal : ∀ x ∈ Ls, x < p.length := fun x hx => by
   rcases Nat.lt_or_ge x p.length with g | g
   ·exact g
   ·exact absurd ⟨x, hx, g⟩ hd
  by_cases hs : ∃ x ∈ Ls, Cw p c x = false
  ·-- a short bar: all places without bars lie in S
   obtain ⟨x, hx, hl⟩ := hs
   have hxp := hreal x hx
   have hlx : p[x].len ≤ c := by
    unfold Cw at hl; rw [dif_pos hxp] at hl
    have := of_decide_eq_false hl
    omega
   have c1 := nodup_le Ls (List.range p.length) hLn fun y hy => by simpa using hreal y hy
   have c2 := nodup_le ((List.range p.length).map (· + q.length)) S (Jb _ _) fun k hk => by
    obtain ⟨j, hj, rfl⟩ := List.mem_map.1 hk
    have hj : j < p.length := by simpa using hj
    refine (hL x hx).2 _ (by omega) ?_
    unfold Bt; rw [dif_neg (by omega), dif_pos hxp]; exact decide_eq_true hlx
   simp at c1 c2
   omega
  ·have hlong : ∀ x ∈ Ls, Cw p c x = true := fun x hx => by
    cases e : Cw p c x with
    | true => rfl
    | false => exact absurd ⟨x, hx, e⟩ hs
   obtain ⟨pos, hp, hinj⟩ := JL h1
   have c1 := nodup_le (Ls.map pos) S (List.pairwise_map.2 (hLn.imp_of_mem fun {a b} ha hb hne e => hne (hinj a b (hreal a ha) (hlong a ha) (hreal b hb) (hlong b hb) e))) fun k hk => by
    obtain ⟨x, hx, rfl⟩ := List.mem_map.1 hk
    obtain ⟨g4, g5⟩ := hp x (hreal x hx) (hlong x hx)
    refine (hL x hx).2 _ (by omega) ?_
    obtain ⟨i1, i2, i3⟩ := Ia g5
    unfold Bt; rw [dif_pos ⟨i1, i2⟩]; exact decide_eq_true i3
   simp at c1
   omega
theorem U1 (p q : List Br) (c : Int) : Pos (Bt p q c) (p.length + q.length) ↔ Om p q c ∧ Om q p c :=
 ⟨fun h => ⟨(FG p q c).resolve_right (Tq h), (FG q p c).resolve_right (Q5 h)⟩, fun h => SG h.1 h.2⟩
open Go.Eng Go.RowKit
theorem Jx : ∀ {l l' : List Int}, l.Pairwise (· ≤ ·) → l'.Pairwise (· ≤ ·) → l.Perm l' → l = l' := fun h h' p =>
 p.eq_of_pairwise (fun a b _ _ h1 h2 => by omega) h h'
theorem Mj : ∀ l : List Int, l ≠ [] → ∃ M ∈ l, ∀ c ∈ l, c ≤ M
 | [], h => absurd rfl h
 | [a], _ => ⟨a, by simp, by simp⟩
 | a :: b :: l, _ => by
  obtain ⟨M, h1, h2⟩ := Mj (b :: l) (by simp)
  rcases Int.le_total a M with h | h
  ·exact ⟨M, by simp [h1], fun c hc => by
    rcases List.mem_cons.1 hc with rfl | hc
    ·exact h
    ·exact h2 c hc⟩
  ·exact ⟨a, by simp, fun c hc => by
    rcases List.mem_cons.1 hc with rfl | hc
    ·exact Int.le_refl _
    ·have := h2 c hc; omega⟩
open Go.Proofs.Tryz
theorem IsDist.unique {p q : List Br} {L d e : Int} (h : IsDist p q L d) (h' : IsDist p q L e) : d = e := by
 obtain ⟨a1, a2, a3, a4⟩ := h
 obtain ⟨b1, b2, b3, b4⟩ := h'
 have := a4 e b1 b2 b3
 have := b4 d a1 a2 a3
 omega
theorem P6 : ∀ l : List Int, l ≠ [] → ∃ M ∈ l, ∀ c ∈ l, M ≤ c
 | [], h => absurd rfl h
 | [a], _ => ⟨a, by simp, by simp⟩
 | a :: b :: l, _ => by
  obtain ⟨M, h1, h2⟩ := P6 (b :: l) (by simp)
  rcases Int.le_total M a with h | h
  ·exact ⟨M, by simp [h1], fun c hc => by
    rcases List.mem_cons.1 hc with rfl | hc
    ·exact h
    ·exact h2 c hc⟩
  ·exact ⟨a, by simp, fun c hc => by
    rcases List.mem_cons.1 hc with rfl | hc
    ·exact Int.le_refl _
    ·have := h2 c hc; omega⟩
theorem GV (p q : List Br) (L : Int) : ∃ d, IsDist p q L d := by
 classical
 obtain ⟨cl1, cl2⟩ := It p q L
 have hLC : L ∈ BN p q L := by unfold BN; simp
 obtain ⟨M, hMC, hM⟩ : ∃ M ∈ BN p q L, ∀ c ∈ BN p q L, c ≤ M := Mj _ (List.ne_nil_of_mem hLC)
 have hlast : Pos (Bt p q M) (p.length + q.length) := PW p q _ (fun b hb => hM _ (cl1 b hb)) (fun b hb => hM _ (cl2 b hb))
 obtain ⟨d, h1, h2⟩ := P6 ((BN p q L).filter fun c => decide (L ≤ c ∧ Pos (Bt p q c) (p.length + q.length))) (List.ne_nil_of_mem (List.mem_filter.2 ⟨hMC, by simpa using ⟨hM _ hLC, hlast⟩⟩))
 obtain ⟨h3, h4⟩ := List.mem_filter.1 h1
 have h4 := of_decide_eq_true h4
 exact ⟨d, h3, h4.1, h4.2, fun c hc h5 h6 => h2 c (List.mem_filter.2 ⟨hc, by simpa using ⟨h5, h6⟩⟩)⟩
noncomputable def dd (p q : List Br) (L : Int) : Int := (GV p q L).choose
theorem Tr (p q : List Br) (L : Int) : IsDist p q L (dd p q L) := (GV p q L).choose_spec
noncomputable def Df (dim : Int) (a b : List Br) : Int × Bool :=
 if (AW dim a).length = (AW dim b).length then (dd (a.filter (Br.finIn dim)) (b.filter (Br.finIn dim)) (CK ((AW dim a).zip (AW dim b))), true) else (0, false)
theorem J8 {dim : Int} {la lb : List Br} {d : Int} {e : Bool} (h1 : (AW dim la).length ≠ (AW dim lb).length → d = 0 ∧ e = false) (h2 : (AW dim la).length = (AW dim lb).length → e = true ∧ IsDist (la.filter (Br.finIn dim)) (lb.filter (Br.finIn dim)) (CK ((AW dim la).zip (AW dim lb))) d) : Df dim la lb = (d, e) := by
 unfold Df
 split
 ·rename_i h
  obtain ⟨rfl, h3⟩ := h2 h
  rw [h3.unique (Tr _ _ _)]
 ·rename_i h
  obtain ⟨rfl, rfl⟩ := h1 h
  rfl
theorem NI {la lb : List Br} (dim : Int) (hA : ∀ b ∈ la, Hk b) (hB : ∀ b ∈ lb, Hk b) : 0 ≤ (Df dim la lb).1 ∧ (Df dim la lb).1 ≤ 8000000000000 := by
 unfold Df
 split
 ·have hX := ET dim la hA
  have hY := ET dim lb hB
  have hL := G4 ((AW dim la).zip (AW dim lb)) fun p hp => by
   have h1 := hX _ (List.of_mem_zip hp).1
   have h2 := hY _ (List.of_mem_zip hp).2
   unfold DE; omega
  obtain ⟨h1, h2, _, _⟩ := Tr (la.filter (Br.finIn dim)) (lb.filter (Br.finIn dim)) (CK ((AW dim la).zip (AW dim lb)))
  refine ⟨by show 0 ≤ dd _ _ _; omega, ?_⟩
  show dd _ _ _ ≤ _
  generalize dd (la.filter (Br.finIn dim)) (lb.filter (Br.finIn dim)) (CK ((AW dim la).zip (AW dim lb))) = d at *
  have hp : ∀ b ∈ la.filter (Br.finIn dim), Hk b := fun b hb => hA b (List.mem_filter.1 hb).1
  have hq : ∀ b ∈ lb.filter (Br.finIn dim), Hk b := fun b hb => hB b (List.mem_filter.1 hb).1
  unfold BN at h1
  rcases List.mem_append.1 h1 with h1 | h1
  ·rcases List.mem_cons.1 h1 with rfl | h1
   ·omega
   ·obtain ⟨x, hx, h1⟩ := List.mem_flatMap.1 h1
    have b1 := hp x hx
    rcases List.mem_cons.1 h1 with rfl | h1
    ·have := SH b1; omega
    ·obtain ⟨y, hy, rfl⟩ := List.mem_map.1 h1
     obtain ⟨a1, a2, a3, a4⟩ := b1
     obtain ⟨c1, c2, c3, c4⟩ := hq y hy
     unfold Br.apart DE; omega
  ·obtain ⟨y, hy, rfl⟩ := List.mem_map.1 h1
   have := SH (hq y hy); omega
 ·simp
section
variable (la lb : List Br) (va vb : Value) (dim : Int) (h : Hp) (hRa : RdL FJ 6 h [] va la) (hRb : RdL FJ 6 h [] vb lb) (hla : la.length ≤ 10000) (hlb : lb.length ≤ 10000) (hA : ∀ b ∈ la, Hk b) (hB : ∀ b ∈ lb, Hk b) (ms : List Hp)
include hRa hRb hla hlb hA hB
theorem G0 : FnV Tryz.prog 9 #[va, vb, .int .i64 dim] h ms (.tuple #[.int .i64 (Df dim la lb).1, .bool (Df dim la lb).2]) := by
 refine fun w hw => (?_ : FnV _ _ _ h [] _) w (hw.weaken (Hp.le_refl _) (List.nil_sublist _))
 refine FnT.toV (FnT.mono (MQ la lb va vb dim h hRa hRb hla hlb hA hB) ?_)
 rintro r h' ms' ⟨d, e, rfl, h1, h2⟩
 rw [J8 h1 h2]
theorem HK (want : Int) (hd : Df 1 la lb = (want, true)) : FnV Tryz.prog 10 #[va, vb, .int .i64 want] h ms (.bool true) := by
 refine fun w hw => (?_ : FnV _ _ _ h [] _) w (hw.weaken (Hp.le_refl _) (List.nil_sublist _))
 refine FnT.toV (Av func10 ntmps10 rfl rfl (fun w0 hw0 => ?_))
 simp only [A5]
 refine Az (Qm rfl (BG (Qm rfl (Qm rfl (Qx (AG rfl call9 rfl (G0 la lb va vb 1 h hRa hRb hla hlb hA hB _)) rfl ?_)))))
 rw [hd]
 refine Qm rfl (Qm rfl (Qm rfl (Qm rfl (Qm rfl (BG (Qm rfl (Qm rfl ?_)))))))
 refine C6 (t := 16) rfl (fun h1 => ?_) (fun h1 => ?_)
 ·refine Qg (Au rfl rfl) rfl (Qg (Au rfl rfl) rfl (Qg (DD rfl rfl rfl) rfl (Qm rfl (Qm rfl (An (Aq ?_))))))
  exact As rfl rfl (by simp)
 ·cases h1
end
def Br.at (dim t : Int) (b : Br) : Bool := decide (b.dim = dim) && decide (b.birth ≤ t) && (b.opn || decide (t < b.death))
theorem XB (b : Br) (g1 g2 : Nat) (dim t : Int) (h : Hp) (hD : ∀ ms, Cell h ms ⟨g1, 0, none⟩ (.int .i64 dim)) (hT : ∀ ms, Cell h ms ⟨g2, 0, none⟩ (.int .i64 t)) (ms : List Hp) : FnV Tryz.prog 38 ([] ++ [Value.agg (FJ b).toArray] ++ [Value.pointer (some ⟨g1, 0, none⟩), Value.pointer (some ⟨g2, 0, none⟩)]).toArray h ms (.bool (b.at dim t)) := by
 refine fun w hw => (?_ : FnV _ _ _ h [] _) w (hw.weaken (Hp.le_refl _) (List.nil_sublist _))
 refine FnT.toV ?_
 show FnT _ _ #[.agg (FJ b).toArray, .pointer (some ⟨g1, 0, none⟩), .pointer (some ⟨g2, 0, none⟩)] _ _ _
 refine Av func38 ntmps38 rfl rfl (fun w0 hw0 => ?_)
 simp only [A5]
 refine Az ?_
 refine A8 [_, _, _, _, _, _] rfl rfl (by rfl) rfl rfl rfl (fun g3 => ?_)
 refine Qm rfl (BG (Qf OY rfl (Ql rfl underlying3 (Cell.blk 0 rfl rfl) (Ql rfl underlying3 (hD _) (Qm rfl (Qm rfl ?_))))))
 refine AQ (t := 9) rfl (fun h1 => ?_) (fun h1 => ?_)
 ·refine Qg (oF Hm rfl) rfl (Qg (oL rfl underlying3 (Cell.blk 0 rfl rfl)) rfl (Qg (oL rfl underlying3 (hT _)) rfl (Qg (Ot rfl rfl rfl) rfl (Qm rfl (Qm rfl ?_)))))
  refine AQ (t := 15) rfl (fun h2 => ?_) (fun h2 => ?_)
  ·refine Qg (oF Hj rfl) rfl (Qg (oL rfl underlying4 (Cell.blk 0 rfl rfl)) rfl (Qg (Au rfl rfl) rfl ?_))
   refine C6 (t := 18) rfl (fun h3 => ?_) (fun h3 => ?_)
   ·refine Qk rfl (Qk rfl (Qk rfl (Qk rfl (Qg (B8 rfl rfl rfl) rfl (Qm rfl (Qm rfl (An (Aq ?_))))))))
    exact As rfl rfl (by simp [Br.at, h1, h2, h3])
   ·refine Qg (oF G5 rfl) rfl (Qg (oL rfl underlying3 (Cell.blk 0 rfl rfl)) rfl (Qg (oL rfl underlying3 (hT _)) rfl (Qg (BY rfl rfl rfl) rfl (Qg (BS rfl rfl rfl) rfl (Qm rfl (Qm rfl (An (Aq ?_))))))))
    exact As rfl rfl (by simp [Br.at, h1, h2, h3])
  ·refine Qk rfl (Qk rfl (Qk rfl (AP rfl rfl rfl rfl rfl rfl (AP rfl rfl rfl rfl rfl rfl (AP rfl rfl rfl rfl rfl rfl (AP rfl rfl rfl rfl rfl rfl (Qk rfl (Qm rfl (Qm rfl (An (Aq ?_)))))))))))
   exact As rfl rfl (by simp [Br.at, h1, h2])
 ·refine Qk rfl (Qk rfl (Qk rfl (Qk rfl (Qm rfl (Qm rfl (Qk rfl (Qk rfl (Qk rfl (AP rfl rfl rfl rfl rfl rfl (AP rfl rfl rfl rfl rfl rfl (AP rfl rfl rfl rfl rfl rfl (AP rfl rfl rfl rfl rfl rfl (Qk rfl (Qm rfl (Qm rfl (An (Aq ?_)))))))))))))))))
  exact As rfl rfl (by simp [Br.at, h1])
theorem Uz (l : List Br) (vl : Value) (dim t : Int) (h : Hp) (hR : RdL FJ 6 h [] vl l) (hl : l.length ≤ 1000000) (ms : List Hp) :
  FnV Tryz.prog 13 #[vl, .int .i64 dim, .int .i64 t] h ms (.int .i64 (l.filter (Br.at dim t)).length) := by
 refine fun w hw => (?_ : FnV _ _ _ h [] _) w (hw.weaken (Hp.le_refl _) (List.nil_sublist _))
 refine FnT.toV (Av func13 ntmps13 rfl rfl (fun w0 hw0 => ?_))
 simp only [A5]
 refine Az ?_
 refine A8 [_] rfl rfl (by rfl) rfl rfl rfl (fun g4 => ?_)
 refine A8 [_] rfl rfl (by rfl) rfl rfl rfl (fun g5 => ?_)
 refine J0 0 rfl (fun h1 l1 s1 => J0 0 rfl (fun h2 l2 s2 => ?_))
 have c5 : Cell h2 [] ⟨g5, 0, none⟩ (.int .i64 t) := (s1.at0 rfl).le l2
 have c4 : Cell h2 [] ⟨g4, 0, none⟩ (.int .i64 dim) := s2.at0 rfl
 have hR := hR.up (Hp.le_trans l1 l2)
 try simp only [List.eraseIdx_cons_zero, List.eraseIdx_cons_succ]
 refine Qm rfl (BG (Qm rfl (Qx (Bv rfl rfl rfl) rfl (Qc call27 rfl (EX l vl 38 [Value.pointer (some ⟨g4, 0, none⟩), Value.pointer (some ⟨g5, 0, none⟩)] (Br.at dim t) h2 hR (by omega) call38 (fun b _ ms => XB b g4 g5 dim t h2 (fun _ => c4.any) (fun _ => c5.any) ms)) (fun vp h3 _ l3 hL => ?_)))))
 obtain ⟨rfl, hRp⟩ := hL
 refine Qx (AC hRp.rd.any rfl underlying33 rfl) rfl (Qm rfl (An (Aq ?_)))
 exact As rfl rfl (rfl)
end Go.Proofs.YtodheebhahdepaaGreat

namespace Go.Proofs.YtodheebhahdepaaGreat
open Go.Eng Go.RowKit Go.Kuhn
theorem Mx {F : Nat → Nat → Bool} {n : Nat} (h : Pos F n) (x : Nat) (hx : x < n) : ∃ k, k < n ∧ F x k = true := by
 obtain ⟨part, hl, hK, hc⟩ := h
 obtain ⟨k, _, h2, h3⟩ := HJ hK (x := x) (by rw [hc x hx]; decide)
 exact ⟨k, by omega, h3⟩
theorem LS {F : Nat → Nat → Bool} (w : List Nat) (h1 : ∀ x, x < w.length → x ∈ w) (h2 : w.Nodup) (h3 : ∀ k (hk : k < w.length), w[k] < w.length ∧ F w[k] k = true) : Pos F w.length := by
 refine ⟨w.map fun x : Nat => (x : Int), by simp, fun k hk => ?_, fun x hx => ?_⟩
 ·right
  have hk' : k < w.length := by simpa using hk
  exact ⟨w[k], by simp, (h3 k hk').1, (h3 k hk').2⟩
 ·have hn : (w.map fun x : Nat => (x : Int)).Nodup := List.pairwise_map.2 (h2.imp fun h e => h (by omega))
  have h4 := List.nodup_iff_count.1 hn (x : Int)
  have h5 := List.count_pos_iff.2 (List.mem_map.2 ⟨x, h1 x hx, rfl⟩ : (x : Int) ∈ w.map fun x : Nat => (x : Int))
  omega
theorem Fz {dim : Int} {la lb : List Br} {X Y : List Int} {p q : List Br} {L d : Int} (hX : AW dim la = X) (hY : AW dim lb = Y) (hl : X.length = Y.length) (hp : la.filter (Br.finIn dim) = p) (hq : lb.filter (Br.finIn dim) = q) (hL : CK (X.zip Y) = L) (hd : IsDist p q L d) : Df dim la lb = (d, true) := by
 refine J8 (fun h => absurd (by rw [hX, hY]; exact hl) h) fun _ => ⟨rfl, ?_⟩
 rw [hX, hY, hp, hq, hL]; exact hd
theorem HL {l l' : List Int} (h : l.Perm l') (hs : l'.Pairwise (· ≤ ·)) : DC l = l' := Jx (DF l) hs ((Cs l).trans h)
theorem CX {dim : Int} {l : List Br} (h : l.filter (Br.openIn dim) = []) : AW dim l = [] := by
 unfold AW; rw [h]; exact HL (List.Perm.refl _) (by simp)
def fb (a b : Int) : Br := ⟨1, a, b, false, 0, 0⟩
def ob (a : Int) : Br := ⟨1, a, 0, true, 0, 0⟩
theorem XU : Df 1 [fb 0 10] [fb 1 8] = (4, true) := by
 refine Fz (X := []) (Y := []) (p := [fb 0 10]) (q := [fb 1 8]) (L := 0) (CX (by decide)) (CX (by decide)) rfl (by decide) (by decide) rfl ⟨by decide, by decide, ?_, fun c hc h0 hp => ?_⟩
 ·exact LS [0, 1] (by simp; omega) (by decide) (by decide)
 ·obtain ⟨k, hk, h⟩ := Mx hp 0 (by decide)
  have hk : k < 2 := hk
  rcases (by omega : k = 0 ∨ k = 1) with rfl | rfl <;> simp [Bt, fb, Br.apart, Br.len, DE] at h <;> omega
theorem XM : Df 1 [fb 0 10] [fb 20 24] = (10, true) := by
 refine Fz (X := []) (Y := []) (p := [fb 0 10]) (q := [fb 20 24]) (L := 0) (CX (by decide)) (CX (by decide)) rfl (by decide) (by decide) rfl ⟨by decide, by decide, ?_, fun c hc h0 hp => ?_⟩
 ·exact LS [1, 0] (by simp; omega) (by decide) (by decide)
 ·obtain ⟨k, hk, h⟩ := Mx hp 0 (by decide)
  have hk : k < 2 := hk
  rcases (by omega : k = 0 ∨ k = 1) with rfl | rfl <;> simp [Bt, fb, Br.apart, Br.len, DE] at h <;> omega
theorem Xp : Df 1 [fb 0 3, fb 0 10] [fb 0 10] = (3, true) := by
 refine Fz (X := []) (Y := []) (p := [fb 0 3, fb 0 10]) (q := [fb 0 10]) (L := 0) (CX (by decide)) (CX (by decide)) rfl (by decide) (by decide) rfl ⟨by decide, by decide, ?_, fun c hc h0 hp => ?_⟩
 ·exact LS [1, 0, 2] (by simp; omega) (by decide) (by decide)
 ·obtain ⟨k, hk, h⟩ := Mx hp 0 (by decide)
  have hk : k < 3 := hk
  rcases (by omega : k = 0 ∨ k = 1 ∨ k = 2) with rfl | rfl | rfl <;> simp [Bt, fb, Br.apart, Br.len, DE] at h <;> omega
theorem XW : Df 1 [ob 0, ob 5] [ob 7, ob 1] = (4, true) := by
 refine Fz (X := [0, 5]) (Y := [1, 7]) (p := []) (q := []) (L := 4) (HL (by decide) (by decide)) (HL (by decide) (by decide)) rfl (by decide) (by decide) (by decide) ⟨by decide, by decide, ?_, fun c hc h0 hp => h0⟩
 exact LS [] (by simp) (by decide) (by decide)
theorem XC : Df 1 [ob 0] [fb 0 10] = (0, false) := by
 refine J8 (fun _ => ⟨rfl, rfl⟩) fun h => ?_
 rw [CX (l := [fb 0 10]) (by decide)] at h
 have : AW 1 [ob 0] = [0] := HL (by decide) (by decide)
 rw [this] at h; cases h
theorem IU {a b : Int} (h : -1000 ≤ a ∧ a ≤ 1000 ∧ -1000 ≤ b ∧ b ≤ 1000) : Hk (fb a b) := ⟨by show _ ≤ a; omega, by show a ≤ _; omega, by show _ ≤ b; omega, by show b ≤ _; omega⟩
theorem N7 {a : Int} (h : -1000 ≤ a ∧ a ≤ 1000) : Hk (ob a) := ⟨by show _ ≤ a; omega, by show a ≤ _; omega, by show (_ : Int) ≤ 0; omega, by show (0 : Int) ≤ _; omega⟩
open Go.Proofs.Tryz
theorem EJ {h : Hp} {g : Nat} (l : List Br) (n c : Nat) (hn : n = l.length) (hc : n ≤ c ∧ c ≤ 9223372036854775807) {cs : List Value} (hcs : l.flatMap FJ = cs) (s : Seg h [] ⟨g, 0, none⟩ cs) : RdL FJ 6 h [] (.slice (some ⟨g, 0, none⟩) n c) l := by
 subst hn hcs
 exact ⟨⟨_, c, rfl, hc.1, hc.2, Be FF l, fun _ => ⟨_, rfl, s⟩⟩, FF⟩
theorem V0 {b : Br} (h : Hk b) : ∀ x ∈ [b], Hk x := by simpa using h
theorem Yb {b c : Br} (h : Hk b) (h' : Hk c) : ∀ x ∈ [b, c], Hk x := by simp [h, h']
theorem RD (h : Hp) (ms : List Hp) : FnV Tryz.prog 4 #[] h ms (.bool true) := by
 refine FnV.weaken (h := Hp.emp) (FnT.toV ?_) (Hp.emp_le h)
 show FnT _ _ (List.toArray []) _ _ _
 refine Av func4 ntmps4 rfl rfl (fun w0 hw0 => ?_)
 simp only [A5]
 refine Az (Qm rfl (BG (Qx (AG rfl call11 rfl (FD _ _ _ _)) rfl ?_)))
 refine Ao [_, _, _, _, _, _] rfl underlying33 BI rfl (by rfl) rfl rfl (by omega) rfl rfl rfl (fun g6 => ?_)
 refine BF (fun h1 l1 s1 => ?_)
 have r1 := EJ [fb 0 10] 1 1 rfl (by omega) rfl s1
 refine Qx (AG rfl call11 rfl (FD _ _ _ _)) rfl ?_
 refine Ao [_, _, _, _, _, _] rfl underlying33 BI rfl (by rfl) rfl rfl (by omega) rfl rfl rfl (fun g8 => ?_)
 refine BF (fun h2 l2 s2 => ?_)
 have r2 := EJ [fb 1 8] 1 1 rfl (by omega) rfl s2
 refine Qx (AG rfl call10 rfl (HK [fb 0 10] [fb 1 8] _ _ h2 (r1.up l2) r2 (by decide) (by decide) (V0 (IU (by omega))) (V0 (IU (by omega))) _ _ XU)) rfl (Qm rfl (Qg (AG rfl call11 rfl (FD _ _ _ _)) rfl (J3 rfl rfl rfl rfl ?_)))
 refine Ao [_, _, _, _, _, _] rfl underlying33 BI rfl (by rfl) rfl rfl (by omega) rfl rfl rfl (fun g12 => ?_)
 refine BF (fun h1 l1 s1 => ?_)
 have r1 := EJ [fb 0 10] 1 1 rfl (by omega) rfl s1
 refine Qg (AG rfl call11 rfl (FD _ _ _ _)) rfl (J3 rfl rfl rfl rfl ?_)
 refine Ao [_, _, _, _, _, _] rfl underlying33 BI rfl (by rfl) rfl rfl (by omega) rfl rfl rfl (fun g14 => ?_)
 refine BF (fun h2 l2 s2 => ?_)
 have r2 := EJ [fb 20 24] 1 1 rfl (by omega) rfl s2
 refine Qg (AG rfl call10 rfl (HK [fb 0 10] [fb 20 24] _ _ h2 (r1.up l2) r2 (by decide) (by decide) (V0 (IU (by omega))) (V0 (IU (by omega))) _ _ XM)) rfl (Qm rfl (Qm rfl (BG (Qx (AG rfl call11 rfl (FD _ _ _ _)) rfl (Qx (AG rfl call11 rfl (FD _ _ _ _)) rfl (AE [(0, _), (6, _)] [.int .i64 0, .int .i64 0, .int .i64 0, .bool false, .int .i64 0, .int .i64 0, .int .i64 0, .int .i64 0, .int .i64 0, .bool false, .int .i64 0, .int .i64 0] [_, _, _, _, _, _, _, _, _, _, _, _] rfl underlying33 BI rfl (by omega) (by kernel_rfl) Qt rfl rfl rfl rfl (fun g19 => BF (fun h1 l1 s1 => ?_))))))))
 have r1 := EJ [fb 0 3, fb 0 10] 2 2 rfl (by omega) rfl s1
 refine Qx (AG rfl call11 rfl (FD _ _ _ _)) rfl ?_
 refine Ao [_, _, _, _, _, _] rfl underlying33 BI rfl (by rfl) rfl rfl (by omega) rfl rfl rfl (fun g21 => ?_)
 refine BF (fun h2 l2 s2 => ?_)
 have r2 := EJ [fb 0 10] 1 1 rfl (by omega) rfl s2
 refine Qx (AG rfl call10 rfl (HK [fb 0 3, fb 0 10] [fb 0 10] _ _ h2 (r1.up l2) r2 (by decide) (by decide) (Yb (IU (by omega)) (IU (by omega))) (V0 (IU (by omega))) _ _ Xp)) rfl (Qm rfl (Qg (AG rfl call12 rfl (GC _ _ _)) rfl (Qg (AG rfl call12 rfl (GC _ _ _)) rfl (J3 rfl rfl rfl rfl (AE [(0, _), (6, _)] [.int .i64 0, .int .i64 0, .int .i64 0, .bool false, .int .i64 0, .int .i64 0, .int .i64 0, .int .i64 0, .int .i64 0, .bool false, .int .i64 0, .int .i64 0] [_, _, _, _, _, _, _, _, _, _, _, _] rfl underlying33 BI rfl (by omega) (by kernel_rfl) Qt rfl rfl rfl rfl (fun g26 => BF (fun h1 l1 s1 => ?_)))))))
 have r1 := EJ [ob 0, ob 5] 2 2 rfl (by omega) rfl s1
 refine Qg (AG rfl call12 rfl (GC _ _ _)) rfl (Qg (AG rfl call12 rfl (GC _ _ _)) rfl (J3 rfl rfl rfl rfl (AE [(0, _), (6, _)] [.int .i64 0, .int .i64 0, .int .i64 0, .bool false, .int .i64 0, .int .i64 0, .int .i64 0, .int .i64 0, .int .i64 0, .bool false, .int .i64 0, .int .i64 0] [_, _, _, _, _, _, _, _, _, _, _, _] rfl underlying33 BI rfl (by omega) (by kernel_rfl) Qt rfl rfl rfl rfl (fun g29 => BF (fun h2 l2 s2 => ?_)))))
 have r2 := EJ [ob 7, ob 1] 2 2 rfl (by omega) rfl s2
 refine Qg (AG rfl call10 rfl (HK [ob 0, ob 5] [ob 7, ob 1] _ _ h2 (r1.up l2) r2 (by decide) (by decide) (Yb (N7 (by omega)) (N7 (by omega))) (Yb (N7 (by omega)) (N7 (by omega))) _ _ XW)) rfl (Qm rfl (Qm rfl (BG (Qx (AG rfl call12 rfl (GC _ _ _)) rfl ?_))))
 refine Ao [_, _, _, _, _, _] rfl underlying33 BI rfl (by rfl) rfl rfl (by omega) rfl rfl rfl (fun g34 => ?_)
 refine BF (fun h1 l1 s1 => ?_)
 have r1 := EJ [ob 0] 1 1 rfl (by omega) rfl s1
 refine Qx (AG rfl call11 rfl (FD _ _ _ _)) rfl ?_
 refine Ao [_, _, _, _, _, _] rfl underlying33 BI rfl (by rfl) rfl rfl (by omega) rfl rfl rfl (fun g36 => ?_)
 refine BF (fun h2 l2 s2 => ?_)
 have r2 := EJ [fb 0 10] 1 1 rfl (by omega) rfl s2
 refine Qx (AG rfl call9 rfl (G0 [ob 0] [fb 0 10] _ _ 1 h2 (r1.up l2) r2 (by decide) (by decide) (V0 (N7 (by omega))) (V0 (IU (by omega))) _)) rfl ?_
 rw [XC]
 refine Qm rfl (Qm rfl (Qm rfl (Qm rfl (Qm rfl (BG (Qm rfl (Qm rfl (Qg (Au rfl rfl) rfl (Qm rfl (Qm rfl (Qg (Au rfl rfl) rfl (Qg (DD rfl rfl rfl) rfl (Qm rfl (Qm rfl ?_))))))))))))))
 refine AQ (t := 48) rfl (fun hs => ?_) (fun hs => absurd (rfl) hs)
 refine Qg (Au rfl rfl) rfl (Qg (Ft rfl rfl) rfl (Qm rfl (Qm rfl ?_)))
 refine C6 (t := 52) rfl (fun hz => ?_) (fun hz => ?_)
 ·refine Qg (AG rfl call11 rfl (FD _ _ _ _)) rfl (Qg (AG rfl call12 rfl (GC _ _ _)) rfl (J3 rfl rfl rfl rfl (AE [(0, _), (6, _)] [.int .i64 0, .int .i64 0, .int .i64 0, .bool false, .int .i64 0, .int .i64 0, .int .i64 0, .int .i64 0, .int .i64 0, .bool false, .int .i64 0, .int .i64 0] [_, _, _, _, _, _, _, _, _, _, _, _] rfl underlying33 BI rfl (by omega) (by kernel_rfl) Qt rfl rfl rfl rfl (fun g55 => BF (fun h1 l1 s1 => ?_)))))
  have r1 := EJ [fb 0 10, ob 3] 2 2 rfl (by omega) rfl s1
  refine Qg (AG rfl call13 rfl (Uz [fb 0 10, ob 3] _ 1 9 h1 r1 (by decide) _)) rfl (Qg (DD rfl rfl rfl) rfl (Qm rfl (Qm rfl (An (Aq ?_)))))
  exact As rfl rfl (rfl)
 ·cases hz
end Go.Proofs.YtodheebhahdepaaGreat
namespace Go.Proofs.YtodheebhahdepaaGreat
open Go.Kuhn
variable {p q : List Br} {c : Int}
def X9 (p q : List Br) (c : Int) : Prop := ∃ pos : Nat → Nat, (∀ x (hx : x < p.length), c < p[x].len → ∃ h : pos x < q.length, p[x].apart (q[pos x]'h) ≤ c) ∧ ∀ x y (hx : x < p.length) (hy : y < p.length), c < p[x].len → c < p[y].len → pos x = pos y → x = y
theorem JI {x : Nat} (hx : x < p.length) (h : c < p[x].len) : Cw p c x = true := by
 unfold Cw; rw [dif_pos hx]; exact decide_eq_true h
theorem NB : Om p q c ↔ X9 p q c := by
 constructor
 ·intro h
  obtain ⟨pos, h1, h2⟩ := JL h
  refine ⟨pos, fun x hx hl => ?_, fun x y hx hy h3 h4 e => h2 x y hx (JI hx h3) hy (JI hy h4) e⟩
  obtain ⟨h3, h4⟩ := h1 x hx (JI hx hl)
  obtain ⟨_, i2, i3⟩ := Ia h4
  exact ⟨i2, i3⟩
 ·rintro ⟨pos, h1, h2⟩
  refine (FG p q c).resolve_right ?_
  rintro ⟨i, part, seen, hi, hl, hpl, hK, hc, L⟩
  refine Nh (G := DB p q c) (fun x => x < p.length ∧ Cw p c x = true) (fun x => by rw [hc x]; split <;> omega) (by rw [hc i, if_neg (by omega)]) (fun x hx => ?_) L (fun x k => (x < p.length ∧ Cw p c x = true) ∧ pos x = k) (fun x hx => ?_) (fun x y k g1 g2 => ?_)
  ·rcases hx with rfl | hx
   ·exact ⟨hi, hl⟩
   ·have := List.count_pos_iff.2 hx
    rw [hc x] at this
    split at this
    ·rename_i g; exact ⟨by omega, g.2⟩
    ·omega
  ·obtain ⟨g1, g2⟩ := F5 hx.2
   obtain ⟨g3, g4⟩ := h1 x g1 g2
   refine ⟨pos x, g3, ?_, hx, rfl⟩
   unfold DB; rw [dif_pos ⟨g1, g3⟩]; exact decide_eq_true g4
  ·obtain ⟨a1, a2⟩ := F5 g1.1.2
   obtain ⟨b1, b2⟩ := F5 g2.1.2
   exact h2 x y a1 b1 a2 b2 (by rw [g1.2, g2.2])
theorem pos_inj : Pos (Bt p q c) (p.length + q.length) ↔ X9 p q c ∧ X9 q p c := by rw [U1, NB, NB]
theorem XX {L : Int} (hL : L ≤ c) (h : Pos (Bt p q c) (p.length + q.length)) : dd p q L ≤ c := by
 have hLC : L ∈ BN p q L := by unfold BN; simp
 obtain ⟨M, hM1, hM2⟩ := Mj ((BN p q L).filter fun x => decide (x ≤ c)) (List.ne_nil_of_mem (List.mem_filter.2 ⟨hLC, by simpa using hL⟩))
 obtain ⟨hM3, hM4⟩ := List.mem_filter.1 hM1
 have hM4 : M ≤ c := of_decide_eq_true hM4
 have hle : ∀ x ∈ BN p q L, x ≤ c → x ≤ M := fun x hx hxc => hM2 x (List.mem_filter.2 ⟨hx, by simpa using hxc⟩)
 obtain ⟨cl1, cl2⟩ := It p q L
 have hap : ∀ x ∈ p, ∀ y ∈ q, x.apart y ∈ BN p q L := fun x hx y hy => by
  unfold BN
  exact List.mem_append_left _ (List.mem_cons_of_mem _ (List.mem_flatMap.2 ⟨x, hx, List.mem_cons_of_mem _ (List.mem_map.2 ⟨y, hy, rfl⟩)⟩))
 have hp : Pos (Bt p q M) (p.length + q.length) := h.mono fun i k hf => by
  unfold Bt at *
  split
  ·rename_i h1; rw [dif_pos h1] at hf
   exact decide_eq_true (hle _ (hap _ (List.getElem_mem h1.1) _ (List.getElem_mem h1.2)) (of_decide_eq_true hf))
  ·rename_i h1
   rw [dif_neg h1] at hf
   split
   ·rename_i h2; rw [dif_pos h2] at hf
    exact decide_eq_true (hle _ (cl1 _ (List.getElem_mem h2)) (of_decide_eq_true hf))
   ·rename_i h2
    rw [dif_neg h2] at hf
    split
    ·rename_i h3; rw [dif_pos h3] at hf
     exact decide_eq_true (hle _ (cl2 _ (List.getElem_mem h3)) (of_decide_eq_true hf))
    ·rfl
 exact Int.le_trans ((Tr p q L).2.2.2 M hM3 (hle L hLC hL) hp) hM4
end Go.Proofs.YtodheebhahdepaaGreat

namespace Go.Proofs.YtodheebhahdepaaGreat
open Go.Proofs.Tryz
open Go.Eng Go.RowKit Go.Lin Go.Sort Go.Srt
def Cy (L : List Int) : Nat → List (Int × Int)
 | 0 => []
 | j + 1 => if 0 ≤ L.getD j 0 then Cr (Cy L j) (L.getD j 0) (j : Int) else Cy L j
theorem Fy {L : List Int} {i x : Int} : ∀ {n : Nat}, AZ (Cy L n) i = some x → ∃ j : Nat, j < n ∧ x = j ∧ L.getD j 0 = i ∧ 0 ≤ i
 | 0, h => by simp [Cy, AZ] at h
 | n + 1, h => by
  unfold Cy at h
  split at h
  ·rename_i h0
   rw [CF] at h
   split at h
   ·rename_i e
    cases h
    exact ⟨n, by omega, rfl, e.symm, by rw [e]; exact h0⟩
   ·obtain ⟨j, h1, h2⟩ := Fy h
    exact ⟨j, by omega, h2⟩
  ·obtain ⟨j, h1, h2⟩ := Fy h
   exact ⟨j, by omega, h2⟩
theorem G8 {L : List Int} {i : Int} : ∀ {n : Nat}, AZ (Cy L n) i = none → ∀ j, j < n → 0 ≤ i → L.getD j 0 ≠ i
 | 0, h, j, hj, _ => by omega
 | n + 1, h, j, hj, h0 => by
  unfold Cy at h
  split at h
  ·rw [CF] at h
   split at h
   ·cases h
   ·rename_i e
    rcases (by omega : j < n ∨ j = n) with h1 | rfl
    ·exact G8 h j h1 h0
    ·exact fun q => e q.symm
  ·rename_i hn
   rcases (by omega : j < n ∨ j = n) with h1 | rfl
   ·exact G8 h j h1 h0
   ·omega
def HR (f : Int → Int) (S : List Ce) (L : List Int) (i : Nat) : List Br :=
 match AZ (Cy L L.length) (i : Int) with
 | some j => if f (S.getD i default).c.id < f (S.getD j.toNat default).c.id then [⟨(S.getD i default).c.dim, f (S.getD i default).c.id, f (S.getD j.toNat default).c.id, false, (S.getD i default).c.id, (S.getD j.toNat default).c.id⟩] else []
 | none => if L.getD i 0 < 0 then [⟨(S.getD i default).c.dim, f (S.getD i default).c.id, 0, true, (S.getD i default).c.id, 0⟩] else []
def BZ (f : Int → Int) (S : List Ce) (L : List Int) (n : Nat) : List Br := (List.range n).flatMap (HR f S L)
theorem EG (f : Int → Int) (S : List Ce) (L : List Int) (n : Nat) : BZ f S L (n + 1) = BZ f S L n ++ HR f S L n := by
 unfold BZ
 rw [List.range_succ, List.flatMap_append]
 simp
theorem UM (f : Int → Int) (S : List Ce) (L : List Int) (i : Nat) : (HR f S L i).length ≤ 1 := by
 unfold HR
 split <;> split <;> simp
theorem HM (f : Int → Int) (S : List Ce) (L : List Int) : ∀ n, (BZ f S L n).length ≤ n
 | 0 => by simp [BZ]
 | n + 1 => by
  rw [EG, List.length_append]
  have := HM f S L n
  have := UM f S L n
  omega
theorem Vu (l S : List Ce) (F : List (Int × Int)) (R V : Nat → List Int) (L : List Int) (p : Int) (gm : Nat) (vl : Value) (hp : Hp) (M : RedM p F l S R V gm hp) (hL : RdL cI 1 hp [] vl L) (hn : S.length ≤ 400) (hLn : L.length = S.length) (hLl : ∀ x ∈ L, x < S.length) (hi : ∀ a ∈ S, Bq a.c.id) (hI : ∀ c, Bq (D5 (BE F) c)) : FnT Tryz.prog 24 #[.pointer (some ⟨gm, 0, none⟩), vl] hp [] (fun r h' ms' => hp.le h' ∧ ∃ mb, ms' = [mb] ∧ OwnL FJ 6 43 mb r (BZ (D5 (BE F)) S L S.length)) := by
 obtain ⟨gA, mA, bs, vc, vr, vv, Rs, Vs, la, hS, hO, lA, hQ, _⟩ := M.ex
 have ol := hL.rd.one
 have oc := hQ.rd.one
 refine Av func24 ntmps24 rfl rfl (fun w0 hw0 => ?_)
 simp only [A5]
 refine Az (Qm rfl (BG (Cd (K := kN) (V := kN) (Ok := Bq) rfl rfl rfl rfl (fun gE mE hE0 => Qm rfl (An ?_)))))
 refine AV (fun sl h' ms' => ∃ (mE : Hp) (bs : List Nat), sl = [(0, .pointer (some ⟨gm, 0, none⟩)), (1, vl), (5, .map (some gE))] ∧ hp = h' ∧ ms' = [mE] ∧ BK kN kN gE Bq mE (Cy L L.length) bs) ?_ (fun s h ms hI => ?_)
 ·refine Ac (Ab (Qm rfl (Qx (AC hL.rd.any rfl underlying25 rfl) rfl (Qm rfl (An (Ah ?_))))))
  refine AD (fun q sl h' ms' => ∃ (j : Nat) (mE : Hp) (bs : List Nat), q = L.length - j ∧ sl = [(0, .pointer (some ⟨gm, 0, none⟩)), (1, vl), (5, .map (some gE)), (15, vl), (16, .int .i64 L.length), (17, .int .i64 j)] ∧ hp = h' ∧ ms' = [mE] ∧ j ≤ L.length ∧ BK kN kN gE Bq mE (Cy L j) bs)
   (L.length - 0) _ ⟨0, mE, [], rfl, rfl, rfl, rfl, by omega, hE0⟩ Qs ?_
  rintro q sl h' ms' ⟨j, mE, bs, rfl, rfl, rfl, rfl, hj, hE⟩
  refine Az (Qm rfl (An (Ac ?_)))
  refine Ax rfl (fun hlt => ?_) (fun hlt => ?_)
  ·have hjl : j < L.length := by omega
   have cL : ∀ ms, Cell hp ms ((AI vl).add (j * 1)) (.int .i64 (L.getD j 0)) := fun ms => by rw [show L.getD j 0 = L[j] by simp [List.getD, hjl]]; exact (hL.any (ms := ms)).cell0 hjl rfl
   have hLb := hLl _ (List.getElem_mem hjl)
   rw [show L[j] = L.getD j 0 by simp [List.getD, hjl]] at hLb
   refine Ai (Ad (Ac (Ah (Az (Qm rfl (Qx (Af (j) hL.rd.any rfl underlying25 Bm rfl rfl (by omega) (by omega)) rfl (Ql rfl underlying3 (cL _) (Qm rfl (Qm rfl (BG (Qm rfl (Qm rfl (An ?_)))))))))))))
   refine Ax rfl (fun h0 => ?_) (fun h0 => ?_)
   ·have hs : Cy L (j + 1) = Cr (Cy L j) (L.getD j 0) (j : Int) := by
     show (if 0 ≤ L.getD j 0 then _ else _) = _
     rw [if_pos h0]
    refine Ab (Qm rfl (Qm rfl (Qm rfl ?_)))
    refine Bp (V := kN) (z := undef) 0 (L.getD j 0) (j : Int) Ba hE rfl rfl underlying66 rfl rfl rfl (by unfold Bq; omega) rfl rfl (fun mE' bs' hE' => ?_)
    rw [← hs] at hE'
    refine Ak (Aj (Ad (Ab (Qx (oA rfl) rfl (Qm rfl (Ak ?_))))))
    exact Am (L.length - (j + 1)) _ (by omega) ⟨j + 1, mE', bs', rfl, rfl, rfl, rfl, by omega, hE'⟩ Qs
   ·have hs : Cy L (j + 1) = Cy L j := by
     show (if 0 ≤ L.getD j 0 then _ else _) = _
     rw [if_neg h0]
    rw [← hs] at hE
    refine Ai (Aj (Ad (Ab (Qx (oA rfl) rfl (Qm rfl (Ak ?_))))))
    exact Am (L.length - (j + 1)) _ (by omega) ⟨j + 1, mE, bs, rfl, rfl, rfl, rfl, by omega, hE⟩ Qs
  ·obtain rfl : j = L.length := by omega
   refine Aw (Aa (Aa (Ag ?_)))
   exact Ay _ ⟨mE, bs, rfl, rfl, rfl, hE⟩ Qs
 ·obtain ⟨mE, bsE, rfl, rfl, rfl, hE⟩ := hI
  refine BA fun h1 l1 lE => ?_
  have hS := hS.le l1
  have hQ := hQ.up l1
  have hL := hL.up l1
  have lA := Hp.le_trans lA l1
  have e1 : ∀ ms, Cell h1 ms (⟨gm, 1, none⟩ : Addr) vc := fun ms => Seg.all hS 1 _ rfl ms
  refine Bz (Az (Qm rfl (An (Ac (Az (Qm rfl (Qm rfl (Qf ES rfl (Ql rfl underlying27 (e1 _) (Qx (AC hQ.rd.any rfl underlying27 rfl) rfl (Qm rfl (An (Ah ?_)))))))))))))
  refine AD (fun q sl h' ms' => ∃ (i : Nat) (vb : Value) (mb : Hp), q = S.length - i ∧ sl = [(0, .pointer (some ⟨gm, 0, none⟩)), (1, vl), (5, .map (some gE)), (8, vb), (31, vc), (32, .int .i64 S.length), (33, .int .i64 i)] ∧ h1.le h' ∧ ms' = [mb] ∧ i ≤ S.length ∧ OwnL FJ 6 43 mb vb (BZ (D5 (BE F)) S L i))
   (S.length - 0) _ ⟨0, _, Hp.emp, rfl, rfl, Hp.le_refl _, rfl, by omega, OwnL.nil FF⟩ Qs ?_
  rintro q sl h2 ms' ⟨i, vb, mb, rfl, rfl, l2, rfl, hi', hB⟩
  have hS := hS.le l2
  have hQ := hQ.up l2
  have hL := hL.up l2
  have lA := Hp.le_trans lA l2
  have lE := Hp.le_trans lE l2
  have ovb : vb.oneCell' = true := (hB.rd (h := h2) (ms := [mb]) (List.Mem.head _)).rd.one
  refine Az (Qm rfl (An (Ac ?_)))
  refine Ax rfl (fun hlt => ?_) (fun hlt => ?_)
  ·have hil : i < S.length := by omega
   obtain ⟨x, hx⟩ : ∃ x, S[i] = x := ⟨_, rfl⟩
   have hxm : x ∈ S := by rw [← hx]; exact List.getElem_mem hil
   have hgx : S.getD i default = x := by simp [List.getD, hil, hx]
   have hxI := hi x hxm
   have oxv := (M.sds x hxm).rd.one
   have hsx : ∀ ms, Seg h2 ms ((AI vc).add (i * 3)) (cC x) := fun ms => by rw [← hx]; exact (hQ.any (ms := ms)).seg hil
   refine Ai (Ad (Ac (Ah (Az (Qm rfl (Qx (Af (i) hQ.rd.any rfl underlying27 AH rfl rfl (by omega) (by omega)) rfl (Qx (oG rfl underlying59 AH (hsx _)) rfl (C4 [.int .i64 0, .int .i64 0, .slice none 0 0] rfl AH rfl rfl (fun g10 => Qm rfl ?_)))))))))
   refine Sa 0 [_, _, _] AH rfl (by simp [ol, oc, oxv, ovb]) ?_
   refine An (AA fun h3 l3 hS10 => ?_)
   have e100 : ∀ ms, Cell h3 ms (⟨g10, 0, none⟩ : Addr) (.int .i64 x.c.id) := fun ms => Seg.all hS10 0 _ rfl ms
   have e101 : ∀ ms, Cell h3 ms (⟨g10, 1, none⟩ : Addr) (.int .i64 x.c.dim) := fun ms => Seg.all hS10 1 _ rfl ms
   have hS3 := hS.le l3
   have a1 : ∀ ms, Cell h3 ms (⟨gm, 1, none⟩ : Addr) vc := fun ms => Seg.all hS3 1 _ rfl ms
   have a2 : ∀ ms, Cell h3 ms (⟨gm, 2, none⟩ : Addr) (.map (some gA)) := fun ms => Seg.all hS3 2 _ rfl ms
   have hfx : (AZ (BE F) x.c.id).getD 0 = D5 (BE F) x.c.id := rfl
   obtain ⟨f, hf⟩ : ∃ f, D5 (BE F) = f := ⟨_, rfl⟩
   rw [hf] at hfx hB
   have hBl := HM f S L i
   obtain ⟨bb, hbb⟩ : ∃ bb, (AZ (Cy L L.length) (i : Int)).isSome = bb := ⟨_, rfl⟩
   obtain ⟨u, hu⟩ : ∃ u, (AZ (Cy L L.length) (i : Int)).getD 0 = u := ⟨_, rfl⟩
   refine Ac (Bb 13 CN (by kernel_rfl) rfl (Wf BC rfl (Wl rfl underlying3 (e101 _) (Wm rfl (Wm rfl (Wf Jp rfl (Wl rfl underlying66 (a2 _) (Wf Bo rfl (Wl rfl underlying3 (e100 _) (AM (show OX _ _ _ _ _ (.int .i64 (f x.c.id)) from CA (V := kN) (z := (0 : Int)) (u := f x.c.id) x.c.id hfx Ba hO (Hp.le_trans lA l3) rfl underlying66 GP rfl rfl hxI) rfl rfl (Wf Bo rfl (Wl rfl underlying3 (e100 _) (AM (A6 WY [.int .i64 0, .int .i64 0, .int .i64 0, .bool false, .int .i64 0, .int .i64 0] [(0, _), (1, _), (4, _)] [_, _, _, _, _, _] rfl BI rfl rfl Qt rfl) rfl rfl (Uw (KP [.int .i64 0, .int .i64 0, .int .i64 0, .bool false, .int .i64 0, .int .i64 0] rfl BI rfl) rfl rfl (Hz (fun g11 => ?_))))))))))))))))
   refine Sa 0 [_, _, _, _, _, _] BI rfl (by simp [Value.oneCell']) ?_
   refine BG (Qm rfl (Qm rfl ?_))
   refine Qx (DG (V := kN) (z := (0 : Int)) (i : Int) hu hbb Ba hE (Hp.le_trans lE l3) rfl underlying66 GP rfl rfl (by unfold Bq; omega)) rfl ?_
   refine Qm rfl (Qm rfl (Qm rfl (Qm rfl (Qm rfl (An (Ac (Ah (Az (Qm rfl (Qm rfl (An ?_)))))))))))
   refine Bu rfl (fun hb => ?_) (fun hb => ?_)
   ·obtain ⟨j, hj⟩ : ∃ j, AZ (Cy L L.length) (i : Int) = some j := by
     rw [hb] at hbb
     exact Option.isSome_iff_exists.1 hbb
    obtain ⟨jn, hjn, rfl, hjL, _⟩ := Fy hj
    rw [hj] at hu
    obtain rfl : (jn : Int) = u := hu
    have hjS : jn < S.length := by omega
    obtain ⟨y, hy⟩ : ∃ y, S[jn] = y := ⟨_, rfl⟩
    have hym : y ∈ S := by rw [← hy]; exact List.getElem_mem hjS
    have hgy : S.getD jn default = y := by simp [List.getD, hjS, hy]
    have hyI := hi y hym
    have cy : ∀ ms, Cell h3 ms (((AI vc).add (jn * 3)).add 0) (.int .i64 y.c.id) := fun ms => by
     have : Seg h3 ms ((AI vc).add (jn * 3)) (cC y) := by rw [← hy]; exact ((hQ.up l3).any (ms := ms)).seg hjS
     exact this 0 _ rfl
    have hfy : (AZ (BE F) y.c.id).getD 0 = f y.c.id := by rw [← hf]; rfl
    have hbar : HR f S L i = if f x.c.id < f y.c.id then [⟨x.c.dim, f x.c.id, f y.c.id, false, x.c.id, y.c.id⟩] else [] := by
     unfold HR
     rw [hj]
     simp only [Int.toNat_natCast, hgx, hgy]
    have hQ3 := hQ.up l3
    refine Az (Qm rfl (Qm rfl (Qf ES rfl (Ql rfl underlying27 (a1 _) (Qm rfl (Qx (Af (jn) hQ3.rd.any rfl underlying27 AH rfl rfl (by omega) (by omega)) rfl (Qf Bo rfl (Ql rfl underlying3 (cy _) (Qf Ui rfl ?_)))))))))
    refine AK 0 _ rfl Bm rfl rfl (by rfl) rfl rfl (by (simp; done)) rfl rfl ?_
    refine An (Bb 6 CN (by kernel_rfl) rfl (Wm rfl (Wm rfl (Wf Jp rfl (Wl rfl underlying66 (a2 _) (Wf Ui rfl (Wl rfl underlying3 (Cell.blk 0 rfl rfl) (AU (Qx (show OX _ _ _ _ _ (.int .i64 (f y.c.id)) from CA (V := kN) (z := (0 : Int)) (u := f y.c.id) y.c.id hfy Ba hO (Hp.le_trans lA l3) rfl underlying66 GP rfl rfl hyI) rfl (Qf G5 rfl ?_))))))))))
    refine AK 0 _ rfl Bm rfl rfl (by rfl) rfl rfl (by (simp; done)) rfl rfl ?_
    refine Ak (Aj (Ad (Az (Qf Hj rfl (Ql rfl underlying4 (Cell.blk 0 rfl rfl) (Qm rfl (Qg (oF Hm rfl) rfl (Qg (oL rfl underlying3 (Cell.blk 0 rfl rfl)) rfl (Qg (oF G5 rfl) rfl (Qg (oL rfl underlying3 (Cell.blk 0 rfl rfl)) rfl (Qg (C0 rfl rfl rfl) rfl (Qm rfl (An ?_)))))))))))))
    refine Ax rfl (fun hbd => ?_) (fun hbd => ?_)
    ·refine Ab (Qm rfl (Qx (oG rfl underlying43 BI (Seg.blk 0 rfl)) rfl ?_))
     refine Ao [_, _, _, _, _, _] rfl underlying33 BI rfl (by rfl) rfl rfl (by omega) rfl rfl rfl (fun g93 => ?_)
     refine AJ 2 hB (RdL.one FF (x := ⟨x.c.dim, f x.c.id, f y.c.id, false, x.c.id, y.c.id⟩) (List.Mem.head _) rfl) rfl underlying33 BI rfl (by omega) rfl rfl rfl ER (by simp; omega) (by simp; omega) rfl rfl rfl (fun vb2 mb2 hB2 => ?_)
     refine Qm rfl (Ak (Aj (Ad (Ab (Qx (oA rfl) rfl (Qm rfl (Ak (AS (AS ?_)))))))))
     exact Am (S.length - (i + 1)) _ (by omega) ⟨i + 1, vb2, mb2, rfl, rfl, Hp.le_trans l2 l3, rfl, by omega, by rw [hf, EG, hbar, if_pos hbd]; exact hB2⟩ Qs
    ·refine Ai (Aj (Ad (Ab (Qx (oA rfl) rfl (Qm rfl (Ak (AS ?_)))))))
     exact Am (S.length - (i + 1)) _ (by omega) ⟨i + 1, vb, mb, rfl, rfl, Hp.le_trans l2 l3, rfl, by omega, by rw [hf, EG, hbar, if_neg hbd, List.append_nil]; exact hB⟩ Qs
   ·have hj : AZ (Cy L L.length) (i : Int) = none := by
     rw [hb] at hbb
     cases h : AZ (Cy L L.length) (i : Int) with
     | none => rfl
     | some j => rw [h] at hbb; cases hbb
    have hil2 : i < L.length := by omega
    have hL3 := hL.up l3
    have cL : ∀ ms, Cell h3 ms ((AI vl).add (i * 1)) (.int .i64 (L.getD i 0)) := fun ms => by rw [show L.getD i 0 = L[i] by simp [List.getD, hil2]]; exact (hL3.any (ms := ms)).cell0 hil2 rfl
    have hbar : HR f S L i = if L.getD i 0 < 0 then [⟨x.c.dim, f x.c.id, 0, true, x.c.id, 0⟩] else [] := by
     unfold HR
     rw [hj]
     simp only [hgx]
    refine Az (Qm rfl (Qm rfl (Qx (Af (i) hL3.rd.any rfl underlying25 Bm rfl rfl (by omega) (by omega)) rfl (Ql rfl underlying3 (cL _) (Qm rfl (Qm rfl (An ?_)))))))
    refine Ax rfl (fun hneg => ?_) (fun hneg => ?_)
    ·refine Ab (Qf Hj rfl ?_)
     refine AK 0 _ rfl XL rfl rfl (by rfl) rfl rfl (by (simp; done)) rfl rfl ?_
     refine Ak (Aj (Ad (Az (Qf Hj rfl (Ql rfl underlying4 (Cell.blk 0 rfl rfl) (Qm rfl (Qk rfl (Qk rfl (Qk rfl (Qk rfl (Qk rfl (Qm rfl (An (Bk rfl (Ab (Qm rfl (Qx (oG rfl underlying43 BI (Seg.blk 0 rfl)) rfl ?_)))))))))))))))))
     refine Ao [_, _, _, _, _, _] rfl underlying33 BI rfl (by rfl) rfl rfl (by omega) rfl rfl rfl (fun g93 => ?_)
     refine AJ 2 hB (RdL.one FF (x := ⟨x.c.dim, f x.c.id, 0, true, x.c.id, 0⟩) (List.Mem.head _) rfl) rfl underlying33 BI rfl (by omega) rfl rfl rfl ER (by simp; omega) (by simp; omega) rfl rfl rfl (fun vb2 mb2 hB2 => ?_)
     refine Qm rfl (Ak (Aj (Ad (Ab (Qx (oA rfl) rfl (Qm rfl (Ak (AS (AS ?_)))))))))
     exact Am (S.length - (i + 1)) _ (by omega) ⟨i + 1, vb2, mb2, rfl, rfl, Hp.le_trans l2 l3, rfl, by omega, by rw [hf, EG, hbar, if_pos hneg]; exact hB2⟩ Qs
    ·refine Aw (LD rfl (Aa (Ag (Ad (Ab (Qx (oA rfl) rfl (Qm rfl (Ak (AS ?_)))))))))
     exact Am (S.length - (i + 1)) _ (by omega) ⟨i + 1, vb, mb, rfl, rfl, Hp.le_trans l2 l3, rfl, by omega, by rw [hf, EG, hbar, if_neg hneg, List.append_nil]; exact hB⟩ Qs
  ·obtain rfl : i = S.length := by omega
   refine Aw (Aa (Aa (Ag (Ad (Az (Qm rfl (Qm rfl (An (Aq ?_)))))))))
   exact As rfl rfl (⟨Hp.le_trans l1 l2, mb, rfl, hB⟩)
structure PersF (p : Int) (F : List (Int × Int)) (l S : List Ce) (R V : Nat → List Int) : Prop where
 perm : (S.map Ce.c).Perm (l.map Ce.c)
 srt : SS (D5 (BE F)) S
 all : ∃ la, AllC p S S.length S.length R V la
noncomputable def B7 (S : List Ce) (R : Nat → List Int) : List Int := (List.range S.length).map fun k => Bs (R k)
theorem Kx (S : List Ce) (R : Nat → List Int) : (B7 S R).length = S.length := by unfold B7; simp
theorem Ib (S : List Ce) (R : Nat → List Int) {k : Nat} (h : k < S.length) : (B7 S R).getD k 0 = Bs (R k) := by unfold B7; simp [List.getD, h]
theorem RedM.pers {p : Int} {F : List (Int × Int)} {l S : List Ce} {R V : Nat → List Int} {gm : Nat} {h : Hp} (M : RedM p F l S R V gm h) : PersF p F l S R V := by
 obtain ⟨gA, mA, bs, vc, vr, vv, Rs, Vs, la, _, _, _, _, _, _, _, _, _, _, A⟩ := M.ex
 exact ⟨M.perm, M.srt, la, A⟩
theorem PersF.lt {p : Int} {F : List (Int × Int)} {l S : List Ce} {R V : Nat → List Int} (P : PersF p F l S R V) : ∀ x ∈ B7 S R, x < S.length := fun x hx => by
 obtain ⟨la, A⟩ := P.all
 unfold B7 at hx
 obtain ⟨k, hk, rfl⟩ := List.mem_map.1 hx
 have h1 := (Kw (R k)).2
 rw [A.red.rl k (List.mem_range.1 hk)] at h1
 exact h1
theorem JR (l : List Ce) (F : List (Int × Int)) (v vf : Value) (p : Int) (hp : Hp) (hK : RgC l) (hR : RdC hp v l) (hF : RdL cV 2 hp [] vf F) (hV : QY F) (hI : ∀ c, Bq (D5 (BE F) c)) (h0 : HG (l.map Ce.c) F = (0, 0)) (hP : IsP p) (hl : l.length ≤ 400) : FnT Tryz.prog 7 #[.agg #[v], vf, .int .i64 p] hp [] (fun r h' ms' => hp.le h' ∧ ∃ (S : List Ce) (R V : Nat → List Int) (vb : Value) (mb : Hp), r = .tuple #[vb, .int .i64 0] ∧ ms' = [mb] ∧ OwnL FJ 6 43 mb vb (BZ (D5 (BE F)) S (B7 S R) S.length) ∧ PersF p F l S R V) := by
 have o1 := hR.q.rd.one
 have o2 := hF.rd.one
 refine Av func7 ntmps7 rfl rfl (fun w0 hw0 => ?_)
 simp only [A5]
 refine Az ?_
 refine A8 [_] rfl rfl (by rfl) rfl rfl rfl (fun g3 => ?_)
 refine Qm rfl (Qm rfl (An (AA fun h1 l1 hS => ?_)))
 have hR := hR.up l1
 have hF := hF.up l1
 refine Az (Qx (oG rfl underlying29 Bi (Seg.any hS)) rfl (Qm rfl (Qm rfl (Qc call23 rfl (R4 l F v vf p h1 hK hR hF hV h0 hP hl) (fun rB h2 ms2 l2 hB => ?_)))))
 obtain ⟨l2', gm, S, R, V, vl, ml, rfl, rfl, hO, M⟩ := hB
 have P := M.pers
 have hSn : S.length ≤ 400 := by have := P.perm.length_eq; rw [List.length_map, List.length_map] at this; omega
 have ovl : vl.oneCell' = true := (hO.rd (h := h2) (ms := [ml]) (List.Mem.head _)).rd.one
 refine Qm rfl (Qm rfl (Qm rfl (Qm rfl (Qm rfl (Qm rfl (Qm rfl (An (Ac (Az (Qm rfl (Qm rfl (An (Ax rfl (fun hc => absurd hc (fun h => h rfl)) (fun hc => Ai (Ad (Cb hO fun h3 l3 hL => ?_))))))))))))))))
 have hSi : ∀ a ∈ S, Bq a.c.id := fun a ha => by
  have h1 : a.c ∈ l.map Ce.c := P.perm.mem_iff.1 (List.mem_map.2 ⟨a, ha, rfl⟩)
  have h2 := hK.r.rgt.pos _ h1
  obtain ⟨b, hb, hbe⟩ := List.mem_map.1 h1
  have h3 := hK.i b hb
  rw [hbe] at h3
  unfold Bq; omega
 have M3 : RedM p F l S R V gm h3 := by
  obtain ⟨gA, mA, bs, vc, vr, vv, Rs, Vs, la, a1, a2, a3, a4, a5, a6, a7, a8, a9, a10, A⟩ := M.ex
  exact ⟨⟨gA, mA, bs, vc, vr, vv, Rs, Vs, la, a1.le l3, a2, Hp.le_trans a3 l3, a4.up l3, a5.up l3, a6.up l3, a7, a8, fun k hk => (a9 k hk).up l3, fun k hk => (a10 k hk).up l3, A⟩, M.perm, M.srt, fun a ha => (M.sds a ha).up l3⟩
 refine Az (Qm rfl (Qm rfl (Qc call24 rfl (Vu l S F R V (B7 S R) p gm vl h3 M3 hL hSn (Kx S R) P.lt hSi hI) (fun rC h4 ms4 l4 hB => ?_))))
 obtain ⟨l4', mb, rfl, hOb⟩ := hB
 have ovb : rC.oneCell' = true := (hOb.rd (h := h4) (ms := [mb]) (List.Mem.head _)).rd.one
 refine Qm rfl (Qm rfl (An (Aq ?_)))
 exact BH rfl rfl rfl (⟨Hp.le_trans l1 (Hp.le_trans l2 (Hp.le_trans l3 l4)), S, R, V, rC, mb, rfl, rfl, hOb, P⟩)
end Go.Proofs.YtodheebhahdepaaGreat
