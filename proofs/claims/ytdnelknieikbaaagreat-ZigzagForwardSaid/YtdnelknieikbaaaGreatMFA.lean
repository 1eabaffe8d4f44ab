/- Parts of the proof: Lo Lp Lq Lr Eng39 Ra Rb Rc Rd Re Rf Xn Xo Xp Rg Va Rh Ri Rj Rk Rl. -/
import Derived.Test.YtdnelknieikbaaaGreatTJ
set_option linter.unusedSimpArgs false
set_option linter.unusedVariables false
namespace Go.Lin
def GR (ks : List (Int × Int)) (p : Int × Int → Bool) (c : Int × Int → Nat) : Nat := (ks.map fun a => if p a then c a else 0).sum
theorem KU (p : Int × Int → Bool) (c c' : Int × Int → Nat) : ∀ ks, GR ks p (fun a => c a + c' a) = GR ks p c + GR ks p c'
  | [] => rfl
  | a :: ks => by
    have ih := KU p c c' ks
    unfold GR at ih ⊢
    rw [List.map_cons, List.map_cons, List.map_cons, List.sum_cons, List.sum_cons, List.sum_cons, ih]
    split
    · show (c a + c' a) + _ = _
      omega
    · omega
theorem JQ (p : Int × Int → Bool) (b : Int × Int) : ∀ ks, b ∉ ks → GR ks p (fun a => if b = a then 1 else 0) = 0
  | [], _ => rfl
  | a :: ks, h => by
    have ih := JQ p b ks fun hm => h (by simp [hm])
    unfold GR at ih ⊢
    have hne : b ≠ a := fun e => h (by simp [e])
    rw [List.map_cons, List.sum_cons, ih]
    simp [hne]
theorem KS (p : Int × Int → Bool) (b : Int × Int) : ∀ ks : List (Int × Int), ks.Nodup → b ∈ ks → GR ks p (fun a => if b = a then 1 else 0) = if p b then 1 else 0
  | [], _, h => by simp at h
  | a :: ks, hn, h => by
    obtain ⟨h1, h2⟩ := List.nodup_cons.1 hn
    by_cases e : b = a
    · subst e
      have := JQ p b ks h1
      unfold GR at this ⊢
      rw [List.map_cons, List.sum_cons, this]
      simp
    · have ih := KS p b ks h2 ((List.mem_cons.1 h).resolve_left e)
      unfold GR at ih ⊢
      rw [List.map_cons, List.sum_cons, ih]
      simp [e]
theorem VQ : ∀ ks : List (Int × Int), (ks.map fun _ => 0).sum = 0
  | [] => rfl
  | _ :: ks => by rw [List.map_cons, List.sum_cons, VQ ks]
theorem Qn {D : Dc} {ks : List (Int × Int)} (p : Int × Int → Bool) (hn : ks.Nodup) (hk : ∀ l, l < D.N → ((D.fr l : Int), (D.to l : Int)) ∈ ks) : GR ks p D.ct = cnt D.N fun l => p ((D.fr l : Int), (D.to l : Int)) := by
  have key : ∀ n, n ≤ D.N → GR ks p (fun a => cnt n fun l => decide (((D.fr l : Int), (D.to l : Int)) = a)) = cnt n fun l => p ((D.fr l : Int), (D.to l : Int)) := fun n => by
    induction n with
    | zero =>
      intro _
      unfold GR
      show (ks.map fun a => if p a then 0 else 0).sum = 0
      simp only [ite_self]
      exact VQ ks
    | succ n ih =>
      intro h
      have e : (fun a => cnt (n + 1) fun l => decide (((D.fr l : Int), (D.to l : Int)) = a)) = fun a => (cnt n fun l => decide (((D.fr l : Int), (D.to l : Int)) = a)) + if ((D.fr n : Int), (D.to n : Int)) = a then 1 else 0 := funext fun a => by
        rw [BO]
        simp only [decide_eq_true_eq]
      rw [e, KU, ih (by omega), KS p _ ks hn (hk n (by omega)), BO]
  exact key D.N (Nat.le_refl _)
end Go.Lin
namespace Go.Lin
structure Rows (p : Int) (d n : Nat) (w : Nat → Nat → Int) (pl : Nat → Nat) : Prop where
  bd : ∀ k, k < n → ∀ i, i < d → 0 ≤ w k i ∧ w k i < p
  lt : ∀ k, k < n → pl k < d
  one : ∀ k, k < n → w k (pl k) = 1
  low : ∀ k, k < n → ∀ i, i < pl k → w k i = 0
  inc : ∀ k l, k < l → l < n → pl k < pl l
structure Less (p : Int) (d : Nat) (w : Nat → Nat → Int) (pl : Nat → Nat) (am : Nat) (v : Nat → Int) (k : Nat) (out : Nat → Int) : Prop where
  sum : ∃ c : Nat → Int, ∀ i, i < d → Cg p (out i) (v i - sm k fun l => c l * w l i)
  zero : ∀ l, l < k → pl l < am → out (pl l) = 0
  bd : ∀ i, i < d → 0 ≤ out i ∧ out i < p
end Go.Lin
namespace Go.Lin
structure Sub (p : Int) (d : Nat) (W : (Nat → Int) → Prop) : Prop where
  zero : W fun _ => 0
  cg : ∀ x y, (∀ i, i < d → Cg p (y i) (x i)) → W x → W y
  lin : ∀ x y c, W x → W y → W fun i => x i + c * y i
theorem CR (p : Int) (n d : Nat) (b : Nat → Bool) (w : Nat → Nat → Int) : Sub p d (Spn p n b d w) := by
  refine ⟨⟨fun _ => 0, fun i _ => Cg.of_eq ?_⟩, fun x y h ⟨c, hc⟩ => ⟨c, fun i hi => (h i hi).trans (hc i hi)⟩, fun x y c ⟨a, ha⟩ ⟨e, he⟩ => ⟨fun l => a l + c * e l, fun i hi => ?_⟩⟩
  · unfold Bj
    exact (CL fun l _ => by rw [Int.zero_mul, ite_self]).symm
  · refine ((ha i hi).add ((Cg.refl p c).mul (he i hi))).trans (Cg.of_eq ?_)
    unfold Bj
    rw [← Cb, ← FF]
    refine AE fun l _ => ?_
    cases b l
    · simp
    · simp only [if_true]; rw [Int.add_mul, Int.mul_assoc]
section
variable {p : Int} {d : Nat} {W W' : (Nat → Int) → Prop} {v x out z : Nat → Int}
end
end Go.Lin
namespace Go.Lin
section
variable {Z : Zg} {a b : Nat} {u y : Nat → Int}
end
section
variable {Z : Zg} {a b N N' : Nat} {w w' V : Nat → Nat → Int}
end
end Go.Lin
namespace Go.Eng
open Go.RowKit
section
variable {P : Program} {o : Oper} {s : Ay} {h : Hp} {ms : List Hp} {e : Entry} {Q : Exit → Act → World → Prop} {ops : Array Oper} {rest : List Oper}
end
end Go.Eng
set_option maxRecDepth 100000
set_option maxHeartbeats 2000000
namespace Go.Proofs.YtdnelknieikbaaaGreat
open Go.Eng Go.RowKit Go.Lin
theorem GM {P : Program} {o : Oper} {s : Ay} {h : Hp} {ms : List Hp} {v v' : Value} (hx : OX P o s h ms v) (e : v = v') : OX P o s h ms v' := e ▸ hx
end Go.Proofs.YtdnelknieikbaaaGreat
set_option maxHeartbeats 4000000
namespace Go.Proofs.YtdnelknieikbaaaGreat
open Go.Proofs.Tryz
open Go.Eng Go.RowKit Go.Lin Go.Sort Go.Srt
def Je (Z : Zz) (D : Dc) (a b : Int) : Int := if Z.Rt ∧ 0 ≤ a ∧ a ≤ b ∧ b < (Z.dims.length : Int) then (cnt D.N (D.cov a.toNat b.toNat) : Nat) else 0
open Classical in
noncomputable def Zz.D (Z : Zz) : Dc := if h : ∃ D, Valid Z.zg D then Classical.choose h else ⟨0, fun _ => 0, fun _ => 0, fun _ _ _ => 0⟩
theorem Zz.D_ok {Z : Zz} (h : ∃ D, Valid Z.zg D) : Valid Z.zg Z.D := by
 unfold Zz.D
 rw [dif_pos h]
 exact Classical.choose_spec h
def U0 (a b : Int) (x : Int × Int) : Bool := decide (x.1 ≤ a ∧ b ≤ x.2)
def IE (p : Int × Int → Bool) (l : List Iv) : Int := (l.map fun y => if p (y.fr, y.to) then y.n else 0).sum
theorem Pm (p : Int × Int → Bool) {l : List Iv} {k : Nat} (hk : k < l.length) : IE p (l.take (k + 1)) = IE p (l.take k) + if p (l[k].fr, l[k].to) then l[k].n else 0 := by
 unfold IE
 rw [List.take_succ_eq_append_getElem hk, List.map_append, List.sum_append]
 simp
theorem Nr (p : Int × Int → Bool) (c : Int × Int → Nat) : ∀ ks : List (Int × Int), IE p (ks.map fun a => ⟨a.1, a.2, (c a : Nat)⟩) = (GR ks p c : Nat)
 | [] => rfl
 | a :: ks => by
  have ih := Nr p c ks
  unfold IE GR at ih ⊢
  rw [List.map_cons, List.map_cons, List.map_cons, List.sum_cons, List.sum_cons, ih]
  push_cast
  congr 1
  show (if p (a.1, a.2) = true then _ else _) = _
  split <;> simp
theorem NP (p : Int × Int → Bool) : ∀ l : List Iv, (∀ y ∈ l, 0 ≤ y.n ∧ y.n ≤ 20400) → 0 ≤ IE p l ∧ IE p l ≤ 20400 * (l.length : Int)
 | [], _ => by simp [IE]
 | y :: l, h => by
  have ih := NP p l fun z hz => h z (by simp [hz])
  have hy := h y (by simp)
  unfold IE at ih ⊢
  rw [List.map_cons, List.sum_cons, List.length_cons]
  push_cast
  split <;> omega
theorem Uz {Z : Zz} (hR : Z.Rt) {bl : List Iv} (hB : EI Z bl) (a b : Nat) (hab : a ≤ b) (hb : b < Z.dims.length) : IE (U0 a b) bl = (cnt Z.D.N (Z.D.cov a b) : Nat) ∧ ∃ D, Valid Z.zg D := by
 obtain ⟨D, V, hb'⟩ := hB.2 hR
 obtain ⟨ks, rfl, hs, hm⟩ := hb'
 have hn : ks.Nodup := hs.imp fun {a b} h e => by
  subst e
  rw [Cm] at h
  omega
 refine ⟨?_, D, V⟩
 rw [G8 hR.2.2.2.1.fld (Z.D_ok ⟨D, V⟩) V hab hb, Nr, Qn (D := D) (U0 a b) hn fun l hl => (hm _).2 (by
  unfold Dc.ct
  exact List.length_pos_of_mem (mem_sel.2 ⟨hl, decide_eq_true rfl⟩))]
 congr 1
 refine CC fun l _ => ?_
 unfold U0 Dc.cov
 rw [← Bool.decide_and]
 exact decide_eq_decide.2 (by simp only; omega)
theorem O4 {l : List StE} {bl : List Iv} (hl : l.length ≤ 20400) (hB : DE (fun a => (l.map StE.key).count a) bl) : bl.length ≤ 20400 ∧ ∀ y ∈ bl, 0 ≤ y.n ∧ y.n ≤ 20400 := by
 obtain ⟨ks, rfl, hs, hm⟩ := hB
 have hn : ks.Nodup := hs.imp fun {a b} h e => by
  subst e
  rw [Cm] at h
  omega
 constructor
 ·rw [List.length_map]
  have h1 : ks.length ≤ (l.map StE.key).length := hn.length_le_of_subset fun a ha => List.count_pos_iff.1 ((hm a).1 ha)
  rw [List.length_map] at h1; omega
 ·intro y hy
  obtain ⟨a, ha, rfl⟩ := List.mem_map.1 hy
  have h1 : (l.map StE.key).count a ≤ (l.map StE.key).length := List.count_le_length
  rw [List.length_map] at h1
  show (0 : Int) ≤ (((l.map StE.key).count a : Nat) : Int) ∧ (((l.map StE.key).count a : Nat) : Int) ≤ 20400
  omega
theorem Ir (Z : Zz) (vd va : Value) (from_ to : Int) (h : Hp) (hO : Z.Ok) (hR : RdZ h vd va Z) (hf : Dh from_) (ht : Dh to) :
  FnT Tryz.prog 24 #[.agg #[.int .i64 Z.p, vd, va], .int .i64 from_, .int .i64 to] h [] (fun r _ _ => r = .int .i64 (Je Z Z.D from_ to) ∧ (Z.Rt → 0 ≤ from_ → from_ ≤ to → to < (Z.dims.length : Int) → ∃ D, Valid Z.zg D)) := by
 have o1 := hR.d.rd.one
 have o2 := hR.a.rd.one
 refine Av func24 ntmps24 rfl rfl (fun w0 hw0 => ?_)
 simp only [A4]
 refine Ax ?_
 refine AS [_, _, _] rfl rfl (by rfl) rfl rfl rfl (fun g3 => ?_)
 refine Qm rfl (Aq (AL fun h1 l1 hS3 => ?_))
 have hR := hR.up l1
 have hA := Seg.all hS3
 have hA0 := hA 0 _ rfl
 refine Ac (Ax (Qx (oG rfl underlying30 Bz (Seg.any hS3)) rfl (Qx (AG rfl call35 rfl (Ds (FT Z vd va _ hO hR) _)) rfl (Qm rfl (Qm rfl ?_)))))
 refine CO (t := 13) rfl (fun q1 => ?_) (fun q1 => ?_)
 ·have hn : ¬ Z.Rt := by simpa using q1
  refine Qk rfl (Qk rfl (Qm rfl (Qm rfl (Qk rfl (Qk rfl (Qk rfl (Qm rfl (Qm rfl (Qk rfl (Qk rfl (Qk rfl (Qk rfl (Qk rfl (Qm rfl (Aq (AU rfl (Ax (Qm rfl (Aq (Ao (Ae ?_)))))))))))))))))))))
  exact Am rfl rfl (by exact ⟨by unfold Je; rw [if_neg fun e => hn e.1], fun hRt => absurd hRt hn⟩)
 ·have hRt : Z.Rt := by simpa using q1
  refine Qg (As rfl rfl) rfl (Qg (Dy rfl rfl rfl) rfl (Qm rfl (Qm rfl ?_)))
  refine AR (t := 17) rfl (fun q2 => ?_) (fun q2 => ?_)
  ·refine Qk rfl (Qk rfl (Qk rfl (Qm rfl (Qm rfl (Qk rfl (Qk rfl (Qk rfl (Qk rfl (Qk rfl (Qm rfl (Aq (AU rfl (Ax (Qm rfl (Aq (Ao (Ae ?_)))))))))))))))))
   exact Am rfl rfl (by exact ⟨by unfold Je; rw [if_neg fun e => by omega], fun _ h => by omega⟩)
  ·refine Qg (As rfl rfl) rfl (Qg (As rfl rfl) rfl (Qg (Dd rfl rfl rfl) rfl (Qm rfl (Qm rfl ?_))))
   refine AR (t := 22) rfl (fun q3 => ?_) (fun q3 => ?_)
   ·refine Qk rfl (Qk rfl (Qk rfl (Qk rfl (Qk rfl (Qm rfl (Aq (AU rfl (Ax (Qm rfl (Aq (Ao (Ae ?_))))))))))))
    exact Am rfl rfl (by exact ⟨by unfold Je; rw [if_neg fun e => by omega], fun _ _ h => by omega⟩)
   ·refine Qg (As rfl rfl) rfl (Qg (oF Bn rfl) rfl (Qg (oL rfl underlying24 (hA _ _ rfl _)) rfl (Qg (AJ hR.d.rd.any rfl underlying24 rfl) rfl (Qg (DU rfl rfl rfl) rfl (Qm rfl (Aq ?_))))))
    refine AF rfl (fun q4 => ?_) (fun q4 => ?_)
    ·refine Ac (Ad (Qm rfl (Aq (Ao (Ae ?_)))))
     exact Am rfl rfl (by exact ⟨by unfold Je; rw [if_neg fun e => by omega], fun _ _ _ h => by omega⟩)
    ·obtain ⟨a, rfl⟩ := Int.eq_ofNat_of_zero_le (show 0 ≤ from_ by omega)
     obtain ⟨b, rfl⟩ := Int.eq_ofNat_of_zero_le (show 0 ≤ to by omega)
     refine Ai (Ab (Ax (Qm rfl (Aq (Ac (Ax (Qx (oG rfl underlying30 Bz (Seg.any hS3)) rfl (Qc call17 rfl (Hn Z vd va _ hO hR) (fun rb h2 ms2 l2 hF => ?_)))))))))
     obtain ⟨l2', bl, mb, lst, rfl, hOb, hlb, hSp, hBs⟩ := hF
     have hIB := GH hSp hBs
     obtain ⟨hb1, hb2⟩ := O4 hlb hBs
     obtain ⟨hs1, hex⟩ := Uz hRt hIB a b (by omega) (by omega)
     refine AH hOb fun h3 l3 hRb => (Qx (AJ hRb.rd.any rfl underlying33 rfl) rfl (Qm rfl (Aq (Ag ?_))))
     refine AD (fun q sl hh ms' => ∃ (k : Nat) (v : Int), q = bl.length - k ∧ sl = [(1, .int .i64 a), (2, .int .i64 b), (7, .int .i64 v), (30, rb), (31, .int .i64 bl.length), (32, .int .i64 k)] ∧ h3 = hh ∧ ms' = [] ∧ k ≤ bl.length ∧ v = IE (U0 a b) (bl.take k))
      (bl.length - 0) _ ⟨0, 0, rfl, rfl, rfl, rfl, by omega, rfl⟩ Qs ?_
     rintro q sl hh ms' ⟨k, v, rfl, rfl, rfl, rfl, hk, hv⟩
     refine Ax (Qm rfl (Aq (Ac ?_)))
     refine AF rfl (fun hlt => ?_) (fun hlt => ?_)
     ·have hkl : k < bl.length := Bx hlt
      have hstep := Pm (U0 a b) hkl
      rw [← hv] at hstep
      have hyb := hb2 _ (List.getElem_mem hkl)
      have hsb := NP (U0 a b) (bl.take k) fun y hy => hb2 y (List.mem_of_mem_take hy)
      rw [← hv, List.length_take] at hsb
      have hseg : ∀ ms, Seg h3 ms ((Bl rb).add (k * 3)) (GO bl[k]) := fun ms => (hRb.any (ms := ms)).seg hkl
      refine Ai (Ab (Ac (Ag (Ax (Qx (Ah (k) hRb.rd.any rfl underlying33 DV rfl rfl (by omega) (by omega)) rfl (Qx (oG rfl underlying37 DV (hseg _)) rfl (BZ [.int .i64 0, .int .i64 0, .int .i64 0] rfl DV rfl rfl (fun g9 => ?_))))))))
      refine Sa 0 [_, _, _] DV rfl (by simp [Value.oneCell']) ?_
      refine B3 (Qf MB rfl (Ql rfl underlying3 (Cell.blk 0 rfl rfl) (Qm rfl (Qm rfl (Qm rfl ?_)))))
      refine AR (t := 40) rfl (fun p1 => ?_) (fun p1 => ?_)
      ·refine Qg (oF MM rfl) rfl (Qg (oL rfl underlying3 (Cell.blk 0 rfl rfl)) rfl (Qg (As rfl rfl) rfl (Qg (DU rfl rfl rfl) rfl (Qm rfl (Aq ?_)))))
       refine AF rfl (fun p2 => ?_) (fun p2 => ?_)
       ·have hin : U0 a b (bl[k].fr, bl[k].to) = true := decide_eq_true ⟨p1, p2⟩
        rw [if_pos hin] at hstep
        refine Ad (Qm rfl (Qf M1 rfl (Ql rfl underlying3 (Cell.blk 0 rfl rfl) (Qx (oA rfl) rfl (Qm rfl (Ak (Aj (Ab (Ad (Qx (oA rfl) rfl (Qm rfl (Ak (A5 ?_)))))))))))))
        exact Al (bl.length - (k + 1)) _ (by omega) ⟨k + 1, _, rfl, rfl, rfl, rfl, by omega, hstep.symm⟩ Qs
       ·rw [if_neg (fun e => p2 (of_decide_eq_true e).2)] at hstep
        refine Ai (Aj (Ab (Ad (Qx (oA rfl) rfl (Qm rfl (Ak (A5 ?_)))))))
        exact Al (bl.length - (k + 1)) _ (by omega) ⟨k + 1, v, rfl, rfl, rfl, rfl, by omega, by omega⟩ Qs
      ·rw [if_neg (fun e => p1 (of_decide_eq_true e).1)] at hstep
       refine Qk rfl (Qk rfl (Qk rfl (Qk rfl (Qm rfl (Aq (Bb rfl (Ai (Aj (Ab (Ad (Qx (oA rfl) rfl (Qm rfl (Ak (A5 ?_))))))))))))))
       exact Al (bl.length - (k + 1)) _ (by omega) ⟨k + 1, v, rfl, rfl, rfl, rfl, by omega, by omega⟩ Qs
     ·obtain rfl : k = bl.length := by omega
      rw [List.take_length] at hv
      refine Aw (Aa (Aa (Af (Ab (Ax (Qm rfl (Qm rfl (Aq (Ao ?_)))))))))
      exact Am rfl rfl (by subst hv; exact ⟨by unfold Je; rw [if_pos ⟨hRt, by omega, by omega, by omega⟩, hs1]; rfl, fun _ _ _ _ => hex⟩)
end Go.Proofs.YtdnelknieikbaaaGreat
namespace Go.Proofs.YtdnelknieikbaaaGreat
open Go.Eng Go.RowKit Go.Lin Go.Sort Go.Srt
theorem Ka {p : Int} {ds : List Int} {A : List Ar} {vdo vao : Value} {md ma mB h : Hp} (hOd : OwnL cI 1 3 md vdo ds) (kd : md.le h) (hOa : OwnL cA 5 45 ma vao A) (ka : ma.le h) (B : BagE A mB) (kB : mB.le h) : RdZ h vdo vao ⟨p, ds, A⟩ := by
 refine ⟨hOd.rdh kd, hOa.rdh ka, fun a ha => ?_⟩
 obtain ⟨k, hk, rfl⟩ := List.mem_iff_getElem.1 ha
 obtain ⟨y, hy, O⟩ := B.all k hk
 have e : A.getD k default = A[k] := by simp [List.getD, hk]
 rw [e] at O
 exact O.rdh (Hp.le_trans hy kB)
end Go.Proofs.YtdnelknieikbaaaGreat
namespace Go.Proofs.YtdnelknieikbaaaGreat
open Go.Eng Go.RowKit Go.Lin Go.Sort Go.Srt
theorem Gv {e : Entry} {Q : Exit → Act → World → Prop} {ops : Array Oper} {r : List Oper} {s : Ay} {h : Hp} {ms : List Hp} (k : WL e ops Q r s h ms) : ∀ pre : List Hp, WL e ops Q r s h (pre ++ ms)
 | [] => k
 | m :: pre => Oe 0 rfl (Gv k pre)
end Go.Proofs.YtdnelknieikbaaaGreat
namespace Go.Proofs.YtdnelknieikbaaaGreat
open Go.Eng Go.RowKit Go.Lin
theorem NS {p : Int} {d : Nat} {W : (Nat → Int) → Prop} (S : Go.Lin.Sub p d W) (c : Nat → Int) (v : Nat → Nat → Int) : ∀ n, (∀ l, l < n → W (v l)) → W fun i => sm n fun l => c l * v l i
 | 0, _ => S.zero
 | n + 1, h => S.lin _ _ (c n) (NS S c v n fun l hl => h l (by omega)) (h n (by omega))
def fM (Z : Zg) (a : Nat) : Nat → Nat → Nat → Int
 | 0 => Dl
 | u + 1 => Fb Z.p (Z.d (a + u)) (Z.mat (a + u)) (fM Z a u)
theorem TV (p : Int) (k c : Nat) (f g : Nat → Nat → Int) (y : Nat → Int) (i : Nat) : Cg p (ap (Fb p k f g) c y i) (ap f k (fun t => ap g c y t) i) := by
 unfold ap
 have h1 : Cg p (sm c fun j => Fb p k f g i j * y j) (sm c fun j => (sm k fun t => f i t * g t j) * y j) := Cg.sm fun j _ => (Cg.mod p _).mul (Cg.refl p (y j))
 refine h1.trans (Cg.of_eq ?_)
 rw [AE (g := fun j => sm k fun t => f i t * g t j * y j) fun j _ => (Iy k (y j) _).symm, D9]
 refine AE fun t _ => ?_
 rw [← Cb]
 exact AE fun j _ => Int.mul_assoc _ _ _
section
variable {Z : Zg} {D : Dc} {a b : Nat}
theorem UT (hb : b < Z.n) (hfw : ∀ k, k + 1 < Z.n → Z.back k = false) (c : Nat) : SR Z a b fun k i => fM Z a (k - a) i c := by
 intro k h1 h2 i hi
 have es : Z.src k = k ∧ Z.tgt k = k + 1 := by unfold Zg.src Zg.tgt; rw [hfw k (by omega)]; exact ⟨rfl, rfl⟩
 rw [es.1, es.2]
 show Cg Z.p (ap (Z.mat k) (Z.d k) (fun i => fM Z a (k - a) i c) i) (fM Z a (k + 1 - a) i c)
 rw [show k + 1 - a = (k - a) + 1 by omega]
 show Cg Z.p _ (Fb Z.p (Z.d (a + (k - a))) (Z.mat (a + (k - a))) (fM Z a (k - a)) i c)
 rw [show a + (k - a) = k by omega]
 exact (Cg.mod _ _).symm
theorem UF (hb : b < Z.n) (hfw : ∀ k, k + 1 < Z.n → Z.back k = false) {x : Nat → Nat → Int} (T : SR Z a b x) : ∀ u, a + u ≤ b → ∀ i, i < Z.d (a + u) → Cg Z.p (x (a + u) i) (ap (fM Z a u) (Z.d a) (x a) i) := fun u => by
 induction u with
 | zero =>
  intro _ i hi
  refine Cg.of_eq ?_
  show x a i = sm (Z.d a) fun j => Dl i j * x a j
  rw [DZ (Z.d a) i _ hi fun j _ hne => by unfold Dl; rw [if_neg (Ne.symm hne), Int.zero_mul]]
  unfold Dl
  rw [if_pos rfl, Int.one_mul]
 | succ u ih =>
  intro hu i hi
  have es : Z.src (a + u) = a + u ∧ Z.tgt (a + u) = a + u + 1 := by unfold Zg.src Zg.tgt; rw [hfw (a + u) (by omega)]; exact ⟨rfl, rfl⟩
  have h := T (a + u) (by omega) (by omega) i (by rw [es.2]; exact hi)
  rw [es.1, es.2] at h
  exact h.symm.trans ((EC (fun t ht => ih (by omega) t ht) i).trans (TV Z.p (Z.d (a + u)) (Z.d a) (Z.mat (a + u)) (fM Z a u) (x a) i).symm)
theorem Us (hp : 2 ≤ Z.p) (u : Nat) : ∀ i j, 0 ≤ fM Z a u i j ∧ fM Z a u i j < Z.p := fun i j => by
 cases u with
 | zero => show 0 ≤ Dl i j ∧ Dl i j < Z.p; unfold Dl; split <;> omega
 | succ u => exact ⟨Int.emod_nonneg _ (by omega), Int.emod_lt_of_pos _ (by omega)⟩
theorem Rg (F : Fld Z.p) (V : Valid Z D) (hab : a ≤ b) (hb : b < Z.n) (hfw : ∀ k, k + 1 < Z.n → Z.back k = false) : VF Z.p (Z.d b) (Z.d a) (fM Z a (b - a)) = cnt D.N (D.cov a b) := by
 have hbd : UO Z.p (Z.d b) (Z.d a) (fM Z a (b - a)) := fun i _ j _ => Us F.two (b - a) i j
 obtain ⟨F', pv, E⟩ := SJ F hbd
 rw [MS F E, ← C6 E.red]
 have o1 : ∀ l, l < D.N → D.s1 Z a b l = true → D.on b l = true := fun l _ h => by unfold Dc.s1 at h; simp only [Bool.and_eq_true] at h; exact h.1
 have n1 := CA F (F7 E.red) fun l hl _ => MG F V hab hb (y := fun i => fM Z a (b - a) i l) ⟨_, UT hb hfw l, fun i _ => Cg.refl _ _⟩
 have n2 := CA F ((V.ind b hb).sub o1) (n' := Z.d a) (b' := fun q => pv.contains q) (v' := fun l i => fM Z a (b - a) i l) fun l hl h => by
  obtain ⟨x, T, hx⟩ := M8 V hb (Spn.self hl h)
  have S := CR Z.p (Z.d a) (Z.d b) (fun q => pv.contains q) fun l i => fM Z a (b - a) i l
  refine S.cg _ _ (fun i hi => ?_) (NS S (x a) (fun l i => fM Z a (b - a) i l) (Z.d a) fun l hl => F4 E.red hl)
  have h1 := UF hb hfw T (b - a) (by omega)
  rw [show a + (b - a) = b by omega] at h1
  exact (hx i hi).symm.trans ((h1 i hi).trans (Cg.of_eq (AE fun j _ => Int.mul_comm _ _)))
 have hc := Go.Lin.cover F V hab hb
 have h0 : cnt D.N (D.s0 Z a b) = 0 := DT fun l hl => by
  unfold Dc.s0
  cases ho : D.on b l with
  | false => rfl
  | true =>
   have h1 := Dc.on_iff.1 ho
   by_cases h2 : a < D.fr l
   ·rw [hfw (D.fr l - 1) (by omega)]; simp
   ·rw [decide_eq_false h2]; rfl
 omega
end
end Go.Proofs.YtdnelknieikbaaaGreat
namespace Go.Proofs.YtdnelknieikbaaaGreat
open Go.Proofs.Tryz
open Go.Eng Go.RowKit Go.Lin Go.Sort Go.Srt
theorem Uu {Z : Zz} (hR : Z.Rt) (a j : Nat) : RtM Z.p (Z.zg.d j) (Z.zg.d a) (fM Z.zg a (j - a)) :=
 ⟨hR.2.2.2.1, by have := Z.d_le hR j; omega, by have := Z.d_le hR a; omega, fun i _ k _ => Us (Z := Z.zg) hR.2.2.2.1.1 (j - a) i k⟩
theorem QC {Z : Zz} (hR : Z.Rt) {h : Hp} {ms : List Hp} {vd va : Value} (R : RdZ h vd va Z) {k : Nat} (hk : k < Z.dims.length) : Cell h ms ((Bl vd).add (k * 1)) (.int .i64 (Z.zg.d k)) := by
 have := R.d.any.cell0 (ms := ms) hk rfl
 rw [Z.zg_d hR k]
 unfold Zz.dim
 rwa [show Z.dims.getD k 0 = Z.dims[k] by simp [List.getD, hk]]
theorem VK {x : Pl} {A : List Ar} (hA : A.map Ar.core = ({ x with back := 0 } : Pl).core) {k : Nat} (hk : k < A.length) : A[k].b = false := by
 have h1 := congrArg (fun l => l[k]?) hA
 have hl : k < ({ x with back := 0 } : Pl).core.length := by rw [← hA, List.length_map]; exact hk
 simp only [List.getElem?_map, List.getElem?_eq_getElem hk, Option.map_some, List.getElem?_eq_getElem hl, Option.some.injEq] at h1
 have h2 : A[k].b = (({ x with back := 0 } : Pl).core[k]).1 := congrArg Prod.fst h1
 rw [h2]
 unfold Pl.core
 simp [Pl.bk]
theorem Lj (x : Pl) (vd vs : Value) (h : Hp) (hx : x.Ok) (hR : RdP h vd vs x) : FnT Tryz.prog 9 #[.agg #[.int .u8 x.p, vd, .int .u16 x.back, vs, .bool x.thin]] h [] (fun r _ _ => r = .bool true) := by
 have o1 := hR.d.rd.one
 have o2 := hR.s.rd.one
 refine Av func9 ntmps9 rfl rfl (fun w0 hw0 => ?_)
 simp only [A4]
 refine Ax ?_
 refine AS [_, _, _, _, _] rfl rfl (by rfl) rfl rfl rfl (fun g1 => ?_)
 refine Qm rfl (B3 (Qx (AG rfl call14 rfl (GW _ _)) rfl (Qm rfl (B3 (Qf Sg rfl ?_)))))
 refine AK 0 _ rfl WA rfl rfl (by rfl) rfl rfl (by (simp; done)) rfl rfl ?_
 refine Aq (AL fun h1 l1 hS1 => ?_)
 have hR : RdP h1 vd vs { x with back := 0 } := ⟨hR.d.up l1, hR.s.up l1⟩
 have hx : ({ x with back := 0 } : Pl).Ok := ⟨hx.p, hx.ds, by show 0 < 65536; decide, hx.seed, hx.len⟩
 refine Ax (Qx (oG rfl underlying26 ST (Seg.any hS1)) rfl (Qc call15 rfl (Kf { x with back := 0 } vd vs h1 hx hR) (fun rz h2 ms2 l2 hF => ?_)))
 obtain ⟨l2', vdo, vao, md, ma, mB, A, rfl, rfl, hOd, hOa, hAc, hB⟩ := hF
 refine A7 fun h3 l3 k3 => (A7 fun h4 l4 k4 => (A7 fun h5 l5 k5 => ?_))
 have hRZ : RdZ h5 vdo vao ⟨({ x with back := 0 } : Pl).P, ({ x with back := 0 } : Pl).dims, A⟩ := Ka hOd (Hp.le_trans k4 l5) hOa (Hp.le_trans k3 (Hp.le_trans l4 l5)) hB k5
 have hRt : (⟨({ x with back := 0 } : Pl).P, ({ x with back := 0 } : Pl).dims, A⟩ : Zz).Rt := ({ x with back := 0 } : Pl).rt rfl rfl hAc
 have hfb : ∀ k (hk : k < (⟨({ x with back := 0 } : Pl).P, ({ x with back := 0 } : Pl).dims, A⟩ : Zz).ars.length), (⟨({ x with back := 0 } : Pl).P, ({ x with back := 0 } : Pl).dims, A⟩ : Zz).ars[k].b = false := fun k hk => VK hAc hk
 generalize hZ : (⟨({ x with back := 0 } : Pl).P, ({ x with back := 0 } : Pl).dims, A⟩ : Zz) = Z at hRZ hRt hfb
 have hZp : ({ x with back := 0 } : Pl).P = Z.p := by rw [← hZ]
 rw [hZp]
 have o3 := hRZ.d.rd.one
 have o4 := hRZ.a.rd.one
 have n1 := hRt.1
 have n2 := hRt.2.1
 have hna := Z.nars hRt
 have hfw : ∀ k, k + 1 < Z.zg.n → Z.zg.back k = false := fun k hk => by
  have hk' : k + 1 < Z.dims.length := hk
  rw [Z.zg_back (show k < Z.ars.length by omega)]
  exact hfb k (by omega)
 refine BZ [.int .i64 0, .slice none 0 0, .slice none 0 0] rfl Bz rfl rfl (fun g4 => ?_)
 refine Sa 0 [_, _, _] Bz rfl (by simp [o3, o4]) ?_
 refine Aq (AL fun h6 l6 hS4 => ?_)
 have hRZ := hRZ.up l6
 have hA := Seg.all hS4
 have hA0 := hA 0 _ rfl
 refine Ac (Ax (Qf Bn rfl (Ql rfl underlying24 (hA _ _ rfl _) (Qx (AJ hRZ.d.rd.any rfl underlying24 rfl) rfl (Qm rfl (Aq (Ag ?_)))))))
 refine AD (fun q sl hh ms' => ∃ (i : Nat), q = Z.dims.length - i ∧ sl = [(3, .bool true), (4, .pointer (some ⟨g4, 0, none⟩)), (14, .int .i64 Z.dims.length), (15, .int .i64 i)] ∧ h6.le hh ∧ ms' = [] ∧ i ≤ Z.dims.length)
  (Z.dims.length - 0) _ ⟨0, rfl, rfl, Hp.le_refl _, rfl, by omega⟩ Qs ?_
 rintro q sl hh ms' ⟨i, rfl, rfl, lh, rfl, hi⟩
 have hRZ := hRZ.up lh
 have hS4 := hS4.le lh
 have hA := Seg.all hS4
 have hA0 := hA 0 _ rfl
 refine Ax (Qm rfl (Aq (Ac ?_)))
 refine AF rfl (fun hlt => ?_) (fun hlt => ?_)
 ·have hin : i < Z.dims.length := by omega
  have hdi := Z.d_le hRt i
  refine Ai (Ab (Ac (Ag (Ax (Qm rfl (Qm rfl (Aq ?_)))))))
  refine Bv (fun sl h7 ms' => ∃ (g6 : Nat) (ev : Value), sl = [(3, .bool true), (4, .pointer (some ⟨g4, 0, none⟩)), (5, .int .i64 i), (6, .pointer (some ⟨g6, 0, none⟩)), (14, .int .i64 Z.dims.length), (15, .int .i64 i)] ∧ hh.le h7 ∧ ms' = [AX g6 42 [.int .i64 Z.p, .int .i64 (Z.zg.d i), .int .i64 (Z.zg.d i), ev]] ∧ RdL cI 1 h7 [] ev (mat (Z.zg.d i) (Z.zg.d i) (fM Z.zg i 0))) ?_ (fun s h ms hI => ?_)
  ·refine AW (n := 10) (bs := [true, true, true, true, true, true, true, false, false, false]) [true, true, true, true, true, true, true] Cd (by kernel_rfl) (by kernel_rfl) rfl rfl (QF CG rfl (QL rfl underlying3 (hA0 _) (QF Bn rfl (QL rfl underlying24 (hA _ _ rfl _) (Qq rfl (Qp rfl (Ah (i) hRZ.d.rd.any rfl underlying24 A8 rfl rfl (by omega) (by omega)) (QL rfl underlying3 (QC hRt hRZ hin) ?_)))))))
   unfold CD
   simp only [List.cons_append, List.nil_append]
   refine A2 [7, 8] (by kernel_rfl) rfl ?_
   refine Az rfl ?_ ?_
   ·refine Qc call20 rfl (Nc Z.p (Z.zg.d i) hh hRt.2.2.2.1 (by omega)) (fun xm h7 ms7 l7 hF => ?_)
    obtain ⟨rfl, ev, me, rfl, rfl, hOe⟩ := hF
    refine AH hOe fun h8 l8 hRe => ?_
    have oe := hRe.rd.one
    refine Qa (Qo 8 rfl (BZ [.int .i64 0, .int .i64 0, .int .i64 0, .slice none 0 0] rfl AI rfl rfl (fun g6 => Qa (Qo 9 rfl ?_))))
    refine Sa 0 [_, _, _, _] AI rfl (by simp [oe]) ?_
    refine Qa (Qe ?_)
    exact AA _ ⟨_, ev, rfl, l8, rfl, hRe⟩ Qs
   refine Az rfl ?_ ?_
   ·refine BZ [.int .i64 0, .int .i64 0, .int .i64 0, .slice none 0 0] rfl AI rfl rfl (fun g6 => Qw (Qo 7 rfl (Qc call20 rfl (Nc Z.p (Z.zg.d i) hh hRt.2.2.2.1 (by omega)) (fun xm h7 ms7 l7 hF => ?_))))
    obtain ⟨rfl, ev, me, rfl, rfl, hOe⟩ := hF
    refine AH hOe fun h8 l8 hRe => ?_
    have oe := hRe.rd.one
    refine Qa (Qo 9 rfl ?_)
    refine Sa 0 [_, _, _, _] AI rfl (by simp [oe]) ?_
    refine Qa (Qe ?_)
    exact AA _ ⟨_, ev, rfl, l8, rfl, hRe⟩ Qs
   exact A3
  ·obtain ⟨g6, ev, rfl, l7, rfl, hRe⟩ := hI
   refine Ax (Qm rfl (Qm rfl (Aq (Ag ?_))))
   refine AD (fun q sl h8 ms' => ∃ (j : Nat) (ev : Value), q = Z.dims.length - j ∧ sl = [(3, .bool true), (4, .pointer (some ⟨g4, 0, none⟩)), (5, .int .i64 i), (6, .pointer (some ⟨g6, 0, none⟩)), (7, .int .i64 j), (14, .int .i64 Z.dims.length), (15, .int .i64 i)] ∧ hh.le h8 ∧ ms' = [AX g6 42 [.int .i64 Z.p, .int .i64 (Z.zg.d (min j (Z.dims.length - 1))), .int .i64 (Z.zg.d i), ev]] ∧ i ≤ j ∧ j ≤ Z.dims.length ∧ RdL cI 1 h8 [] ev (mat (Z.zg.d (min j (Z.dims.length - 1))) (Z.zg.d i) (fM Z.zg i (min j (Z.dims.length - 1) - i))))
    (Z.dims.length - i) _ ⟨i, ev, rfl, rfl, l7, by rw [Nat.min_eq_left (by omega)], Nat.le_refl _, hi, by rw [Nat.min_eq_left (by omega), Nat.sub_self]; exact hRe⟩ Qs ?_
   rintro q sl h8 ms' ⟨j, ev, rfl, rfl, lq, rfl, hij, hj, hRe⟩
   have hRZ := hRZ.up lq
   have hS4 := hS4.le lq
   have hA := Seg.all hS4
   have hA0 := hA 0 _ rfl
   refine Ac (Ax (Qm rfl (Qf Bn rfl (Ql rfl underlying24 (hA _ _ rfl _) (Qx (AJ hRZ.d.rd.any rfl underlying24 rfl) rfl (Qm rfl (Aq ?_)))))))
   refine AF rfl (fun hltj => ?_) (fun hltj => ?_)
   ·have hjn : j < Z.dims.length := by omega
    rw [Nat.min_eq_left (show j ≤ Z.dims.length - 1 by omega)] at hRe ⊢
    refine Ai (Ab (Ac (Ag (CV fun h9 l9 lG dG LG => ?_))))
    have hG6 := Seg.ofLe lG
    have hrk := Nz Z.p (Z.zg.d j) (Z.zg.d i) (fM Z.zg i (j - i)) ev
    refine Ac (Ac (AW (n := 7) (bs := [true, true, true, false, true, false, false]) [true, true, true, false, true] Cd (by kernel_rfl) (by kernel_rfl) rfl rfl (Qp rfl (oG rfl underlying30 Bz (Seg.any (hS4.le l9))) (Qq rfl (Qq rfl (Qp rfl (oG rfl underlying42 AI (Seg.any hG6)) ?_))))))
    unfold CD
    simp only [List.cons_append, List.nil_append]
    refine Qo 3 rfl ?_
    refine Qc call24 rfl (Ir Z vdo vao i j h9 hRt.ok (hRZ.up l9) (by unfold Dh; omega) (by unfold Dh; omega)) (fun r6 h10 ms10 l10 hF => ?_)
    obtain ⟨rfl, hex⟩ := hF
    have hex := hex hRt (by omega) (by omega) (by omega)
    refine Gv ?_ ms10
    have hEq : Je Z Z.D i j = (VF Z.p (Z.zg.d j) (Z.zg.d i) (fM Z.zg i (j - i)) : Nat) := by unfold Je; rw [if_pos ⟨hRt, by omega, by omega, by omega⟩]; congr 1; exact (Rg hRt.2.2.2.1.fld (Z.D_ok hex) hij hjn hfw).symm
    refine Qa (Qo 5 rfl (Qx (AG rfl call29 rfl (hrk h10 (Uu hRt i j) (hRe.up (Hp.le_trans l9 l10)) _)) rfl (Qa (An 6 40 (by kernel_rfl) rfl (by assumption) rfl (GM (B4 rfl rfl rfl) (congrArg Value.bool (decide_eq_false fun e => e hEq))) (Qe (E1 LG (Hp.le_trans lG l10) fun h11 l11 b11 => ?_))))))
    have l811 : h8.le h11 := b11 h8 (Hp.le_trans l9 l10) dG
    have hRe := hRe.up l811
    have hRZ := hRZ.up l811
    have hS4 := hS4.le l811
    have hA := Seg.all hS4
    have hA0 := hA 0 _ rfl
    refine Ab (Bb rfl (Ai (Ab (Ax (Qm rfl (Qf BQ rfl (Ql rfl underlying28 (hA _ _ rfl _) (Qx (AJ hRZ.a.rd.any rfl underlying28 rfl) rfl (Qm rfl (Aq ?_))))))))))
    refine AF rfl (fun hla => ?_) (fun hla => ?_)
    ·have hja : j < Z.ars.length := by omega
     obtain ⟨f1, f2, f3, f4, f5⟩ := Z.arrow hRt hja
     have hrm := hRZ.e _ (List.getElem_mem hja)
     have hsm := fun ms => FQ (ms := ms) hRZ hja
     have es : Z.zg.src j = j ∧ Z.zg.tgt j = j + 1 := by unfold Zg.src Zg.tgt; rw [hfw j (show j + 1 < Z.dims.length by omega)]; exact ⟨rfl, rfl⟩
     rw [es.1, es.2] at f5
     rw [f4, es.1, es.2] at hrm
     rw [f1, f2, f3, es.1, es.2] at hsm
     refine AW (n := 12) (bs := [true, true, true, true, true, true, false, false, false, false, false, false]) [true, true, true, true, true, true] Cd (by kernel_rfl) (by kernel_rfl) rfl rfl (QF BQ rfl (QL rfl underlying28 (hA _ _ rfl _) (Qq rfl (Qp rfl (Ah (j) hRZ.a.rd.any rfl underlying28 Cr rfl rfl (by omega) (by omega)) (QF Ca rfl (Qp rfl (oG rfl underlying42 AI (hsm _)) ?_))))))
     unfold CD
     simp only [List.cons_append, List.nil_append]
     refine Qo 6 rfl (Qx (oG rfl underlying42 AI (Seg.blk 0 rfl)) rfl (Qw (Qo 7 rfl (Qc call21 rfl (TX Z.p (Z.zg.d (j + 1)) (Z.zg.d j) (Z.zg.d i) _ _ _ _ h11 f5 (Uu hRt i j) hrm hRe) (fun x7 h12 ms12 l12 hF => ?_)))))
     obtain ⟨rfl, v12, rfl, ev2, me2, rfl, rfl, hO2⟩ := hF
     refine AH hO2 fun h13 l13 hRe2 => ?_
     have oe2 := hRe2.rd.one
     refine Qa (An 8 46 (by kernel_rfl) rfl (by assumption) rfl (As rfl rfl) (An 9 55 (by kernel_rfl) rfl (by assumption) rfl (AC rfl rfl rfl) (An 10 56 (by kernel_rfl) rfl (by assumption) rfl (AC rfl rfl rfl) (Qo 11 rfl ?_))))
     refine Sa 0 [_, _, _, _] AI rfl (by simp [oe2]) ?_
     refine Qa (Qe (Aj (Ab (Ad (Qm rfl (Qx (oA rfl) rfl (Qm rfl (Ak ?_))))))))
     refine Al (Z.dims.length - (j + 1)) _ (by omega) ⟨j + 1, ev2, rfl, rfl, Hp.le_trans lq (Hp.le_trans l811 l13), ?_, by omega, by omega, ?_⟩ Qs
     ·rw [Nat.min_eq_left (show j + 1 ≤ Z.dims.length - 1 by omega)]
      rfl
     ·rw [Nat.min_eq_left (show j + 1 ≤ Z.dims.length - 1 by omega), show j + 1 - i = (j - i) + 1 by omega]
      have e : fM Z.zg i (j - i + 1) = Fb Z.p (Z.zg.d j) (Z.zg.mat j) (fM Z.zg i (j - i)) := by
       show Fb Z.zg.p (Z.zg.d (i + (j - i))) (Z.zg.mat (i + (j - i))) (fM Z.zg i (j - i)) = _
       rw [show i + (j - i) = j by omega]
       rfl
      rw [e]
      exact hRe2
    ·refine Ai (Aj (Ab (Ad (Qm rfl (Qx (oA rfl) rfl (Qm rfl (Ak ?_)))))))
     refine Al (Z.dims.length - (j + 1)) _ (by omega) ⟨j + 1, ev, rfl, rfl, Hp.le_trans lq l811, ?_, by omega, by omega, ?_⟩ Qs
     ·rw [show min (j + 1) (Z.dims.length - 1) = j by omega]
     ·rw [show min (j + 1) (Z.dims.length - 1) = j by omega]; exact hRe
   ·refine Aw (Aa (Aa (Af (Aj (Ab (Ad (Qx (oA rfl) rfl (Qm rfl (Ak (A5 ?_))))))))))
    exact Al (Z.dims.length - (i + 1)) _ (by omega) ⟨i + 1, rfl, rfl, Hp.le_trans lh lq, rfl, by omega⟩ Qs
 ·refine Aw (Aa (Aa (Af (Ab (Ax (Qm rfl (Qm rfl (Aq (Ao ?_)))))))))
  exact Am rfl rfl (rfl)
end Go.Proofs.YtdnelknieikbaaaGreat
