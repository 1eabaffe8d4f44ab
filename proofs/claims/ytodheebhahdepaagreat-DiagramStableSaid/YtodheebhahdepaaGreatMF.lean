/- A part of the proof. -/
import Derived.Test.YtodheebhahdepaaGreatME
import Derived.Ground.SlsfProg
import Derived.Shelf.SlSortCmp.WholeK
import Derived.Shelf.SlSortCmp.NoneTotal
import Derived.Test.YtodheebhahdepaaGreatProg
set_option linter.unusedSimpArgs false
set_option linter.unusedVariables false
set_option linter.unusedSectionVars false
set_option maxRecDepth 100000
set_option maxHeartbeats 4000000
namespace Go.Proofs.YtodheebhahdepaaGreat
open Go.Proofs.Tryz
open Go.Eng Go.RowKit
def GL (U : List Cl) (x : Cl) (i : Nat) : Prop := (Jg U (Bc x i).1).isSome = false ∨ (Gu U (Bc x i).1).dim ≠ x.dim - 1 ∨ (0 < i ∧ (Bc x (i - 1)).1 = (Bc x i).1)
instance (U : List Cl) (x : Cl) (i : Nat) : Decidable (GL U x i) := by unfold GL; infer_instance
def UD (x : Cl) (i : Nat) : Int := ((x.sd.take i).map Prod.snd).sum
theorem SO {x : Cl} {i : Nat} (h : i < x.sd.length) : UD x (i + 1) = UD x i + x.sd[i].2 := by
 unfold UD
 rw [List.take_succ_eq_append_getElem h, List.map_append, List.sum_append]; simp
def Ds (U : List Cl) (x : Cl) : Int :=
 if x.dim < 0 ∨ 8 < x.dim then 21
 else if BD x then 22
 else if ¬ ∀ i, i < x.sd.length → ¬ GL U x i then 22
 else if ¬ ∀ i, i < x.sd.length → ¬ Bw x i then 23
 else if x.dim = 1 ∧ UD x x.sd.length ≠ 0 then 23 else 0
theorem PH (U : List Ce) (c : Int) : (AZ (Hb U) c).map Ce.c = Jg (U.map Ce.c) c := by
 unfold AZ Hb Jg
 rw [List.find?_map, List.find?_map, Option.map_map, Option.map_map]
 rfl
theorem Jn (U : List Ce) (c : Int) : ((AZ (Hb U) c).getD default).c = Gu (U.map Ce.c) c := by
 unfold Gu
 rw [← PH]
 cases AZ (Hb U) c <;> rfl
theorem JK (U : List Ce) (c : Int) : (AZ (Hb U) c).isSome = (Jg (U.map Ce.c) c).isSome := by
 rw [← PH]
 cases AZ (Hb U) c <;> rfl
theorem Vp {U : List Ce} {c : Int} {y : Ce} (h : AZ (Hb U) c = some y) : y ∈ U := by
 unfold AZ at h
 obtain ⟨p, hp, rfl⟩ := Option.map_eq_some_iff.1 h
 obtain ⟨a, ha, rfl⟩ := List.mem_map.1 (List.mem_of_find?_eq_some hp)
 exact ha
theorem Ly {h : Hp} {U : List Ce} (hs : ∀ a ∈ U, RdL cD 2 h [] a.v a.c.sd) (c : Int) : RdL cD 2 h [] ((AZ (Hb U) c).getD default).v ((AZ (Hb U) c).getD default).c.sd := by
 cases hg : AZ (Hb U) c with
 | none => exact ⟨Rd.nil _ _ _, Cj⟩
 | some y => exact hs y (Vp hg)
theorem UI (U : List Ce) (x : Ce) (g : Nat) (hp : Hp) (hT : RdT hp g U) (hX : RdL cD 2 hp [] x.v x.c.sd) (hd : Bq x.c.dim) (hn : x.c.sd.length ≤ 1000000) (hi : ∀ s ∈ x.c.sd, Bq s.1 ∧ Bq s.2) : FnT Tryz.prog 117 #[.pointer (some ⟨g, 0, none⟩), .agg (cC x).toArray] hp [] (fun r _ _ => r = .int .i64 (Ds (U.map Ce.c) x.c)) := by
 have o2 := hX.rd.one
 show FnT _ _ #[.pointer (some ⟨g, 0, none⟩), .agg #[.int .i64 x.c.id, .int .i64 x.c.dim, x.v]] _ _ _
 refine Av func117 ntmps117 rfl rfl (fun w0 hw0 => ?_)
 simp only [A5]
 refine Az ?_
 refine A8 [_, _, _] rfl rfl (by rfl) rfl rfl rfl (fun g3 => ?_)
 refine Qm rfl (An (AA fun h1 l1 hS => ?_))
 have hT := hT.up l1
 have hX := hX.up l1
 have hA := Seg.all hS
 have a0 : ∀ ms, Cell h1 ms (⟨g3, 0, none⟩ : Addr) (.int .i64 x.c.id) := fun ms => hA 0 _ rfl ms
 have a1 : ∀ ms, Cell h1 ms (⟨g3, 1, none⟩ : Addr) (.int .i64 x.c.dim) := fun ms => hA 1 _ rfl ms
 have a2 : ∀ ms, Cell h1 ms (⟨g3, 2, none⟩ : Addr) x.v := fun ms => hA 2 _ rfl ms
 have hd1 := hd.1
 have hd2 := hd.2
 refine Az (Qf Bl rfl (Ql rfl underlying57 (a2 _) (Qx (AC hX.rd.any rfl underlying57 rfl) rfl (Qm rfl (An ?_)))))
 refine AV (fun sl h' ms' => sl = [(0, .pointer (some ⟨g, 0, none⟩)), (3, .pointer (some ⟨g3, 0, none⟩))] ∧ h1 = h' ∧ ms' = [] ∧ (0 ≤ x.c.dim ∧ x.c.dim ≤ 8) ∧ ¬ BD x.c) ?_ (fun s h ms hI => ?_)
 ·refine Ah (Az (Qf BC rfl (Ql rfl underlying3 (a1 _) (Qm rfl (Qm rfl ?_)))))
  refine AQ (t := 20) rfl (fun q1 => ?_) (fun q1 => ?_)
  ·refine Qk rfl (Qk rfl (Qk rfl (Qm rfl (Qm rfl (An (Bk rfl (Az (Qm rfl (An (Aq (Al (Ae ?_))))))))))))
   exact As rfl rfl (by unfold Ds; rw [if_pos (.inl q1)])
  ·refine Qg (oF BC rfl) rfl (Qg (oL rfl underlying3 (a1 _)) rfl (Qg (BY rfl rfl rfl) rfl (Qm rfl (Qm rfl (An ?_)))))
   refine Ax rfl (fun q2 => ?_) (fun q2 => ?_)
   ·refine Ac (Ab (Qm rfl (An (Aq (Al (Ae ?_))))))
    exact As rfl rfl (by unfold Ds; rw [if_pos (.inr q2)])
   ·have hdb : 0 ≤ x.c.dim ∧ x.c.dim ≤ 8 := by omega
    have e21 : ¬ (x.c.dim < 0 ∨ 8 < x.c.dim) := by omega
    have e22 : BD x.c → Ds (U.map Ce.c) x.c = 22 := fun h => by unfold Ds; rw [if_neg e21, if_pos h]
    refine Az (Qf BC rfl (Ql rfl underlying3 (a1 _) (Qm rfl (Qm rfl ?_))))
    refine AQ (t := 29) rfl (fun r0 => ?_) (fun r0 => ?_)
    ·refine Qg (Au rfl rfl) rfl (Qg (BY rfl rfl rfl) rfl (Qm rfl (Qm rfl ?_)))
     refine AQ (t := 33) rfl (fun r1 => ?_) (fun r1 => ?_)
     ·refine Qk rfl (Qk rfl (Qk rfl (Qk rfl (AP rfl rfl rfl rfl rfl rfl (AP rfl rfl rfl rfl rfl rfl (Qk rfl (Qm rfl (Qm rfl (Qk rfl (Qk rfl (Qk rfl (Qk rfl (AP rfl rfl rfl rfl rfl rfl (AP rfl rfl rfl rfl rfl rfl (AP rfl rfl rfl rfl rfl rfl (AP rfl rfl rfl rfl rfl rfl (AP rfl rfl rfl rfl rfl rfl (AP rfl rfl rfl rfl rfl rfl (Qk rfl (Qm rfl (Qm rfl (An (Bk rfl (Az (Qm rfl (An (Aq (Al (Ae ?_)))))))))))))))))))))))))))))
      exact As rfl rfl (by rw [e22 (.inl ⟨r0, by omega⟩)])
     ·refine Qg (oF BC rfl) rfl (Qg (oL rfl underlying3 (a1 _)) rfl (Qg (DD rfl rfl rfl) rfl (Qg (Au rfl rfl) rfl (AQ (t := 37) rfl (fun hs => absurd hs (by omega)) (fun hs => Qk rfl (Qk rfl (Qg (BS rfl rfl rfl) rfl (Qm rfl (Qm rfl (Qg (oF BC rfl) rfl (Qg (oL rfl underlying3 (a1 _)) rfl (Qg (BY rfl rfl rfl) rfl (Qg (Au rfl rfl) rfl (AQ (t := 46) rfl (fun hs => absurd hs (by omega)) (fun hs => Qk rfl (Qk rfl (Qk rfl (AP rfl rfl rfl rfl rfl rfl (AP rfl rfl rfl rfl rfl rfl (Qk rfl (Qg (BS rfl rfl rfl) rfl (Qm rfl (Qm rfl (An (AO rfl (Ai (Aj ?_)))))))))))))))))))))))))))
      exact Ay _ ⟨rfl, rfl, rfl, hdb, fun q => by unfold BD at q; omega⟩ Qs
    ·refine Qk rfl (Qk rfl (Qm rfl (Qm rfl (Qg (oF BC rfl) rfl (Qg (oL rfl underlying3 (a1 _)) rfl (Qg (DD rfl rfl rfl) rfl (Qg (Au rfl rfl) rfl ?_)))))))
     refine AQ (t := 37) rfl (fun r2 => ?_) (fun r2 => ?_)
     ·refine Qg (Au rfl rfl) rfl (Qg (DP rfl rfl rfl) rfl (Qg (B8 rfl rfl rfl) rfl (Qm rfl (Qm rfl ?_))))
      refine AQ (t := 42) rfl (fun r3 => ?_) (fun r3 => ?_)
      ·refine Qk rfl (Qk rfl (Qk rfl (Qk rfl (AP rfl rfl rfl rfl rfl rfl (AP rfl rfl rfl rfl rfl rfl (AP rfl rfl rfl rfl rfl rfl (AP rfl rfl rfl rfl rfl rfl (AP rfl rfl rfl rfl rfl rfl (AP rfl rfl rfl rfl rfl rfl (Qk rfl (Qm rfl (Qm rfl (An (Bk rfl (Az (Qm rfl (An (Aq (Al (Ae ?_))))))))))))))))))))
       exact As rfl rfl (by rw [e22 (.inr (.inl ⟨r2, by omega⟩))])
      ·refine Qg (oF BC rfl) rfl (Qg (oL rfl underlying3 (a1 _)) rfl (Qg (BY rfl rfl rfl) rfl (Qg (Au rfl rfl) rfl (AQ (t := 46) rfl (fun hs => absurd hs (by omega)) (fun hs => Qk rfl (Qk rfl (Qk rfl (AP rfl rfl rfl rfl rfl rfl (AP rfl rfl rfl rfl rfl rfl (Qk rfl (Qg (BS rfl rfl rfl) rfl (Qm rfl (Qm rfl (An (AO rfl (Ai (Aj ?_)))))))))))))))))
       exact Ay _ ⟨rfl, rfl, rfl, hdb, fun q => by unfold BD at q; omega⟩ Qs
     ·refine Qk rfl (Qk rfl (Qg (BS rfl rfl rfl) rfl (Qm rfl (Qm rfl (Qg (oF BC rfl) rfl (Qg (oL rfl underlying3 (a1 _)) rfl (Qg (BY rfl rfl rfl) rfl (Qg (Au rfl rfl) rfl ?_))))))))
      refine AQ (t := 46) rfl (fun hs => ?_) (fun hs => absurd (by omega) hs)
      refine Qg (Au rfl rfl) rfl (Qg (C0 rfl rfl rfl) rfl (Qg (Au rfl rfl) rfl ?_))
      refine AQ (t := 49) rfl (fun r4 => ?_) (fun r4 => ?_)
      ·refine Qk rfl (Qk rfl (Qg (B8 rfl rfl rfl) rfl (Qg (B8 rfl rfl rfl) rfl (Qm rfl (Qm rfl (An (Bk rfl (Az (Qm rfl (An (Aq (Al (Ae ?_)))))))))))))
       exact As rfl rfl (by rw [e22 (.inr (.inr ⟨by omega, by omega⟩))])
      ·refine Qg (Au rfl rfl) rfl (Qg (BY rfl rfl rfl) rfl (Qg (BS rfl rfl rfl) rfl (Qg (B8 rfl rfl rfl) rfl (Qm rfl (Qm rfl (An ?_))))))
       refine Ax rfl (fun r5 => ?_) (fun r5 => ?_)
       ·refine Ac (Ab (Qm rfl (An (Aq (Al (Ae ?_))))))
        exact As rfl rfl (by rw [e22 (.inr (.inr ⟨by omega, by omega⟩))])
       ·refine Ai (Aj ?_)
        exact Ay _ ⟨rfl, rfl, rfl, hdb, fun q => by unfold BD at q; omega⟩ Qs
 ·obtain ⟨rfl, rfl, rfl, hdb, hnb⟩ := hI
  have e21 : ¬ (x.c.dim < 0 ∨ 8 < x.c.dim) := by omega
  have e22 : ∀ i, i < x.c.sd.length → GL (U.map Ce.c) x.c i → Ds (U.map Ce.c) x.c = 22 := fun i h q => by
   unfold Ds
   rw [if_neg e21, if_neg hnb, if_pos fun w => w i h q]
  obtain ⟨gm, mM, bs, vids, hSg, hM, lm, hV, hsU⟩ := hT
  refine AV (fun sl h' ms' => sl = [(0, .pointer (some ⟨g, 0, none⟩)), (3, .pointer (some ⟨g3, 0, none⟩))] ∧ h1.le h' ∧ ms' = [] ∧ ∀ i, i < x.c.sd.length → ¬ GL (U.map Ce.c) x.c i) ?_ (fun s h ms hI => ?_)
  ·refine Ac (Ab (Qf Bl rfl (Ql rfl underlying57 (a2 _) (Qx (AC hX.rd.any rfl underlying57 rfl) rfl (Qm rfl (An (Ah ?_)))))))
   refine AD (fun q sl h' ms' => ∃ (i : Nat), q = x.c.sd.length - i ∧ sl = [(0, .pointer (some ⟨g, 0, none⟩)), (3, .pointer (some ⟨g3, 0, none⟩)), (56, x.v), (57, .int .i64 x.c.sd.length), (58, .int .i64 i)] ∧ h1.le h' ∧ ms' = [] ∧ i ≤ x.c.sd.length ∧ ∀ j, j < i → ¬ GL (U.map Ce.c) x.c j)
    (x.c.sd.length - 0) _ ⟨0, rfl, rfl, Hp.le_refl _, rfl, by omega, fun j h => by omega⟩ Qs ?_
   rintro q sl h2 ms' ⟨i, rfl, rfl, l2, rfl, hil, hno⟩
   have hX := hX.up l2
   refine Az (Qm rfl (An (Ac ?_)))
   refine Ax rfl (fun hlt => ?_) (fun hlt => ?_)
   ·have hil : i < x.c.sd.length := by omega
    obtain ⟨s, hs⟩ : ∃ s, x.c.sd[i] = s := ⟨_, rfl⟩
    have hsA : Bc x.c i = s := by rw [A4 hil, hs]
    have hsI := hi s (by rw [← hs]; exact List.getElem_mem hil)
    have hsx : ∀ ms, Seg h2 ms ((AI x.v).add (i * 2)) (cD s) := fun ms => by rw [← hs]; exact (hX.any (ms := ms)).seg hil
    refine Ai (Ad (Ac (Ah (Az (Qm rfl (Qx (Af (i) hX.rd.any rfl underlying57 AR rfl rfl (by omega) (by omega)) rfl (Qx (oG rfl underlying81 AR (hsx _)) rfl (C4 [.int .i64 0, .int .i64 0] rfl AR rfl rfl (fun g7 => Qm rfl ?_)))))))))
    refine Sa 0 [_, _] AR rfl (by simp [Value.oneCell']) ?_
    refine An (AA fun h3 l3 hS7 => ?_)
    have hX := hX.up l3
    have l13 := Hp.le_trans l2 l3
    have e7 := Seg.all hS7
    have e70 : ∀ ms, Cell h3 ms (⟨g7, 0, none⟩ : Addr) (.int .i64 s.1) := fun ms => e7 0 _ rfl ms
    have eT : ∀ ms, Cell h3 ms (⟨g, 0, none⟩ : Addr) (.map (some gm)) := fun ms => (Seg.all hSg 0 _ rfl ms).le l13
    obtain ⟨bb, hbb⟩ : ∃ bb, (AZ (Hb U) s.1).isSome = bb := ⟨_, rfl⟩
    obtain ⟨y, hy⟩ : ∃ y, (AZ (Hb U) s.1).getD default = y := ⟨_, rfl⟩
    have hyr := Ly hsU s.1
    rw [hy] at hyr
    have oyv := hyr.rd.one
    have hbb' : (Jg (U.map Ce.c) s.1).isSome = bb := by rw [← JK]; exact hbb
    have hyc : Gu (U.map Ce.c) s.1 = y.c := by rw [← Jn, hy]
    refine AV (fun sl h' ms' => ∃ g8 : Nat, sl = [(0, .pointer (some ⟨g, 0, none⟩)), (3, .pointer (some ⟨g3, 0, none⟩)), (6, .int .i64 i), (7, .pointer (some ⟨g7, 0, none⟩)), (8, .pointer (some ⟨g8, 0, none⟩)), (9, .bool bb), (56, x.v), (57, .int .i64 x.c.sd.length), (58, .int .i64 i)] ∧ h3 = h' ∧ ms' = [Bf g8 59 (cC y)]) ?_ (fun s h ms hI => ?_)
    ·refine B4 (n := 13) (bs := [true, true, true, true, true, true, true, true, true, true, false, false, false]) [true, true, true, true, true, true, true, true, true, true] CN (by kernel_rfl) (by kernel_rfl) rfl rfl (Qq rfl (Qq rfl (QF Gz rfl (QL rfl underlying113 (eT _) (QF Cc rfl (QL rfl underlying3 (e70 _) (Qp rfl (DG (V := vC) (z := (default : Ce)) s.1 hy hbb Ba hM (Hp.le_trans lm l13) rfl underlying113 Nk rfl rfl hsI.1) (Qq rfl (Qq rfl (Qq rfl ?_))))))))))
     unfold GI
     simp only [List.cons_append, List.nil_append]
     refine Qo 10 rfl (C4 [.int .i64 0, .int .i64 0, .slice none 0 0] rfl AH rfl rfl (fun g8 => Qw (Qo 11 rfl ?_)))
     refine Sa 0 [_, _, _] AH rfl (by simp [o2, oyv]) ?_
     refine Qw (Qo 12 rfl (Qm rfl (Qw (Qe ?_))))
     exact Ay _ ⟨g8, rfl, rfl, rfl⟩ Qs
    ·obtain ⟨g8, rfl, rfl, rfl⟩ := hI
     refine AA fun h4 l4 hS8 => ?_
     have hX := hX.up l4
     have e70 : ∀ ms, Cell h4 ms (⟨g7, 0, none⟩ : Addr) (.int .i64 s.1) := fun ms => (e70 ms).le l4
     have e81 : ∀ ms, Cell h4 ms (⟨g8, 1, none⟩ : Addr) (.int .i64 y.c.dim) := fun ms => Seg.all hS8 1 _ rfl ms
     have l14 := Hp.le_trans l13 l4
     have b1 : ∀ ms, Cell h4 ms (⟨g3, 1, none⟩ : Addr) (.int .i64 x.c.dim) := fun ms => (a1 ms).le l14
     have b2 : ∀ ms, Cell h4 ms (⟨g3, 2, none⟩ : Addr) x.v := fun ms => (a2 ms).le l14
     have hbad : GL (U.map Ce.c) x.c i ↔ bb = false ∨ y.c.dim ≠ x.c.dim - 1 ∨ (0 < i ∧ (Bc x.c (i - 1)).1 = s.1) := by
      unfold GL
      rw [hsA, hbb', hyc]
     have hstep : ¬ GL (U.map Ce.c) x.c i → ∀ j, j < i + 1 → ¬ GL (U.map Ce.c) x.c j := fun h j hj => by
      rcases (by omega : j < i ∨ j = i) with h1 | rfl
      ·exact hno j h1
      ·exact h
     refine Ac (Bb 23 CN (by kernel_rfl) rfl (Wm rfl (Wm rfl (Wm rfl ?_))))
     refine Q4 (t := 75) rfl (fun c1 => ?_) (fun c1 => ?_)
     ·have hbf : bb = false := by cases bb <;> simp at c1 ⊢
      refine Ap rfl rfl rfl rfl rfl (Ap rfl rfl rfl rfl rfl (Ap rfl rfl rfl rfl rfl (Ap rfl rfl rfl rfl rfl (Ap rfl rfl rfl rfl rfl (Ap rfl rfl rfl rfl rfl (Wm rfl (Wm rfl (Ap rfl rfl rfl rfl rfl (Ap rfl rfl rfl rfl rfl (Ap rfl rfl rfl rfl rfl (AL rfl rfl rfl rfl (AL rfl rfl rfl rfl (AL rfl rfl rfl rfl (AL rfl rfl rfl rfl (AL rfl rfl rfl rfl (AL rfl rfl rfl rfl (AL rfl rfl rfl rfl (AL rfl rfl rfl rfl (AL rfl rfl rfl rfl (AU (AP rfl rfl rfl rfl rfl rfl (Qk rfl (Qm rfl (An (Bk rfl (Az (Qm rfl (An (Aq (Al (Ae (Ae (Al (Ae ?_))))))))))))))))))))))))))))))))))
      exact As rfl rfl (by rw [e22 i hil (hbad.2 (.inl hbf))])
     ·have hbt : bb = true := by cases bb <;> simp at c1 ⊢
      refine AF (oF BC rfl) rfl rfl rfl rfl (AF (oL rfl underlying3 (e81 _)) rfl rfl rfl rfl (AF (oF BC rfl) rfl rfl rfl rfl (AF (oL rfl underlying3 (b1 _)) rfl rfl rfl rfl (AF (oS rfl) rfl rfl rfl rfl (AF (DP rfl rfl rfl) rfl rfl rfl rfl (Wm rfl (Wm rfl ?_)))))))
      refine BV (t := 83) rfl (fun c2 => ?_) (fun c2 => ?_)
      ·refine Ap rfl rfl rfl rfl rfl (Ap rfl rfl rfl rfl rfl (Ap rfl rfl rfl rfl rfl (AL rfl rfl rfl rfl (AL rfl rfl rfl rfl (AL rfl rfl rfl rfl (AL rfl rfl rfl rfl (AL rfl rfl rfl rfl (AL rfl rfl rfl rfl (AL rfl rfl rfl rfl (AL rfl rfl rfl rfl (AL rfl rfl rfl rfl (AU (AP rfl rfl rfl rfl rfl rfl (Qk rfl (Qm rfl (An (Bk rfl (Az (Qm rfl (An (Aq (Al (Ae (Ae (Al (Ae ?_))))))))))))))))))))))))))
       exact As rfl rfl (by rw [e22 i hil (hbad.2 (.inr (.inl c2)))])
      ·refine AF (Au rfl rfl) rfl rfl rfl rfl (AF (BY rfl rfl rfl) rfl rfl rfl rfl (AF (Au rfl rfl) rfl rfl rfl rfl ?_))
       refine BV (t := 86) rfl (fun c3 => ?_) (fun c3 => ?_)
       ·have hi1 : i - 1 < x.c.sd.length := by omega
        obtain ⟨s', hs'⟩ : ∃ s', x.c.sd[i - 1] = s' := ⟨_, rfl⟩
        have hsA' : Bc x.c (i - 1) = s' := by rw [A4 hi1, hs']
        have r0 : ∀ ms, Cell h4 ms ((AI x.v).add ((i - 1) * 2)) (.int .i64 s'.1) := fun ms => by rw [← hs']; exact (hX.any (ms := ms)).cell0 hi1 rfl
        refine AF (oF Bl rfl) rfl rfl rfl rfl (AF (oL rfl underlying57 (b2 _)) rfl rfl rfl rfl (AF (Au rfl rfl) rfl rfl rfl rfl (AF (oS rfl) rfl rfl rfl rfl (AF (Af (i - 1) hX.rd.any rfl underlying57 AR rfl rfl (by omega) (by omega)) rfl rfl rfl rfl (AF (oF Cc rfl) rfl rfl rfl rfl (AF (oL rfl underlying3 (r0 _)) rfl rfl rfl rfl (AF (oF Cc rfl) rfl rfl rfl rfl (AF (oL rfl underlying3 (e70 _)) rfl rfl rfl rfl (AU (Qg (DD rfl rfl rfl) rfl (Qg (B8 rfl rfl rfl) rfl (Qm rfl (An ?_)))))))))))))
        refine Ax rfl (fun c4 => ?_) (fun c4 => ?_)
        ·refine Ac (Ab (Qm rfl (An (Aq (Al (Ae (Ae (Al (Ae ?_)))))))))
         exact As rfl rfl (by rw [e22 i hil (hbad.2 (.inr (.inr ⟨by omega, by rw [hsA']; exact c4⟩)))])
        ·have hok : ¬ GL (U.map Ce.c) x.c i := fun q => by
          rcases hbad.1 q with q | q | ⟨_, q⟩
          ·rw [hbt] at q; cases q
          ·exact c2 q
          ·rw [hsA'] at q; exact c4 q
         refine Ai (Aj (Ad (Ab (Qx (oA rfl) rfl (Qm rfl (Ak ?_))))))
         exact Am (x.c.sd.length - (i + 1)) _ (by omega) ⟨i + 1, rfl, rfl, l14, rfl, by omega, hstep hok⟩ Qs
       ·have hok : ¬ GL (U.map Ce.c) x.c i := fun q => by
         rcases hbad.1 q with q | q | ⟨q, _⟩
         ·rw [hbt] at q; cases q
         ·exact c2 q
         ·omega
        refine Ap rfl rfl rfl rfl rfl (Ap rfl rfl rfl rfl rfl (Ap rfl rfl rfl rfl rfl (Ap rfl rfl rfl rfl rfl (Ap rfl rfl rfl rfl rfl (Ap rfl rfl rfl rfl rfl (Ap rfl rfl rfl rfl rfl (Ap rfl rfl rfl rfl rfl (Ap rfl rfl rfl rfl rfl (AU (Qk rfl (Qg (BS rfl rfl rfl) rfl (Qm rfl (An (AO rfl (Ai (Aj (Ad (Ab (Qx (oA rfl) rfl (Qm rfl (Ak ?_)))))))))))))))))))))
        exact Am (x.c.sd.length - (i + 1)) _ (by omega) ⟨i + 1, rfl, rfl, l14, rfl, by omega, hstep hok⟩ Qs
   ·obtain rfl : i = x.c.sd.length := by omega
    refine Aw (Aa (Aa (Ag ?_)))
    exact Ay _ ⟨rfl, l2, rfl, hno⟩ Qs
  ·obtain ⟨rfl, l2, rfl, hno⟩ := hI
   have hX := hX.up l2
   have BQ : ¬ ¬ ∀ i, i < x.c.sd.length → ¬ GL (U.map Ce.c) x.c i := fun q => q hno
   have e23 : ∀ i, i < x.c.sd.length → Bw x.c i → Ds (U.map Ce.c) x.c = 23 := fun i h q => by
    unfold Ds
    rw [if_neg e21, if_neg hnb, if_neg BQ, if_pos fun w => w i h q]
   have b1 : ∀ ms, Cell h ms (⟨g3, 1, none⟩ : Addr) (.int .i64 x.c.dim) := fun ms => (a1 ms).le l2
   have b2 : ∀ ms, Cell h ms (⟨g3, 2, none⟩ : Addr) x.v := fun ms => (a2 ms).le l2
   refine Az (Qm rfl (An (Ac (Az (Qf Bl rfl (Ql rfl underlying57 (b2 _) (Qx (AC hX.rd.any rfl underlying57 rfl) rfl (Qm rfl (An (Ah ?_))))))))))
   refine AD (fun q sl h' ms' => ∃ (i : Nat), q = x.c.sd.length - i ∧ sl = [(3, .pointer (some ⟨g3, 0, none⟩)), (10, .int .i64 (UD x.c i)), (101, x.v), (102, .int .i64 x.c.sd.length), (103, .int .i64 i)] ∧ h.le h' ∧ ms' = [] ∧ i ≤ x.c.sd.length ∧ (-(i : Int) ≤ UD x.c i ∧ UD x.c i ≤ i) ∧ ∀ j, j < i → ¬ Bw x.c j)
    (x.c.sd.length - 0) _ ⟨0, rfl, rfl, Hp.le_refl _, rfl, by omega, by simp [UD], fun j h => by omega⟩ Qs ?_
   rintro q sl h3 ms' ⟨i, rfl, rfl, l3, rfl, hil, hsb, hns⟩
   have hX := hX.up l3
   have b1 : ∀ ms, Cell h3 ms (⟨g3, 1, none⟩ : Addr) (.int .i64 x.c.dim) := fun ms => (b1 ms).le l3
   refine Az (Qm rfl (An (Ac ?_)))
   refine Ax rfl (fun hlt => ?_) (fun hlt => ?_)
   ·have hil : i < x.c.sd.length := by omega
    obtain ⟨s, hs⟩ : ∃ s, x.c.sd[i] = s := ⟨_, rfl⟩
    have hsA : Bc x.c i = s := by rw [A4 hil, hs]
    have hsI := (hi s (by rw [← hs]; exact List.getElem_mem hil)).2
    have hsx : ∀ ms, Seg h3 ms ((AI x.v).add (i * 2)) (cD s) := fun ms => by rw [← hs]; exact (hX.any (ms := ms)).seg hil
    have hss := SO hil
    rw [hs] at hss
    have hbs : Bw x.c i ↔ s.2 ≠ 1 ∧ s.2 ≠ -1 := by unfold Bw; rw [hsA]
    have hstep : ¬ Bw x.c i → ∀ j, j < i + 1 → ¬ Bw x.c j := fun h j hj => by
     rcases (by omega : j < i ∨ j = i) with h1 | rfl
     ·exact hns j h1
     ·exact h
    refine Ai (Ad (Ac (Ah (Az (Qx (Af (i) hX.rd.any rfl underlying57 AR rfl rfl (by omega) (by omega)) rfl (Qx (oG rfl underlying81 AR (hsx _)) rfl (C4 [.int .i64 0, .int .i64 0] rfl AR rfl rfl (fun g12 => ?_))))))))
    refine Sa 0 [_, _] AR rfl (by simp [Value.oneCell']) ?_
    refine An (AA fun h4 l4 hS12 => ?_)
    have e12 : ∀ ms, Cell h4 ms (⟨g12, 1, none⟩ : Addr) (.int .i64 s.2) := fun ms => Seg.all hS12 1 _ rfl ms
    refine Ac (Az (Qf Cv rfl (Ql rfl underlying3 (e12 _) (Qm rfl (Qm rfl ?_)))))
    refine AQ (t := 110) rfl (fun c1 => ?_) (fun c1 => ?_)
    ·refine Qg (oF Cv rfl) rfl (Qg (oL rfl underlying3 (e12 _)) rfl (Qg (DP rfl rfl rfl) rfl (Qm rfl (An ?_))))
     refine Ax rfl (fun c2 => ?_) (fun c2 => ?_)
     ·refine Ac (Ab (Qm rfl (An (Aq (Ae (Al (Ae (Ae (Al (Ae ?_))))))))))
      exact As rfl rfl (by rw [e23 i hil (hbs.2 ⟨c1, c2⟩)])
     ·have hok : ¬ Bw x.c i := fun q => c2 (hbs.1 q).2
      have h2 : s.2 = -1 := by omega
      refine Ai (Ad (Ab (Qm rfl (Qf Cv rfl (Ql rfl underlying3 (e12 _) (Qx (oA rfl) rfl (Qm rfl (Ak (Aj (Ad (Ab (Qx (oA rfl) rfl (Qm rfl (Ak ?_))))))))))))))
      exact Am (x.c.sd.length - (i + 1)) _ (by omega) ⟨i + 1, rfl, by rw [hss], Hp.le_trans l3 l4, rfl, by omega, by rw [hss]; omega, hstep hok⟩ Qs
    ·have h2 : s.2 = 1 := by omega
     have hok : ¬ Bw x.c i := fun q => (hbs.1 q).1 h2
     refine Qk rfl (Qk rfl (Qk rfl (Qm rfl (An (AO rfl (Ai (Ad (Ab (Qm rfl (Qf Cv rfl (Ql rfl underlying3 (e12 _) (Qx (oA rfl) rfl (Qm rfl (Ak (Aj (Ad (Ab (Qx (oA rfl) rfl (Qm rfl (Ak ?_))))))))))))))))))))
     exact Am (x.c.sd.length - (i + 1)) _ (by omega) ⟨i + 1, rfl, by rw [hss], Hp.le_trans l3 l4, rfl, by omega, by rw [hss]; omega, hstep hok⟩ Qs
   ·obtain rfl : i = x.c.sd.length := by omega
    have hs0 : ¬ ¬ ∀ i, i < x.c.sd.length → ¬ Bw x.c i := fun q => q hns
    refine Aw (Aa (Aa (Ag (Ad (Ac (Az (Qf BC rfl (Ql rfl underlying3 (b1 _) (Qm rfl (Qm rfl ?_))))))))))
    refine AQ (t := 123) rfl (fun c1 => ?_) (fun c1 => ?_)
    ·refine Qg (Au rfl rfl) rfl (Qg (DP rfl rfl rfl) rfl (Qm rfl (An ?_)))
     refine Ax rfl (fun c2 => ?_) (fun c2 => ?_)
     ·refine Ac (Ab (Qm rfl (An (Aq (Ae ?_)))))
      exact As rfl rfl (by unfold Ds; rw [if_neg e21, if_neg hnb, if_neg BQ, if_neg hs0, if_pos ⟨c1, c2⟩])
     ·refine Ai (Ad (Az (Qm rfl (An (Aq ?_)))))
      exact As rfl rfl (by unfold Ds; rw [if_neg e21, if_neg hnb, if_neg BQ, if_neg hs0, if_neg fun q => c2 q.2])
    ·refine Qk rfl (Qk rfl (Qm rfl (An (AO rfl (Ai (Ad (Az (Qm rfl (An (Aq ?_))))))))))
     exact As rfl rfl (by unfold Ds; rw [if_neg e21, if_neg hnb, if_neg BQ, if_neg hs0, if_neg fun q => c1 q.1])
end Go.Proofs.YtodheebhahdepaaGreat

namespace Go.Proofs.YtodheebhahdepaaGreat
open Go.Eng Go.RowKit
def Ug (U : List Cl) (x : Cl) (i : Nat) : Fo := (Gu U (Bc x i).1).sd.map fun r => ((i : Int), r.1, (Bc x i).2 * r.2)
def IM (U : List Cl) (x : Cl) (m : Nat) : Fo := (List.range m).flatMap (Ug U x)
theorem NS (U : List Cl) (x : Cl) (m : Nat) : IM U x (m + 1) = IM U x m ++ Ug U x m := by
 unfold IM
 rw [List.range_succ, List.flatMap_append]; simp
theorem Mh (U : List Cl) (x : Cl) (h : ∀ i, i < x.sd.length → (Gu U (Bc x i).1).sd.length ≤ 64) : ∀ m, m ≤ x.sd.length → (IM U x m).length ≤ 64 * m
 | 0, _ => by simp [IM]
 | m + 1, hm => by
  have := Mh U x h m (by omega)
  have := h m (by omega)
  rw [NS, List.length_append]
  unfold Ug
  rw [List.length_map]; omega
def Cm (E : Fo) : List (Int × Int) := E.foldl (fun T e => Cr T e.2.1 ((AZ T e.2.1).getD 0 + e.2.2)) []
def E6 (E : Fo) : List (Int × List Int) := E.foldl (fun T e => Cr T e.2.1 ((AZ T e.2.1).getD [] ++ [e.1])) []
theorem FH (E : Fo) (e : Int × Int × Int) : Cm (E ++ [e]) = Cr (Cm E) e.2.1 ((AZ (Cm E) e.2.1).getD 0 + e.2.2) := by unfold Cm; rw [List.foldl_append]; rfl
theorem Fc (E : Fo) (e : Int × Int × Int) : E6 (E ++ [e]) = Cr (E6 E) e.2.1 ((AZ (E6 E) e.2.1).getD [] ++ [e.1]) := by unfold E6; rw [List.foldl_append]; rfl
theorem Co {α : Type} {P : List α → Prop} (h0 : P []) (h1 : ∀ l a, P l → P (l ++ [a])) (l : List α) : P l := by
 have : ∀ r : List α, P r.reverse := fun r => by
  induction r with
  | nil => exact h0
  | cons a r ih => rw [List.reverse_cons]; exact h1 _ _ ih
 have := this l.reverse
 rwa [List.reverse_reverse] at this
theorem ID (c : Int) : ∀ E : Fo, (AZ (Cm E) c).getD 0 = Dy E c := Co rfl fun E e ih => by
 rw [FH, CF, K2]
 by_cases h : c = e.2.1
 ·subst h; rw [if_pos rfl, if_pos rfl, ← ih]; rfl
 ·rw [if_neg h, if_neg (fun q => h q.symm), ih, Int.add_zero]
theorem Dg {ν : Type} (T : List (Int × ν)) (a : Int) (x : ν) (c : Int) : c ∈ (Cr T a x).map Prod.fst ↔ c = a ∨ c ∈ T.map Prod.fst := by
 unfold Cr
 split
 ·rename_i h
  have e : (T.map fun p => if p.1 = a then (a, x) else p).map Prod.fst = T.map Prod.fst := by
   rw [List.map_map]
   refine List.map_congr_left fun p _ => ?_
   show (if p.1 = a then (a, x) else p).1 = p.1
   by_cases q : p.1 = a
   ·rw [if_pos q]; exact q.symm
   ·rw [if_neg q]
  rw [e]
  exact ⟨.inr, fun q => by rcases q with rfl | q; exact h; exact q⟩
 ·rw [List.map_append, List.mem_append]
  simp only [List.map_cons, List.map_nil, List.mem_singleton]
  exact ⟨fun q => q.symm, fun q => q.symm⟩
theorem J2 (c : Int) : ∀ E : Fo, c ∈ (Cm E).map Prod.fst ↔ ∃ e ∈ E, e.2.1 = c := Co ⟨fun h => by simp [Cm] at h, fun ⟨e, he, _⟩ => by cases he⟩ fun E e ih => by
 rw [FH, Dg, ih]
 constructor
 ·rintro (rfl | ⟨e', he, h⟩)
  ·exact ⟨e, List.mem_append_right _ (List.Mem.head _), rfl⟩
  ·exact ⟨e', List.mem_append_left _ he, h⟩
 ·rintro ⟨e', he, h⟩
  rcases List.mem_append.1 he with he | he
  ·exact .inr ⟨e', he, h⟩
  ·rw [List.mem_singleton.1 he] at h; exact .inl h.symm
theorem Rn (c : Int) : ∀ E : Fo, c ∈ (E6 E).map Prod.fst ↔ ∃ e ∈ E, e.2.1 = c := Co ⟨fun h => by simp [E6] at h, fun ⟨e, he, _⟩ => by cases he⟩ fun E e ih => by
 rw [Fc, Dg, ih]
 constructor
 ·rintro (rfl | ⟨e', he, h⟩)
  ·exact ⟨e, List.mem_append_right _ (List.Mem.head _), rfl⟩
  ·exact ⟨e', List.mem_append_left _ he, h⟩
 ·rintro ⟨e', he, h⟩
  rcases List.mem_append.1 he with he | he
  ·exact .inr ⟨e', he, h⟩
  ·rw [List.mem_singleton.1 he] at h; exact .inl h.symm
theorem NZ (c : Int) : ∀ E : Fo, (AZ (E6 E) c).getD [] = (E.filter fun e => decide (e.2.1 = c)).map fun e => e.1 := Co rfl fun E e ih => by
 rw [Fc, CF, List.filter_append, List.map_append, ← ih]
 by_cases h : c = e.2.1
 ·subst h; rw [if_pos rfl]; simp
 ·rw [if_neg h]; simp [Ne.symm h]
theorem Hg (E : Fo) (c : Int) : EK E c = ((E.filter fun e => decide (e.2.1 = c)).length : Int) := by
 induction E with
 | nil => rfl
 | cons e E ih =>
  unfold EK at *
  rw [List.map_cons, List.sum_cons, ih, List.filter_cons]
  by_cases h : e.2.1 = c
  ·simp [h]; omega
  ·simp [h]
theorem Wz (E : Fo) (c : Int) (h : ∀ e ∈ E, e.2.2 = 1 ∨ e.2.2 = -1) : -(E.length : Int) ≤ Dy E c ∧ Dy E c ≤ E.length := by
 induction E with
 | nil => exact ⟨Int.le_refl _, Int.le_refl _⟩
 | cons e E ih =>
  have h1 := ih fun e he => h e (List.mem_cons_of_mem _ he)
  have h2 := h e (List.Mem.head _)
  unfold Dy at *
  rw [List.map_cons, List.sum_cons, List.length_cons]
  split <;> omega
theorem PQ (E : Fo) : ((Cm E).map Prod.fst).Nodup := by
 refine Co (P := fun E => ((Cm E).map Prod.fst).Nodup) (by simp [Cm]) (fun E e ih => ?_) E
 rw [FH]; exact Gq ih _ _
theorem WZ (E : Fo) : ((E6 E).map Prod.fst).Nodup := by
 refine Co (P := fun E => ((E6 E).map Prod.fst).Nodup) (by simp [E6]) (fun E e ih => ?_) E
 rw [Fc]; exact Gq ih _ _
def Eb (T : List (Int × List Int)) (a b : Int) : List (Int × List Int) := Cr T a ((AZ T a).getD [] ++ [b])
def DZ (P : List (Int × Int)) : List (Int × List Int) := P.foldl (fun T p => Eb (Eb T p.1 p.2) p.2 p.1) []
theorem Hd (P : List (Int × Int)) (p : Int × Int) : DZ (P ++ [p]) = Eb (Eb (DZ P) p.1 p.2) p.2 p.1 := by unfold DZ; rw [List.foldl_append]; rfl
theorem KW (T : List (Int × List Int)) (a b c k : Int) : k ∈ (AZ (Eb T a b) c).getD [] ↔ k ∈ (AZ T c).getD [] ∨ (c = a ∧ k = b) := by
 unfold Eb
 rw [CF]
 by_cases h : c = a
 ·subst h; simp
 ·simp [h]
theorem Sf (c k : Int) : ∀ P : List (Int × Int), k ∈ (AZ (DZ P) c).getD [] ↔ (c, k) ∈ P ∨ (k, c) ∈ P := Co ⟨fun h => by simp [DZ, AZ] at h, fun h => by simp at h⟩ fun P p ih => by
 rw [Hd, KW, KW, ih, List.mem_append, List.mem_append, List.mem_singleton, List.mem_singleton]
 constructor
 ·rintro ((h | ⟨rfl, rfl⟩) | ⟨rfl, rfl⟩)
  ·rcases h with h | h
   ·exact .inl (.inl h)
   ·exact .inr (.inl h)
  ·exact .inl (.inr rfl)
  ·exact .inr (.inr rfl)
 ·rintro ((h | rfl) | (h | rfl))
  ·exact .inl (.inl (.inl h))
  ·exact .inl (.inr ⟨rfl, rfl⟩)
  ·exact .inl (.inl (.inr h))
  ·exact .inr ⟨rfl, rfl⟩
theorem Ip (T : List (Int × List Int)) (a b : Int) (B : Nat) (h : ∀ c, ((AZ T c).getD []).length ≤ B) : ∀ c, ((AZ (Eb T a b) c).getD []).length ≤ B + 1 := fun c => by
 unfold Eb
 rw [CF]
 have h1 := h c
 by_cases e : c = a
 ·subst e; simp; omega
 ·rw [if_neg e]; omega
theorem Lr : ∀ P : List (Int × Int), ∀ c, ((AZ (DZ P) c).getD []).length ≤ 2 * P.length := Co (fun c => by simp [DZ, AZ]) fun P p ih c => by
 rw [Hd, List.length_append, List.length_singleton]
 have := Ip _ p.2 p.1 _ (Ip _ p.1 p.2 _ ih) c
 omega
inductive Rch (J : Int → List Int) : Int → Int → Prop
 | refl (a : Int) : Rch J a a
 | step {a b k : Int} : Rch J a b → k ∈ J b → Rch J a k
theorem Rch.trans {J : Int → List Int} {a b c : Int} (h : Rch J a b) (h' : Rch J b c) : Rch J a c := by
 induction h' with
 | refl => exact h
 | step _ h1 ih => exact .step ih h1
theorem U7 {E : Fo} (h2 : ∀ e ∈ E, EK E e.2.1 = 2) {J : Int → List Int} (hJ : ∀ a k, k ∈ J a ↔ ∃ c p q, (E.filter fun e => decide (e.2.1 = c)).map (fun e => e.1) = [p, q] ∧ ((a = p ∧ k = q) ∨ (a = q ∧ k = p))) (a b : Int) : Con E a b ↔ Rch J a b := by
 have hin : ∀ {c p : Int} {l}, (E.filter fun e => decide (e.2.1 = c)).map (fun e => e.1) = l → p ∈ l → ∃ w, (p, c, w) ∈ E := fun {c p l} e hp => by
  rw [← e] at hp
  obtain ⟨x, hx, rfl⟩ := List.mem_map.1 hp
  obtain ⟨h3, h4⟩ := List.mem_filter.1 hx
  have h4 := of_decide_eq_true h4
  exact ⟨x.2.2, by rw [← h4]; exact h3⟩
 constructor
 ·intro h
  induction h with
  | refl => exact .refl _
  | @step b d c w w' _ h3 h4 ih =>
   have hc := h2 _ h3
   rw [Hg] at hc
   obtain ⟨L, hL⟩ : ∃ L, (E.filter fun e => decide (e.2.1 = c)).map (fun e => e.1) = L := ⟨_, rfl⟩
   have hl : L.length = 2 := by rw [← hL, List.length_map]; have hc : ((E.filter fun e => decide (e.2.1 = c)).length : Int) = 2 := hc; omega
   match L, hl with
   | [p, q], _ =>
    have m1 : b ∈ [p, q] := by rw [← hL]; exact List.mem_map.2 ⟨_, List.mem_filter.2 ⟨h3, decide_eq_true rfl⟩, rfl⟩
    have m2 : d ∈ [p, q] := by rw [← hL]; exact List.mem_map.2 ⟨_, List.mem_filter.2 ⟨h4, decide_eq_true rfl⟩, rfl⟩
    simp only [List.mem_cons, List.not_mem_nil, or_false] at m1 m2
    by_cases e : b = d
    ·subst e; exact ih
    ·refine .step ih ((hJ b d).2 ⟨c, p, q, hL, ?_⟩)
     rcases m1 with m1 | m1 <;> rcases m2 with m2 | m2
     ·exact absurd (m1.trans m2.symm) e
     ·exact .inl ⟨m1, m2⟩
     ·exact .inr ⟨m1, m2⟩
     ·exact absurd (m1.trans m2.symm) e
 ·intro h
  induction h with
  | refl => exact .refl _
  | @step b k _ h3 ih =>
   obtain ⟨c, p, q, hL, h4⟩ := (hJ b k).1 h3
   obtain ⟨w1, m1⟩ := hin hL (List.Mem.head _)
   obtain ⟨w2, m2⟩ := hin hL (List.mem_cons_of_mem _ (List.Mem.head _))
   rcases h4 with ⟨rfl, rfl⟩ | ⟨rfl, rfl⟩
   ·exact .step ih m1 m2
   ·exact .step ih m2 m1
noncomputable def Ut (E : Fo) (n : Nat) : Int :=
 open Classical in
 if ¬ ∀ e ∈ E, Dy E e.2.1 = 0 then 24
 else if ¬ ∀ e ∈ E, EK E e.2.1 = 2 then 25
 else if ¬ (0 < n ∧ ∀ i : Nat, i < n → Con E 0 i) then 25 else 0
open Go.Proofs.Tryz
variable {T : List (Int × Bool)} {n : Nat}
def vB (b : Bool) : Value := .bool b
theorem PY (w : World) : (zeroValue 4).run Tryz.prog w = .ok (vB false) w := by rfl
theorem JD (w : World) : (zeroValue 25).run Tryz.prog w = .ok (KN (.slice none 0 0)) w := by rfl
abbrev C3 (T : List (Int × Bool)) : List Int := T.map Prod.fst
def Je (T : List (Int × Bool)) : Prop := ∀ p ∈ T, p.2 = true
theorem HX (h : Je T) (a : Int) : (AZ T a).getD false = decide (a ∈ C3 T) := by
 by_cases ha : a ∈ C3 T
 ·rw [decide_eq_true ha]
  cases hg : AZ T a with
  | none =>
   exfalso
   unfold AZ at hg
   rw [Option.map_eq_none_iff, List.find?_eq_none] at hg
   obtain ⟨p, hp, e⟩ := List.mem_map.1 ha
   have := hg p hp
   simp [e] at this
  | some b =>
   unfold AZ at hg
   obtain ⟨p, hp, rfl⟩ := Option.map_eq_some_iff.1 hg
   exact h p (List.mem_of_find?_eq_some hp)
 ·rw [decide_eq_false ha, Ck ha]; rfl
theorem J9 (h : Je T) (a : Int) : Je (Cr T a true) := fun p hp => by
 unfold Cr at hp
 split at hp
 ·obtain ⟨q, hq, rfl⟩ := List.mem_map.1 hp
  split
  ·rfl
  ·exact h q hq
 ·rcases List.mem_append.1 hp with hp | hp
  ·exact h p hp
  ·rw [List.mem_singleton.1 hp]
def WW (n : Nat) (T : List (Int × Bool)) : Nat := ((List.range n).filter fun (j : Nat) => decide ((j : Int) ∉ C3 T)).length
theorem TH {T' : List (Int × Bool)} (h : ∀ x ∈ C3 T, x ∈ C3 T') : WW n T' ≤ WW n T := by
 refine Go.Kuhn.nodup_le _ _ (List.Pairwise.filter _ List.nodup_range) fun x hx => ?_
 obtain ⟨h1, h2⟩ := List.mem_filter.1 hx
 exact List.mem_filter.2 ⟨h1, decide_eq_true fun q => of_decide_eq_true h2 (h _ q)⟩
theorem Wr {i : Nat} (hi : i < n) (hn : (i : Int) ∉ C3 T) (b : Bool) : WW n (Cr T (i : Int) b) + 1 ≤ WW n T := by
 have h1 : (i :: (List.range n).filter fun (j : Nat) => decide ((j : Int) ∉ C3 (Cr T (i : Int) b))).Nodup := by
  refine List.nodup_cons.2 ⟨fun q => ?_, List.Pairwise.filter _ List.nodup_range⟩
  have := of_decide_eq_true (List.mem_filter.1 q).2
  exact this ((Dg T _ _ _).2 (.inl rfl))
 have h2 := Go.Kuhn.nodup_le _ ((List.range n).filter fun (j : Nat) => decide ((j : Int) ∉ C3 T)) h1 fun x hx => by
  rcases List.mem_cons.1 hx with rfl | hx
  ·exact List.mem_filter.2 ⟨List.mem_range.2 hi, decide_eq_true hn⟩
  ·obtain ⟨h3, h4⟩ := List.mem_filter.1 hx
   exact List.mem_filter.2 ⟨h3, decide_eq_true fun q => of_decide_eq_true h4 ((Dg T _ _ _).2 (.inr q))⟩
 unfold WW
 rw [List.length_cons] at h2
 exact h2
structure Xo (J : Int → List Int) (n : Nat) (T T' : List (Int × Bool)) (i : Int) : Prop where
 sub : ∀ x ∈ C3 T, x ∈ C3 T'
 me : i ∈ C3 T'
 new : ∀ x ∈ C3 T', x ∉ C3 T → (Rch J i x ∧ ∀ k ∈ J x, k ∈ C3 T') ∧ 0 ≤ x ∧ x < n
structure Xl (h : Hp) (gS gJ g16 g13 g17 : Nat) (mM mB : Hp) (TJ : List (Int × List Int)) (J : Int → List Int) (n : Nat) : Prop where
 s : ∀ ms, Cell h ms (⟨g16, 0, none⟩ : Addr) (.map (some gS))
 j : ∀ ms, Cell h ms (⟨g13, 0, none⟩ : Addr) (.map (some gJ))
 f : ∀ ms, Cell h ms (⟨g17, 0, none⟩ : Addr) (.func (.func 131) #[] #[.pointer (some ⟨g16, 0, none⟩), .pointer (some ⟨g13, 0, none⟩), .pointer (some ⟨g17, 0, none⟩)])
 m : OwnMS gJ mM mB TJ
 lM : mM.le h
 lB : mB.le h
 e : ∀ a, J a = (AZ TJ a).getD []
 nb : ∀ a, ∀ k ∈ J a, 0 ≤ k ∧ k < n
 l : ∀ a, (J a).length ≤ 1000000
 b : n ≤ 1000000
theorem TM {h : Hp} {gS gJ g16 g13 g17 : Nat} {mM mB : Hp} {TJ : List (Int × List Int)} {J : Int → List Int} (V : Xl h gS gJ g16 g13 g17 mM mB TJ J n) : ∀ (F : Nat) (i : Nat) (T : List (Int × Bool)) (bs : List Nat) (mS : Hp), i < n → BK kN vB gS Bq mS T bs → Je T → WW n T < F → FnT Tryz.prog 131 #[.int .i64 i, .pointer (some ⟨g16, 0, none⟩), .pointer (some ⟨g13, 0, none⟩), .pointer (some ⟨g17, 0, none⟩)] h [mS] (fun _ h' ms' => h = h' ∧ ∃ mS' T' bs', ms' = [mS'] ∧ BK kN vB gS Bq mS' T' bs' ∧ Je T' ∧ Xo J n T T' i) := by
 intro F
 induction F with
 | zero =>
  intro i T bs mS hi hO hA hF
  omega
 | succ F ih =>
  intro i T bs mS hi hO hA hF
  have hb := V.b
  have hiI : Bq (i : Int) := by unfold Bq; omega
  have hs1 := V.s
  have hj1 := V.j
  have hf1 := V.f
  refine Av func131 ntmps131 rfl rfl (fun w0 hw0 => ?_)
  simp only [A5]
  refine Az (Ql rfl underlying92 (hs1 _) (Qm rfl ?_))
  refine Qx (Fp (V := vB) (z := false) (i : Int) Ba hO (by simp) rfl underlying92 PY rfl rfl hiI) rfl ?_
  rw [HX hA]
  refine Qm rfl (An ?_)
  refine Bu rfl (fun hn => ?_) (fun hn => ?_)
  ·have hni : (i : Int) ∉ C3 T := fun q => by rw [decide_eq_true q] at hn; cases hn
   obtain ⟨Tv, bsv, hMv, hKv, _, hRv⟩ := V.m.look V.lB
   obtain ⟨vL, hvL⟩ : ∃ vL, (AZ Tv (i : Int)).getD (.slice none 0 0) = vL := ⟨_, rfl⟩
   have hRL := hRv (i : Int)
   rw [hvL, ← V.e] at hRL
   have ovL := hRL.rd.one
   have hLl := V.l (i : Int)
   have hLn := V.nb (i : Int)
   obtain ⟨L, hL⟩ : ∃ L, J (i : Int) = L := ⟨_, rfl⟩
   rw [hL] at hRL hLl hLn
   refine Az (Ql rfl underlying92 (hs1 _) (Qm rfl (Bp (V := vB) (z := undef) 0 (i : Int) true Ba hO rfl rfl underlying92 rfl rfl rfl hiI rfl rfl (fun mS1 EO hO1 => ?_))))
   have hA1 := J9 hA (i : Int)
   have hU1 := Wr hi hni true
   obtain ⟨T1, hT1⟩ : ∃ T1, Cr T (i : Int) true = T1 := ⟨_, rfl⟩
   have hk1 : ∀ x, x ∈ C3 T1 ↔ x = (i : Int) ∨ x ∈ C3 T := fun x => by rw [← hT1]; exact Dg T _ _ x
   rw [hT1] at hO1 hA1 hU1
   refine BG (Ql rfl underlying173 (hj1 _) (Qm rfl (Qx (JV (V := KN) (z := (Value.slice none 0 0)) (i : Int) Ba hMv V.lM rfl underlying173 JD rfl rfl hiI) rfl ?_)))
   rw [hvL]
   refine Qx (AC hRL.rd.any rfl underlying25 rfl) rfl (Qm rfl (An (Ah ?_)))
   refine AD (fun q sl h' ms' => ∃ (t : Nat) (Tt : List (Int × Bool)) (bt : List Nat) (mt : Hp), q = L.length - t ∧ sl = [(3, .pointer (some ⟨g17, 0, none⟩)), (15, vL), (16, .int .i64 L.length), (17, .int .i64 t)] ∧ h = h' ∧ ms' = [mt] ∧ t ≤ L.length ∧ BK kN vB gS Bq mt Tt bt ∧ Je Tt ∧ (∀ x ∈ C3 T1, x ∈ C3 Tt) ∧ (∀ x ∈ C3 Tt, x ∉ C3 T1 → (Rch J i x ∧ ∀ k ∈ J x, k ∈ C3 Tt) ∧ 0 ≤ x ∧ x < n) ∧ ∀ j (hj : j < L.length), j < t → L[j] ∈ C3 Tt)
    (L.length - 0) _ ⟨0, T1, EO, mS1, rfl, rfl, rfl, rfl, by omega, hO1, hA1, fun x hx => hx, fun x h1 h2 => absurd h1 h2, fun j hj h => by omega⟩ Qs ?_
   rintro q sl h' ms' ⟨t, Tt, bt, mt, rfl, rfl, rfl, rfl, htl, hOt, hAt, hsub, hnew, hdone⟩
   refine Az (Qm rfl (An (Ac ?_)))
   refine Ax rfl (fun hlt => ?_) (fun hlt => ?_)
   ·have htl : t < L.length := by omega
    obtain ⟨k, hk⟩ : ∃ k, L[t] = k := ⟨_, rfl⟩
    have hkm : k ∈ L := by rw [← hk]; exact List.getElem_mem htl
    obtain ⟨hk0, hkn⟩ := hLn k hkm
    obtain ⟨kn, rfl⟩ := Int.eq_ofNat_of_zero_le hk0
    have ck : ∀ ms, Cell h ms ((AI vL).add (t * 1)) (.int .i64 (kn : Int)) := fun ms => by rw [← hk]; exact (hRL.any (ms := ms)).cell0 htl rfl
    refine Ai (Ad (Ac (Ah (Az (Qx (Af (t) hRL.rd.any rfl underlying25 Bm rfl rfl (by omega) (by omega)) rfl (Ql rfl underlying3 (ck _) (Qm rfl (GZ (Ql rfl underlying102 (hf1 _) (Qm rfl ?_))))))))))
    refine Dt (pre := [mt]) rfl rfl call131 rfl (ih kn Tt bt mt (by omega) hOt hAt (by have := TH (n := n) hsub; omega)) rfl rfl rfl rfl (fun v' h' pre' l' hF => ?_)
    obtain ⟨rfl, m2, T2, b2, rfl, hO2, hA2, R2⟩ := hF
    simp only [List.cons_append, List.nil_append, List.append_nil]
    have hrk : Rch J i (kn : Int) := .step (.refl _) (by rw [hL]; exact hkm)
    refine Ak (Aj (Ad (Ab (Qx (oA rfl) rfl (Qm rfl (Ak ?_))))))
    exact Am (L.length - (t + 1)) _ (by omega) ⟨t + 1, T2, b2, m2, rfl, rfl, rfl, rfl, by omega, hO2, hA2, fun x hx => R2.sub x (hsub x hx), fun x h1 h2 => by
     by_cases hx : x ∈ C3 Tt
     ·obtain ⟨⟨q1, q2⟩, q3⟩ := hnew x hx h2
      exact ⟨⟨q1, fun k hk => R2.sub k (q2 k hk)⟩, q3⟩
     ·obtain ⟨⟨q1, q2⟩, q3⟩ := R2.new x h1 hx
      exact ⟨⟨hrk.trans q1, q2⟩, q3⟩, fun j hj hjt => by
     rcases (by omega : j < t ∨ j = t) with h1 | rfl
     ·exact R2.sub _ (hdone j hj h1)
     ·rw [hk]; exact R2.me⟩ Qs
   ·obtain rfl : t = L.length := by omega
    have hV : Xo J n T Tt i := by
     have BQ : ∀ k ∈ J (i : Int), k ∈ C3 Tt := fun k hk => by
      rw [hL] at hk
      obtain ⟨j, hj, rfl⟩ := List.getElem_of_mem hk
      exact hdone j hj hj
     refine ⟨fun x hx => hsub x ((hk1 x).2 (.inr hx)), hsub _ ((hk1 _).2 (.inl rfl)), fun x h1 h2 => ?_⟩
     by_cases hx : x = (i : Int)
     ·subst hx; exact ⟨⟨.refl _, BQ⟩, by omega, by omega⟩
     ·exact hnew x h1 fun q => by
       rcases (hk1 x).1 q with q | q
       ·exact hx q
       ·exact h2 q
    refine Aw (Aa (Aa (Ag ?_)))
    exact BL rfl (⟨rfl, mt, Tt, bt, rfl, hOt, hAt, hV⟩)
  ·have him : (i : Int) ∈ C3 T := Classical.byContradiction fun q => by rw [decide_eq_false q] at hn; cases hn
   refine Ai ?_
   exact BL rfl (⟨rfl, mS, T, bs, rfl, hO, hA, fun x hx => hx, him, fun x h1 h2 => absurd h1 h2⟩)
end Go.Proofs.YtodheebhahdepaaGreat

namespace Go.Proofs.YtodheebhahdepaaGreat
open Go.Proofs.Tryz
open Go.Eng Go.RowKit
theorem GP (w : World) : (zeroValue 3).run Tryz.prog w = .ok (kN 0) w := by rfl
structure Vm (U : List Cl) (x : Cl) : Prop where
 n : x.sd.length ≤ 64
 p : 0 < x.sd.length
 m : ∀ i, i < x.sd.length → (Gu U (Bc x i).1).sd.length ≤ 64
 s : ∀ s ∈ x.sd, Bq s.1 ∧ (s.2 = 1 ∨ s.2 = -1)
 t : ∀ i, i < x.sd.length → ∀ r ∈ (Gu U (Bc x i).1).sd, Bq r.1 ∧ (r.2 = 1 ∨ r.2 = -1)
theorem U0 {ν : Type} (T : List (Int × ν)) (a : Int) (x : ν) : (Cr T a x).length ≤ T.length + 1 := by
 unfold Cr
 split
 ·rw [List.length_map]; omega
 ·simp
theorem PE : ∀ E : Fo, (E6 E).length ≤ E.length := Co (by simp [E6]) fun E e ih => by
 rw [Fc, List.length_append, List.length_singleton]
 have := U0 (E6 E) e.2.1 ((AZ (E6 E) e.2.1).getD [] ++ [e.1])
 omega
theorem L7 {U : List Cl} {x : Cl} {m : Nat} {e : Int × Int × Int} (h : e ∈ IM U x m) : ∃ i, i < m ∧ ∃ r ∈ (Gu U (Bc x i).1).sd, e = ((i : Int), r.1, (Bc x i).2 * r.2) := by
 unfold IM at h
 obtain ⟨i, hi, h⟩ := List.mem_flatMap.1 h
 obtain ⟨r, hr, rfl⟩ := List.mem_map.1 h
 exact ⟨i, List.mem_range.1 hi, r, hr, rfl⟩
theorem We {U : List Cl} {x : Cl} (K : Vm U x) {m : Nat} (hm : m ≤ x.sd.length) {e : Int × Int × Int} (h : e ∈ IM U x m) : e.2.2 = 1 ∨ e.2.2 = -1 := by
 obtain ⟨i, hi, r, hr, rfl⟩ := L7 h
 have hi' : i < x.sd.length := by omega
 have h1 := (K.t i hi' r hr).2
 have h2 := (K.s (Bc x i) (by rw [A4 hi']; exact List.getElem_mem hi')).2
 show (Bc x i).2 * r.2 = 1 ∨ (Bc x i).2 * r.2 = -1
 rcases h1 with h1 | h1 <;> rcases h2 with h2 | h2 <;> rw [h1, h2] <;> decide
theorem Rj (U : List Ce) (x : Ce) (g : Nat) (hp : Hp) (hT : RdT hp g U) (hX : RdL cD 2 hp [] x.v x.c.sd) (hK : Vm (U.map Ce.c) x.c) : FnT Tryz.prog 118 #[.pointer (some ⟨g, 0, none⟩), .agg (cC x).toArray] hp [] (fun r _ _ => r = .int .i64 (Ut (IM (U.map Ce.c) x.c x.c.sd.length) x.c.sd.length)) := by
 have o2 := hX.rd.one
 show FnT _ _ #[.pointer (some ⟨g, 0, none⟩), .agg #[.int .i64 x.c.id, .int .i64 x.c.dim, x.v]] _ _ _
 refine Av func118 ntmps118 rfl rfl (fun w0 hw0 => ?_)
 simp only [A5]
 refine Az ?_
 refine A8 [_, _, _] rfl rfl (by rfl) rfl rfl rfl (fun g3 => ?_)
 refine Qm rfl (An (AA fun h1 l1 hS => ?_))
 obtain ⟨gm, mMt, bst, vids, hSg, hMt, lmt, hVt, hsU⟩ := hT.up l1
 have hX := hX.up l1
 have hA := Seg.all hS
 have a2 : ∀ ms, Cell h1 ms (⟨g3, 2, none⟩ : Addr) x.v := fun ms => hA 2 _ rfl ms
 have eT : ∀ ms, Cell h1 ms (⟨g, 0, none⟩ : Addr) (.map (some gm)) := fun ms => Seg.all hSg 0 _ rfl ms
 have hn64 := hK.n
 refine Az (Cd (K := kN) (V := kN) (Ok := Bq) rfl rfl rfl rfl (fun gA mA hA0 => Cd (K := kN) (V := KN) (Ok := Bq) rfl rfl rfl rfl (fun gB mM hB0 => Qm rfl (Qm rfl (An (EE 1 rfl (Bz ?_)))))))
 have hMS0 := OwnMS.start hB0
 refine AV (fun sl h' ms' => ∃ (mB mA mM : Hp) (bs : List Nat), sl = [(3, .pointer (some ⟨g3, 0, none⟩)), (5, .map (some gA)), (6, .map (some gB))] ∧ h1.le h' ∧ ms' = [mB, mA, mM] ∧ BK kN kN gA Bq mA (Cm (IM (U.map Ce.c) x.c x.c.sd.length)) bs ∧ OwnMS gB mM mB (E6 (IM (U.map Ce.c) x.c x.c.sd.length))) ?_ (fun s h ms hI => ?_)
 ·refine Ac (Ab (Qf Bl rfl (Ql rfl underlying57 (a2 _) (Qx (AC hX.rd.any rfl underlying57 rfl) rfl (Qm rfl (An (Ah ?_)))))))
  refine AD (fun q sl h' ms' => ∃ (i : Nat) (mB mA mM : Hp) (bs : List Nat), q = x.c.sd.length - i ∧ sl = [(0, .pointer (some ⟨g, 0, none⟩)), (3, .pointer (some ⟨g3, 0, none⟩)), (5, .map (some gA)), (6, .map (some gB)), (21, x.v), (22, .int .i64 x.c.sd.length), (23, .int .i64 i)] ∧ h1.le h' ∧ ms' = [mB, mA, mM] ∧ i ≤ x.c.sd.length ∧ BK kN kN gA Bq mA (Cm (IM (U.map Ce.c) x.c i)) bs ∧ OwnMS gB mM mB (E6 (IM (U.map Ce.c) x.c i)))
   (x.c.sd.length - 0) _ ⟨0, Hp.emp, mA, mM, [], rfl, rfl, Hp.le_refl _, rfl, by omega, hA0, hMS0⟩ Qs ?_
  rintro q sl h2 ms' ⟨i, mB, mA, mM, bs, rfl, rfl, l2, rfl, hi, hOA, hMS⟩
  have hX := hX.up l2
  refine Az (Qm rfl (An (Ac ?_)))
  refine Ax rfl (fun hlt => ?_) (fun hlt => ?_)
  ·have hil : i < x.c.sd.length := by omega
   obtain ⟨s, hs⟩ : ∃ s, x.c.sd[i] = s := ⟨_, rfl⟩
   have hsm : s ∈ x.c.sd := by rw [← hs]; exact List.getElem_mem hil
   have hsA : Bc x.c i = s := by rw [A4 hil, hs]
   have hsI := hK.s s hsm
   obtain ⟨y, hy⟩ : ∃ y, (AZ (Hb U) s.1).getD default = y := ⟨_, rfl⟩
   have hyc : Gu (U.map Ce.c) s.1 = y.c := by rw [← Jn, hy]
   have hyR := Ly hsU s.1
   rw [hy] at hyR
   have hyR := hyR.up l2
   have oyv := hyR.rd.one
   have y64 := hK.m i hil
   have yt := hK.t i hil
   rw [hsA, hyc] at y64 yt
   have hE := Mh (U.map Ce.c) x.c hK.m i hi
   have hEs : ∀ e ∈ IM (U.map Ce.c) x.c i, e.2.2 = 1 ∨ e.2.2 = -1 := fun e he => We hK hi he
   have hsucc : IM (U.map Ce.c) x.c (i + 1) = IM (U.map Ce.c) x.c i ++ y.c.sd.map fun r => ((i : Int), r.1, s.2 * r.2) := by
    rw [NS]; unfold Ug; rw [hsA, hyc]
   obtain ⟨E, hEe⟩ : ∃ E, IM (U.map Ce.c) x.c i = E := ⟨_, rfl⟩
   rw [hEe] at hOA hMS hE hEs hsucc
   have hsx : ∀ ms, Seg h2 ms ((AI x.v).add (i * 2)) (cD s) := fun ms => by rw [← hs]; exact (hX.any (ms := ms)).seg hil
   refine Ai (Ad ?_)
   refine AV (fun sl h' ms' => ∃ (mB mA mM : Hp) (bs : List Nat), sl = [(0, .pointer (some ⟨g, 0, none⟩)), (3, .pointer (some ⟨g3, 0, none⟩)), (5, .map (some gA)), (6, .map (some gB)), (21, x.v), (22, .int .i64 x.c.sd.length), (23, .int .i64 i)] ∧ h2.le h' ∧ ms' = [mB, mA, mM] ∧ BK kN kN gA Bq mA (Cm (IM (U.map Ce.c) x.c (i + 1))) bs ∧ OwnMS gB mM mB (E6 (IM (U.map Ce.c) x.c (i + 1)))) ?_ (fun s h ms hI => ?_)
   ·refine Ah (Az (Qm rfl (Qx (Af (i) hX.rd.any rfl underlying57 AR rfl rfl (by omega) (by omega)) rfl (Qx (oG rfl underlying81 AR (hsx _)) rfl (C4 [.int .i64 0, .int .i64 0] rfl AR rfl rfl (fun g8 => Qm rfl ?_))))))
    refine Sa 0 [_, _] AR rfl (by simp [Value.oneCell']) ?_
    refine An (AA fun h3 l3 hS8 => ?_)
    have e80 : ∀ ms, Cell h3 ms (⟨g8, 0, none⟩ : Addr) (.int .i64 s.1) := fun ms => Seg.all hS8 0 _ rfl ms
    have e81 : ∀ ms, Cell h3 ms (⟨g8, 1, none⟩ : Addr) (.int .i64 s.2) := fun ms => Seg.all hS8 1 _ rfl ms
    have l13 := Hp.le_trans l2 l3
    have eT : ∀ ms, Cell h3 ms (⟨g, 0, none⟩ : Addr) (.map (some gm)) := fun ms => (eT ms).le l13
    have hyR := hyR.up l3
    refine Ac (Bb 10 CN (by kernel_rfl) rfl (Wm rfl (Wm rfl (Wf Gz rfl (Wl rfl underlying113 (eT _) (Wf Cc rfl (Wl rfl underlying3 (e80 _) (AM (CA (V := vC) (z := (default : Ce)) s.1 hy Ba hMt (Hp.le_trans lmt l13) rfl underlying113 Nk rfl rfl hsI.1) rfl rfl (AM (Ff rfl underlying59 rfl underlying57 rfl rfl rfl) rfl rfl (AM (AC hyR.rd.any rfl underlying57 rfl) rfl rfl (Wm rfl (AU (An (Ah ?_))))))))))))))
    refine AD (fun q sl h' ms' => ∃ (k : Nat) (mB mA mM : Hp) (bs : List Nat), q = y.c.sd.length - k ∧ sl = [(0, .pointer (some ⟨g, 0, none⟩)), (3, .pointer (some ⟨g3, 0, none⟩)), (5, .map (some gA)), (6, .map (some gB)), (7, .int .i64 i), (8, .pointer (some ⟨g8, 0, none⟩)), (21, x.v), (22, .int .i64 x.c.sd.length), (23, .int .i64 i), (35, y.v), (36, .int .i64 y.c.sd.length), (37, .int .i64 k)] ∧ h3.le h' ∧ ms' = [mB, mA, mM] ∧ k ≤ y.c.sd.length ∧ BK kN kN gA Bq mA (Cm (E ++ (y.c.sd.take k).map fun r => ((i : Int), r.1, s.2 * r.2))) bs ∧ OwnMS gB mM mB (E6 (E ++ (y.c.sd.take k).map fun r => ((i : Int), r.1, s.2 * r.2))))
     (y.c.sd.length - 0) _ ⟨0, mB, mA, mM, bs, rfl, rfl, Hp.le_refl _, rfl, by omega, by simpa using hOA, by simpa using hMS⟩ Qs ?_
    rintro q sl h4 ms' ⟨k, mB, mA, mM, bs, rfl, rfl, l4, rfl, hk, hOA, hMS⟩
    have hyR := hyR.up l4
    have e81 : ∀ ms, Cell h4 ms (⟨g8, 1, none⟩ : Addr) (.int .i64 s.2) := fun ms => (e81 ms).le l4
    refine Az (Qm rfl (An (Ac ?_)))
    refine Ax rfl (fun hlk => ?_) (fun hlk => ?_)
    ·have hkl : k < y.c.sd.length := by omega
     obtain ⟨r, hr⟩ : ∃ r, y.c.sd[k] = r := ⟨_, rfl⟩
     have hrm : r ∈ y.c.sd := by rw [← hr]; exact List.getElem_mem hkl
     have hrI := yt r hrm
     have hsr : ∀ ms, Seg h4 ms ((AI y.v).add (k * 2)) (cD r) := fun ms => by rw [← hr]; exact (hyR.any (ms := ms)).seg hkl
     have hF' : (E ++ (y.c.sd.take (k + 1)).map fun r => ((i : Int), r.1, s.2 * r.2)) = (E ++ (y.c.sd.take k).map fun r => ((i : Int), r.1, s.2 * r.2)) ++ [((i : Int), r.1, s.2 * r.2)] := by
      rw [List.take_succ_eq_append_getElem hkl, List.map_append, hr, List.append_assoc]; rfl
     have hFl : (E ++ (y.c.sd.take k).map fun r => ((i : Int), r.1, s.2 * r.2)).length ≤ 4200 := by rw [List.length_append, List.length_map, List.length_take]; omega
     have hmu : s.2 * r.2 = 1 ∨ s.2 * r.2 = -1 := by rcases hsI.2 with e | e <;> rcases hrI.2 with e' | e' <;> rw [e, e'] <;> decide
     have hFs : ∀ e ∈ E ++ (y.c.sd.take k).map (fun r => ((i : Int), r.1, s.2 * r.2)), e.2.2 = 1 ∨ e.2.2 = -1 := fun e he => by
      rcases List.mem_append.1 he with he | he
      ·exact hEs e he
      ·obtain ⟨r', hr', rfl⟩ := List.mem_map.1 he
       have hrI' := yt r' (List.mem_of_mem_take hr')
       show s.2 * r'.2 = 1 ∨ s.2 * r'.2 = -1
       rcases hsI.2 with e | e <;> rcases hrI'.2 with e' | e' <;> rw [e, e'] <;> decide
     obtain ⟨F, hF⟩ : ∃ F, E ++ (y.c.sd.take k).map (fun r => ((i : Int), r.1, s.2 * r.2)) = F := ⟨_, rfl⟩
     rw [hF] at hOA hMS hFl hFs hF'
     obtain ⟨v0, hv0⟩ : ∃ v0, (AZ (Cm F) r.1).getD 0 = v0 := ⟨_, rfl⟩
     have hb0 := Wz F r.1 hFs
     rw [← ID, hv0] at hb0
     have hs1 := FH F ((i : Int), r.1, s.2 * r.2)
     have hm1 := Fc F ((i : Int), r.1, s.2 * r.2)
     simp only at hs1 hm1
     rw [hv0] at hs1
     refine Ai (Ad ?_)
     refine AV (fun sl h' ms' => ∃ (mB mA mM : Hp) (bs : List Nat), sl = [(0, .pointer (some ⟨g, 0, none⟩)), (3, .pointer (some ⟨g3, 0, none⟩)), (5, .map (some gA)), (6, .map (some gB)), (7, .int .i64 i), (8, .pointer (some ⟨g8, 0, none⟩)), (21, x.v), (22, .int .i64 x.c.sd.length), (23, .int .i64 i), (35, y.v), (36, .int .i64 y.c.sd.length), (37, .int .i64 k)] ∧ h4.le h' ∧ ms' = [mB, mA, mM] ∧ BK kN kN gA Bq mA (Cm (F ++ [((i : Int), r.1, s.2 * r.2)])) bs ∧ OwnMS gB mM mB (E6 (F ++ [((i : Int), r.1, s.2 * r.2)]))) ?_ (fun s h ms hI => ?_)
     ·refine Ah (Az (Qx (Af (k) hyR.rd.any rfl underlying57 AR rfl rfl (by omega) (by omega)) rfl (Qx (oG rfl underlying81 AR (hsr _)) rfl (C4 [.int .i64 0, .int .i64 0] rfl AR rfl rfl (fun g10 => ?_)))))
      refine Sa 0 [_, _] AR rfl (by simp [Value.oneCell']) ?_
      refine An (AA fun h5 l5 hS10 => ?_)
      have e81 : ∀ ms, Cell h5 ms (⟨g8, 1, none⟩ : Addr) (.int .i64 s.2) := fun ms => (e81 ms).le l5
      have ea0 : ∀ ms, Cell h5 ms (⟨g10, 0, none⟩ : Addr) (.int .i64 r.1) := fun ms => Seg.all hS10 0 _ rfl ms
      have ea1 : ∀ ms, Cell h5 ms (⟨g10, 1, none⟩ : Addr) (.int .i64 r.2) := fun ms => Seg.all hS10 1 _ rfl ms
      refine Az (Qm rfl (Qf Cc rfl (Ql rfl underlying3 (ea0 _) ?_)))
      refine Qx (Dp (V := kN) (z := (0 : Int)) r.1 hv0 Ba hOA (by simp) rfl underlying66 GP rfl rfl hrI.1) rfl ?_
      refine Qf Cv rfl (Ql rfl underlying3 (e81 _) (Qf Cv rfl (Ql rfl underlying3 (ea1 _) (Qx (oM rfl) rfl (Qx (oA rfl) rfl (Bp (V := kN) (z := undef) 1 r.1 (v0 + s.2 * r.2) Ba hOA rfl rfl underlying66 rfl rfl rfl hrI.1 rfl rfl (fun mA' bs' hOA' => ?_)))))))
      rw [← hs1] at hOA'
      refine An ?_
      obtain ⟨Tv, bv, v, m1, m2, hO, hv, rfl, hd, hO1, close⟩ := hMS.open r.1
      refine Ig hd ?_
      obtain ⟨L, hL⟩ : ∃ L, (AZ (E6 F) r.1).getD [] = L := ⟨_, rfl⟩
      have hLl : L.length ≤ 4200 := by
       rw [← hL, NZ, List.length_map]
       exact Nat.le_trans (List.length_filter_le _ _) hFl
      rw [hL] at hO1 hm1
      have ov : v.oneCell' = true := (hO1.rd (h := h5) (ms := [m1]) (List.Mem.head _)).rd.one
      refine B4 (n := 11) (bs := [true, true, true, true, true, true, false, true, false, false, false]) [true, true, true, true, true, true, false, true] CN (by kernel_rfl) (by kernel_rfl) rfl rfl (Qq rfl (QF Cc rfl (QL rfl underlying3 (ea0 _) (Qq rfl (QF Cc rfl (QL rfl underlying3 (ea0 _) (Qq rfl ?_)))))))
      unfold GI
      simp only [List.cons_append, List.nil_append]
      refine A0 [6, 8] (by kernel_rfl) rfl ?_
      refine AB rfl ?_ ?_
      ·refine Qx (Dp (V := KN) (z := (Value.slice none 0 0)) r.1 hv Ba hO (by simp) rfl underlying173 JD rfl rfl hrI.1) rfl ?_
       refine Qw (Qo 8 rfl ?_)
       refine Ao [_] rfl underlying25 Bm rfl (by rfl) rfl rfl (by omega) rfl rfl rfl (fun g59 => ?_)
       refine Qw (Qo 9 rfl ?_)
       refine AJ 1 hO1 (RdL.one AT (x := (i : Int)) (List.Mem.head _) rfl) rfl underlying25 Bm rfl (by omega) rfl rfl rfl BW (by (try simp only [List.length_singleton]); omega) (by (try simp only [List.length_singleton]); omega) rfl rfl rfl (fun v9 m9 hO9 => ?_)
       have ov9 : v9.oneCell' = true := (hO9.rd (h := h5) (ms := [m9]) (List.Mem.head _)).rd.one
       refine Qw (Qo 10 rfl (Bp (V := KN) (z := undef) 4 r.1 v9 Ba hO rfl rfl underlying173 rfl rfl rfl hrI.1 rfl rfl (fun mM' bs2 hM' => Qw (Qe (AS (EC fun hap => (EU ?_)))))))
       have hdj := (List.pairwise_cons.1 hap).1 _ (List.Mem.head _)
       have hMS' := close v9 _ m9 mM' bs2 hdj hO9 hM'
       rw [← hm1] at hMS'
       refine Aj ?_
       exact Ay _ ⟨_, mA', mM', bs', rfl, l5, rfl, hOA', hMS'⟩ Qs
      refine AB rfl ?_ ?_
      ·refine Ao [_] rfl underlying25 Bm rfl (by rfl) rfl rfl (by omega) rfl rfl rfl (fun g59 => ?_)
       refine Qw (Qo 6 rfl ?_)
       refine Qx (Dp (V := KN) (z := (Value.slice none 0 0)) r.1 hv Ba hO (by simp) rfl underlying173 JD rfl rfl hrI.1) rfl ?_
       refine Qw (Qo 9 rfl ?_)
       refine AJ 1 hO1 (RdL.one AT (x := (i : Int)) (List.Mem.head _) rfl) rfl underlying25 Bm rfl (by omega) rfl rfl rfl BW (by (try simp only [List.length_singleton]); omega) (by (try simp only [List.length_singleton]); omega) rfl rfl rfl (fun v9 m9 hO9 => ?_)
       have ov9 : v9.oneCell' = true := (hO9.rd (h := h5) (ms := [m9]) (List.Mem.head _)).rd.one
       refine Qw (Qo 10 rfl (Bp (V := KN) (z := undef) 4 r.1 v9 Ba hO rfl rfl underlying173 rfl rfl rfl hrI.1 rfl rfl (fun mM' bs2 hM' => Qw (Qe (AS (EC fun hap => (EU ?_)))))))
       have hdj := (List.pairwise_cons.1 hap).1 _ (List.Mem.head _)
       have hMS' := close v9 _ m9 mM' bs2 hdj hO9 hM'
       rw [← hm1] at hMS'
       refine Aj ?_
       exact Ay _ ⟨_, mA', mM', bs', rfl, l5, rfl, hOA', hMS'⟩ Qs
      exact A3
     ·obtain ⟨mB, mA, mM, bs, rfl, k4, rfl, hOA, hMS⟩ := hI
      rw [← hF'] at hOA hMS
      refine Ab (Qx (oA rfl) rfl (Qm rfl (Ak ?_)))
      exact Am (y.c.sd.length - (k + 1)) _ (by omega) ⟨k + 1, mB, mA, mM, bs, rfl, rfl, Hp.le_trans l4 k4, rfl, by omega, hOA, hMS⟩ Qs
    ·obtain rfl : k = y.c.sd.length := by omega
     rw [List.take_length, ← hsucc] at hOA hMS
     refine Aw (Aa (Aa (Ag (Aj ?_))))
     exact Ay _ ⟨mB, mA, mM, bs, rfl, Hp.le_trans l3 l4, rfl, hOA, hMS⟩ Qs
   ·obtain ⟨mB, mA, mM, bs, rfl, k2, rfl, hOA, hMS⟩ := hI
    refine Ab (Qx (oA rfl) rfl (Qm rfl (Ak ?_)))
    exact Am (x.c.sd.length - (i + 1)) _ (by omega) ⟨i + 1, mB, mA, mM, bs, rfl, rfl, Hp.le_trans l2 k2, rfl, by omega, hOA, hMS⟩ Qs
  ·obtain rfl : i = x.c.sd.length := by omega
   refine Aw (Aa (Aa (Ag ?_)))
   exact Ay _ ⟨mB, mA, mM, bs, rfl, l2, rfl, hOA, hMS⟩ Qs
 ·obtain ⟨mB, mA, mM, bs, rfl, l2, rfl, hOA, hMS⟩ := hI
  have hEl := Mh (U.map Ce.c) x.c hK.m x.c.sd.length (Nat.le_refl _)
  have hEi : ∀ e ∈ IM (U.map Ce.c) x.c x.c.sd.length, 0 ≤ e.1 ∧ e.1 < x.c.sd.length := fun e he => by
   obtain ⟨i, hi, r, _, rfl⟩ := L7 he
   exact ⟨by show 0 ≤ (i : Int); omega, by show (i : Int) < _; omega⟩
  obtain ⟨E, hE⟩ : ∃ E, IM (U.map Ce.c) x.c x.c.sd.length = E := ⟨_, rfl⟩
  rw [hE] at hOA hMS hEl hEi ⊢
  refine BA fun h2 k2 fB => (BA fun h3 k3 fA => (BA fun h4 k4 fM => ?_))
  have lB := Hp.le_trans fB (Hp.le_trans k3 k4)
  have lA := Hp.le_trans fA k4
  have lh4 := Hp.le_trans l2 (Hp.le_trans k2 (Hp.le_trans k3 k4))
  refine AV (fun sl h' ms' => sl = [(3, .pointer (some ⟨g3, 0, none⟩)), (6, .map (some gB))] ∧ h4 = h' ∧ ms' = [] ∧ ∀ e ∈ E, Dy E e.2.1 = 0) ?_ (fun s h ms hI => ?_)
  ·refine Ac (Ab (Qm rfl (Ir hOA lA rfl underlying66 rfl rfl rfl rfl (fun gi mi0 I0 => An (Ah ?_)))))
   refine AD (fun q sl h' ms' => ∃ (vis : List Nat) (mi : Hp), q = (Cm E).length - vis.length ∧ sl = [(3, .pointer (some ⟨g3, 0, none⟩)), (6, .map (some gB)), (64, .pointer (some ⟨gi, 0, none⟩))] ∧ h4 = h' ∧ ms' = [mi] ∧ GQ gi gA mA mi bs vis ∧ ∀ j (hj : j < (Cm E).length), j ∈ vis → (Cm E)[j].2 = 0)
    ((Cm E).length - 0) _ ⟨[], mi0, rfl, rfl, rfl, rfl, I0, fun j hj h => nomatch h⟩ Qs ?_
   rintro q sl h' ms' ⟨vis, mi, rfl, rfl, rfl, rfl, I, hz⟩
   refine Az ?_
   refine JT 0 hOA I lA rfl rfl rfl rfl rfl rfl (fun BQ => ?_) (fun j hj mi' hjv I' => ?_)
   ·refine Qm rfl (An (Ac (AO rfl (Aw (Aa (Aa (Ag ?_)))))))
    have hzero : ∀ e ∈ E, Dy E e.2.1 = 0 := fun e he => by
     obtain ⟨l, v, hl⟩ := Gn ((J2 e.2.1 E).2 ⟨e, he, rfl⟩)
     rw [← ID, Di (PQ E) hl]
     obtain ⟨h1, h2⟩ := List.getElem?_eq_some_iff.1 hl
     have := hz l h1 (BQ l h1)
     rw [h2] at this
     exact this
    refine Bn 0 rfl ?_
    exact Ay _ ⟨rfl, rfl, rfl, hzero⟩ Qs
   ·have hTj : (Cm E)[j].2 = Dy E (Cm E)[j].1 := by
     have hg : (Cm E)[j]? = some ((Cm E)[j].1, (Cm E)[j].2) := List.getElem?_eq_getElem hj
     rw [← ID, Di (PQ E) hg]; rfl
    refine Qm rfl (An (Ac (Bk rfl (Ai (Ad (Ah (Az ?_)))))))
    refine Qx (Ix hOA I' lA (by simp) hj rfl rfl) rfl ?_
    refine Qm rfl (Qm rfl (BG (Qm rfl (Qm rfl (An ?_)))))
    refine Ax rfl (fun hne => ?_) (fun hne => ?_)
    ·have h24 : Ut E x.c.sd.length = 24 := by
      unfold Ut
      rw [if_pos fun w => ?_]
      obtain ⟨e, he, h1⟩ := (J2 (Cm E)[j].1 E).1 (List.mem_map.2 ⟨_, List.getElem_mem hj, rfl⟩)
      have := w e he
      rw [h1, ← hTj] at this
      exact hne this
     refine Az (Qm rfl (An (Aq (Al (Ae (Al (Ae ?_)))))))
     exact As rfl rfl (by rw [h24])
    ·refine Ai (Aj ?_)
     refine Am ((Cm E).length - (vis.length + 1)) _ ?_ ⟨vis ++ [j], mi', by simp, rfl, rfl, rfl, I', fun i hi' hv => ?_⟩ Qs
     ·have hlt : vis.length < (Cm E).length := by
       have h1 := Go.Kuhn.nodup_le (vis ++ [j]) (List.range (Cm E).length) I'.nodup fun x hx => by
        rw [List.mem_range, ← hOA.len]; exact I'.lt x hx
       simp at h1; omega
      omega
     ·rcases List.mem_append.1 hv with hv | hv
      ·exact hz i hi' hv
      ·simp at hv; subst hv; exact Classical.not_not.1 hne
  ·obtain ⟨rfl, rfl, rfl, hzero⟩ := hI
   obtain ⟨Tv, bv, hOv, hKv, hRv, hRa⟩ := hMS.look lB
   obtain ⟨M, hM⟩ : ∃ M, E6 E = M := ⟨_, rfl⟩
   have hMn := WZ E
   have hMk := fun c => Rn c E
   have hMg := fun c => NZ c E
   rw [hM] at hKv hRv hRa hMn hMk hMg
   have hTl : Tv.length = M.length := by have := congrArg List.length hKv; simpa using this
   refine Az (Cd (K := kN) (V := KN) (Ok := Bq) rfl rfl rfl rfl (fun gJ mJ hJ0 => C4 [.map none] rfl V2 rfl rfl (fun g13 => ?_)))
   refine AK 0 0 rfl V2 rfl rfl (by rfl) rfl rfl (by decide) rfl rfl ?_
   refine An (AA fun h5 k5 hS13 => ?_)
   have e13 : ∀ ms, Cell h5 ms (⟨g13, 0, none⟩ : Addr) (.map (some gJ)) := fun ms => Seg.all hS13 0 _ rfl ms
   refine Bz ?_
   have hJS0 := OwnMS.start hJ0
   have fM5 := Hp.le_trans fM k5
   let pr : Nat → Int × Int := fun j => (((M.getD j (0, [])).2).getD 0 0, ((M.getD j (0, [])).2).getD 1 0)
   refine AV (fun sl h' ms' => ∃ (vis : List Nat) (mJB mJ : Hp), sl = [(3, .pointer (some ⟨g3, 0, none⟩)), (13, .pointer (some ⟨g13, 0, none⟩))] ∧ h5 = h' ∧ ms' = [mJB, mJ] ∧ OwnMS gJ mJ mJB (DZ (vis.map pr)) ∧ vis.length ≤ M.length ∧ (∀ j, j ∈ vis → j < M.length) ∧ (∀ j, j < M.length → j ∈ vis) ∧ ∀ j (hj : j < M.length), M[j].2.length = 2) ?_ (fun s h ms hI => ?_)
   ·refine Ac (Ab (Qm rfl (Ir hOv fM5 rfl underlying173 rfl rfl rfl rfl (fun gi mi0 I0 => An (Ah (EE 1 rfl ?_))))))
    refine AD (fun q sl h' ms' => ∃ (vis : List Nat) (mi mJB mJ : Hp), q = M.length - vis.length ∧ sl = [(3, .pointer (some ⟨g3, 0, none⟩)), (13, .pointer (some ⟨g13, 0, none⟩)), (73, .pointer (some ⟨gi, 0, none⟩))] ∧ h5 = h' ∧ ms' = [mJB, mi, mJ] ∧ GQ gi gB mM mi bv vis ∧ OwnMS gJ mJ mJB (DZ (vis.map pr)) ∧ ∀ j (hj : j < M.length), j ∈ vis → M[j].2.length = 2)
     (M.length - 0) _ ⟨[], mi0, Hp.emp, mJ, rfl, rfl, rfl, rfl, I0, hJS0, fun j hj h => nomatch h⟩ Qs ?_
    rintro q sl h' ms' ⟨vis, mi, mJB, mJ, rfl, rfl, rfl, rfl, I, hJS, hz⟩
    have hvl : ∀ {w : List Nat} {m' : Hp}, GQ gi gB mM m' bv w → w.length ≤ M.length ∧ ∀ j, j ∈ w → j < M.length := fun {w m'} I => by
     have hlt : ∀ x ∈ w, x < M.length := fun x hx => by rw [← hTl, ← hOv.len]; exact I.lt x hx
     have h1 := Go.Kuhn.nodup_le w (List.range M.length) I.nodup fun x hx => List.mem_range.2 (hlt x hx)
     rw [List.length_range] at h1
     exact ⟨h1, hlt⟩
    refine Az ?_
    refine JT 1 hOv I fM5 rfl rfl rfl rfl rfl rfl (fun BQ => ?_) (fun j hj mi' hjv I' => ?_)
    ·refine Qm rfl (An (Ac (AO rfl (Aw (Aa (Aa (Ag (Bn 1 rfl ?_))))))))
     exact Ay _ ⟨vis, mJB, mJ, rfl, rfl, rfl, hJS, (hvl I).1, (hvl I).2, fun j hj => BQ j (by omega), fun j hj => hz j hj (BQ j (by omega))⟩ Qs
    ·have hjM : j < M.length := by omega
     have hRj := (hRv j hj hjM).2.up k5
     have hcj : (AZ M M[j].1).getD [] = M[j].2 := by
      have hg : M[j]? = some (M[j].1, M[j].2) := List.getElem?_eq_getElem hjM
      rw [Di hMn hg]; rfl
     have hcE := hMg M[j].1
     rw [hcj] at hcE
     obtain ⟨v, hv⟩ : ∃ v, Tv[j].2 = v := ⟨_, rfl⟩
     obtain ⟨L, hL⟩ : ∃ L, M[j].2 = L := ⟨_, rfl⟩
     rw [hv, hL] at hRj
     have ov := hRj.rd.one
     have hLl : L.length ≤ 4200 := by rw [← hL, hcE, List.length_map]; exact Nat.le_trans (List.length_filter_le _ _) (by omega)
     refine Qm rfl (An (Ac (Bk rfl (Ai (Ad (Ah (Az ?_)))))))
     refine Qx (Ix hOv I' fM5 (by simp) hj rfl rfl) rfl ?_
     rw [hv]
     refine Qm rfl (Qm rfl (An (Ac (Az (Qm rfl (Qx (AC hRj.rd.any rfl underlying25 rfl) rfl (Qm rfl (An ?_))))))))
     refine Ax rfl (fun hne => ?_) (fun hne => ?_)
     ·have h25 : Ut E x.c.sd.length = 25 := by
       unfold Ut
       rw [if_neg (fun w => w hzero), if_pos fun w => ?_]
       obtain ⟨e, he, h1⟩ := (hMk M[j].1).1 (List.mem_map.2 ⟨_, List.getElem_mem hjM, rfl⟩)
       have := w e he
       rw [h1, Hg, ← List.length_map (f := fun e : Int × Int × Int => e.1), ← hcE, hL] at this
       exact hne (by omega)
      refine Az (Qm rfl (An (Aq (Ae (Al (Ae (Al (Ae ?_))))))))
      exact As rfl rfl (by rw [h25])
     ·have hL2 : L.length = 2 := by omega
      obtain ⟨a, b, rfl⟩ : ∃ a b, L = [a, b] := by
       match L, hL2 with
       | [a, b], _ => exact ⟨a, b, rfl⟩
      have hin : ∀ k ∈ [a, b], 0 ≤ k ∧ k < x.c.sd.length := fun k hk => by
       rw [← hL, hcE] at hk
       obtain ⟨e, he, rfl⟩ := List.mem_map.1 hk
       exact hEi e (List.mem_filter.1 he).1
      have ha := hin a (List.Mem.head _)
      have hb := hin b (List.mem_cons_of_mem _ (List.Mem.head _))
      have haI : Bq a := by unfold Bq; omega
      have hbI : Bq b := by unfold Bq; omega
      have hprj : pr j = (a, b) := by
       simp only [pr]
       have : M.getD j (0, []) = M[j] := by simp [List.getD, hjM]
       rw [this, hL]; rfl
      have hMl : M.length ≤ 4200 := by rw [← hM]; have := PE E; omega
      have hPl : (vis.map pr).length ≤ 4200 := by rw [List.length_map]; have := (hvl I).1; omega
      have hjl := Lr (vis.map pr)
      have hsn : DZ ((vis ++ [j]).map pr) = Eb (Eb (DZ (vis.map pr)) a b) b a := by rw [List.map_append, List.map_singleton, Hd, hprj]
      have hj1 := Ip (DZ (vis.map pr)) a b _ hjl
      obtain ⟨T0, hT0⟩ : ∃ T0, DZ (vis.map pr) = T0 := ⟨_, rfl⟩
      rw [hT0] at hJS hjl hsn hj1
      have ca : ∀ ms, Cell h5 ms ((AI v).add (0 * 1)) (.int .i64 a) := fun ms => (hRj.any (ms := ms)).cell0 (j := 0) (by simp) rfl
      have cb : ∀ ms, Cell h5 ms ((AI v).add (1 * 1)) (.int .i64 b) := fun ms => (hRj.any (ms := ms)).cell0 (j := 1) (by simp) rfl
      refine Ai (Ad ?_)
      obtain ⟨Tv1, bv1, u, m1, m2, hO, hu, rfl, hd, hO1, close⟩ := hJS.open a
      refine Ig hd ?_
      obtain ⟨L0, hL0⟩ : ∃ L0, (AZ T0 a).getD [] = L0 := ⟨_, rfl⟩
      have hL0l : L0.length ≤ 10000 := by rw [← hL0]; have := hjl a; omega
      rw [hL0] at hO1
      have hjeq : Eb T0 a b = Cr T0 a (L0 ++ [b]) := by unfold Eb; rw [hL0]
      have ou : u.oneCell' = true := (hO1.rd (h := h5) (ms := [m1]) (List.Mem.head _)).rd.one
      refine AV (fun sl h' ms' => ∃ (mJB mJ : Hp), sl = [(3, .pointer (some ⟨g3, 0, none⟩)), (13, .pointer (some ⟨g13, 0, none⟩)), (15, v), (73, .pointer (some ⟨gi, 0, none⟩))] ∧ h5 = h' ∧ ms' = [mJB, mi', mJ] ∧ OwnMS gJ mJ mJB (Eb T0 a b)) ?_ (fun s h ms hI => ?_)
      ·refine B4 (n := 15) (bs := [true, true, true, true, true, true, true, true, false, true, true, true, false, false, false]) [true, true, true, true, true, true, true, true, false, true, true, true] CN (by kernel_rfl) (by kernel_rfl) rfl rfl (QL rfl underlying173 (e13 _) (Qq rfl (Qp rfl (Af 0 hRj.rd.any rfl underlying25 Bm rfl rfl rfl (by omega)) (QL rfl underlying3 (ca _) (QL rfl underlying173 (e13 _) (Qq rfl (Qp rfl (Af 0 hRj.rd.any rfl underlying25 Bm rfl rfl rfl (by omega)) (QL rfl underlying3 (ca _) (Qq rfl (Qp rfl (Af 1 hRj.rd.any rfl underlying25 Bm rfl rfl rfl (by omega)) (QL rfl underlying3 (cb _) ?_)))))))))))
       unfold GI
       simp only [List.cons_append, List.nil_append]
       refine A0 [8, 12] (by kernel_rfl) rfl ?_
       refine AB rfl ?_ ?_
       ·refine Qx (Dp (V := KN) (z := (Value.slice none 0 0)) a hu Ba hO (by simp) rfl underlying173 JD rfl rfl haI) rfl ?_
        refine Qw (Qo 12 rfl ?_)
        refine Ao [_] rfl underlying25 Bm rfl (by rfl) rfl rfl (by omega) rfl rfl rfl (fun g93 => ?_)
        refine Qw (Qo 13 rfl ?_)
        refine AJ 1 hO1 (RdL.one AT (x := b) (List.Mem.head _) rfl) rfl underlying25 Bm rfl (by omega) rfl rfl rfl BW (by (try simp only [List.length_singleton]); omega) (by (try simp only [List.length_singleton]); omega) rfl rfl rfl (fun v9 m9 hO9 => ?_)
        have ov9 : v9.oneCell' = true := (hO9.rd (h := h5) (ms := [m9]) (List.Mem.head _)).rd.one
        refine Qw (Qo 14 rfl (Bp (V := KN) (z := undef) 4 a v9 Ba hO rfl rfl underlying173 rfl rfl rfl haI rfl rfl (fun mM' bs2 hM' => Qw (Qe (AS (EC fun hap => (EU ?_)))))))
        have hdj := (List.pairwise_cons.1 hap).1 _ (List.Mem.head _)
        have hMS' := close v9 _ m9 mM' bs2 hdj hO9 hM'
        rw [← hjeq] at hMS'
        exact Ay _ ⟨_, mM', rfl, rfl, rfl, hMS'⟩ Qs
       refine AB rfl ?_ ?_
       ·refine Ao [_] rfl underlying25 Bm rfl (by rfl) rfl rfl (by omega) rfl rfl rfl (fun g93 => ?_)
        refine Qw (Qo 8 rfl ?_)
        refine Qx (Dp (V := KN) (z := (Value.slice none 0 0)) a hu Ba hO (by simp) rfl underlying173 JD rfl rfl haI) rfl ?_
        refine Qw (Qo 13 rfl ?_)
        refine AJ 1 hO1 (RdL.one AT (x := b) (List.Mem.head _) rfl) rfl underlying25 Bm rfl (by omega) rfl rfl rfl BW (by (try simp only [List.length_singleton]); omega) (by (try simp only [List.length_singleton]); omega) rfl rfl rfl (fun v9 m9 hO9 => ?_)
        have ov9 : v9.oneCell' = true := (hO9.rd (h := h5) (ms := [m9]) (List.Mem.head _)).rd.one
        refine Qw (Qo 14 rfl (Bp (V := KN) (z := undef) 4 a v9 Ba hO rfl rfl underlying173 rfl rfl rfl haI rfl rfl (fun mM' bs2 hM' => Qw (Qe (AS (EC fun hap => (EU ?_)))))))
        have hdj := (List.pairwise_cons.1 hap).1 _ (List.Mem.head _)
        have hMS' := close v9 _ m9 mM' bs2 hdj hO9 hM'
        rw [← hjeq] at hMS'
        exact Ay _ ⟨_, mM', rfl, rfl, rfl, hMS'⟩ Qs
       exact A3
      ·obtain ⟨mJB, mJ, rfl, rfl, rfl, hJS⟩ := hI
       obtain ⟨T1, hT1⟩ : ∃ T1, Eb T0 a b = T1 := ⟨_, rfl⟩
       rw [hT1] at hJS hj1 hsn
       obtain ⟨Tv2, bv2, u2, m1, m2, hO, hu, rfl, hd, hO1, close⟩ := hJS.open b
       refine Ig hd ?_
       obtain ⟨L1, hL1⟩ : ∃ L1, (AZ T1 b).getD [] = L1 := ⟨_, rfl⟩
       have hL1l : L1.length ≤ 10000 := by rw [← hL1]; have := hj1 b; omega
       rw [hL1] at hO1
       have hjeq2 : Eb T1 b a = Cr T1 b (L1 ++ [a]) := by unfold Eb; rw [hL1]
       have ou2 : u2.oneCell' = true := (hO1.rd (h := h5) (ms := [m1]) (List.Mem.head _)).rd.one
       refine B4 (n := 15) (bs := [true, true, true, true, true, true, true, true, false, true, true, true, false, false, false]) [true, true, true, true, true, true, true, true, false, true, true, true] CN (by kernel_rfl) (by kernel_rfl) rfl rfl (QL rfl underlying173 (e13 _) (Qq rfl (Qp rfl (Af 1 hRj.rd.any rfl underlying25 Bm rfl rfl rfl (by omega)) (QL rfl underlying3 (cb _) (QL rfl underlying173 (e13 _) (Qq rfl (Qp rfl (Af 1 hRj.rd.any rfl underlying25 Bm rfl rfl rfl (by omega)) (QL rfl underlying3 (cb _) (Qq rfl (Qp rfl (Af 0 hRj.rd.any rfl underlying25 Bm rfl rfl rfl (by omega)) (QL rfl underlying3 (ca _) ?_)))))))))))
       unfold GI
       simp only [List.cons_append, List.nil_append]
       refine A0 [8, 12] (by kernel_rfl) rfl ?_
       refine AB rfl ?_ ?_
       ·refine Qx (Dp (V := KN) (z := (Value.slice none 0 0)) b hu Ba hO (by simp) rfl underlying173 JD rfl rfl hbI) rfl ?_
        refine Qw (Qo 12 rfl ?_)
        refine Ao [_] rfl underlying25 Bm rfl (by rfl) rfl rfl (by omega) rfl rfl rfl (fun g107 => ?_)
        refine Qw (Qo 13 rfl ?_)
        refine AJ 1 hO1 (RdL.one AT (x := a) (List.Mem.head _) rfl) rfl underlying25 Bm rfl (by omega) rfl rfl rfl BW (by (try simp only [List.length_singleton]); omega) (by (try simp only [List.length_singleton]); omega) rfl rfl rfl (fun v9 m9 hO9 => ?_)
        have ov9 : v9.oneCell' = true := (hO9.rd (h := h5) (ms := [m9]) (List.Mem.head _)).rd.one
        refine Qw (Qo 14 rfl (Bp (V := KN) (z := undef) 4 b v9 Ba hO rfl rfl underlying173 rfl rfl rfl hbI rfl rfl (fun mM' bs2 hM' => Qw (Qe (AS (EC fun hap => (EU ?_)))))))
        have hdj := (List.pairwise_cons.1 hap).1 _ (List.Mem.head _)
        have hMS' := close v9 _ m9 mM' bs2 hdj hO9 hM'
        rw [← hjeq2, ← hsn] at hMS'
        refine Aj ?_
        have hv' := (hvl I').1
        rw [List.length_append, List.length_singleton] at hv'
        exact Am (M.length - (vis.length + 1)) _ (by omega) ⟨vis ++ [j], mi', _, mM', by simp, rfl, rfl, rfl, I', hMS', fun i hi' hv => by rcases List.mem_append.1 hv with hv | hv; exact hz i hi' hv; simp at hv; subst hv; rw [hL]; rfl⟩ Qs
       refine AB rfl ?_ ?_
       ·refine Ao [_] rfl underlying25 Bm rfl (by rfl) rfl rfl (by omega) rfl rfl rfl (fun g107 => ?_)
        refine Qw (Qo 8 rfl ?_)
        refine Qx (Dp (V := KN) (z := (Value.slice none 0 0)) b hu Ba hO (by simp) rfl underlying173 JD rfl rfl hbI) rfl ?_
        refine Qw (Qo 13 rfl ?_)
        refine AJ 1 hO1 (RdL.one AT (x := a) (List.Mem.head _) rfl) rfl underlying25 Bm rfl (by omega) rfl rfl rfl BW (by (try simp only [List.length_singleton]); omega) (by (try simp only [List.length_singleton]); omega) rfl rfl rfl (fun v9 m9 hO9 => ?_)
        have ov9 : v9.oneCell' = true := (hO9.rd (h := h5) (ms := [m9]) (List.Mem.head _)).rd.one
        refine Qw (Qo 14 rfl (Bp (V := KN) (z := undef) 4 b v9 Ba hO rfl rfl underlying173 rfl rfl rfl hbI rfl rfl (fun mM' bs2 hM' => Qw (Qe (AS (EC fun hap => (EU ?_)))))))
        have hdj := (List.pairwise_cons.1 hap).1 _ (List.Mem.head _)
        have hMS' := close v9 _ m9 mM' bs2 hdj hO9 hM'
        rw [← hjeq2, ← hsn] at hMS'
        refine Aj ?_
        have hv' := (hvl I').1
        rw [List.length_append, List.length_singleton] at hv'
        exact Am (M.length - (vis.length + 1)) _ (by omega) ⟨vis ++ [j], mi', _, mM', by simp, rfl, rfl, rfl, I', hMS', fun i hi' hv => by rcases List.mem_append.1 hv with hv | hv; exact hz i hi' hv; simp at hv; subst hv; rw [hL]; rfl⟩ Qs
       exact A3
   ·obtain ⟨vis, mJB, mJ, rfl, rfl, rfl, hJS, hv1, hv2, hv3, h2⟩ := hI
    refine BA fun h6 k6 fJB => (BA fun h7 k7 fJ => ?_)
    have fJB7 := Hp.le_trans fJB k7
    have l57 := Hp.le_trans k6 k7
    refine Az (Cd (K := kN) (V := vB) (Ok := Bq) rfl rfl rfl rfl (fun gS mS hS0 => C4 [.map none] rfl VO rfl rfl (fun g16 => ?_)))
    refine AK 0 0 rfl VO rfl rfl (by rfl) rfl rfl (by decide) rfl rfl ?_
    refine An (AA fun h8 k8 hS16 => ?_)
    have e16 : ∀ ms, Cell h8 ms (⟨g16, 0, none⟩ : Addr) (.map (some gS)) := fun ms => Seg.all hS16 0 _ rfl ms
    refine Az (C4 [.nilFunc] rfl QN rfl rfl (fun g17 => BG (Qx (Bv rfl rfl rfl) rfl ?_)))
    refine AK 0 0 rfl QN rfl rfl (by rfl) rfl rfl (by decide) rfl rfl ?_
    refine An (AA fun h9 k9 hS17 => ?_)
    have e17 : ∀ ms, Cell h9 ms (⟨g17, 0, none⟩ : Addr) (.func (.func 131) #[] #[.pointer (some ⟨g16, 0, none⟩), .pointer (some ⟨g13, 0, none⟩), .pointer (some ⟨g17, 0, none⟩)]) := fun ms => Seg.all hS17 0 _ rfl ms
    obtain ⟨P, hP⟩ : ∃ P, vis.map pr = P := ⟨_, rfl⟩
    rw [hP] at hJS
    have hpm : ∀ p, p ∈ P ↔ ∃ j, ∃ hj : j < M.length, M[j].2 = [p.1, p.2] := fun p => by
     rw [← hP, List.mem_map]
     have hpj : ∀ j (hj : j < M.length), M[j].2 = [(pr j).1, (pr j).2] := fun j hj => by
      have e : M.getD j (0, []) = M[j] := by simp [List.getD, hj]
      simp only [pr]
      rw [e]
      have hl := h2 j hj
      match M[j].2, hl with
      | [a, b], _ => rfl
     constructor
     ·rintro ⟨j, hj, rfl⟩
      exact ⟨j, hv2 j hj, hpj j _⟩
     ·rintro ⟨j, hj, e⟩
      refine ⟨j, hv3 j hj, ?_⟩
      have := hpj j hj
      rw [e] at this
      simp only [List.cons.injEq, and_true] at this
      exact Prod.ext this.1.symm this.2.symm
    have hMj : ∀ j (hj : j < M.length), (E.filter fun e => decide (e.2.1 = M[j].1)).map (fun e => e.1) = M[j].2 := fun j hj => by
     have hg : M[j]? = some (M[j].1, M[j].2) := List.getElem?_eq_getElem hj
     rw [← hMg, Di hMn hg]; rfl
    have hcnt : ∀ e ∈ E, EK E e.2.1 = 2 := fun e he => by
     obtain ⟨l, v, hl⟩ := Gn ((hMk e.2.1).2 ⟨e, he, rfl⟩)
     obtain ⟨h1, e1⟩ := List.getElem?_eq_some_iff.1 hl
     have h3 := hMj l h1
     have h4 := h2 l h1
     rw [← h3, e1, List.length_map] at h4
     rw [Hg]
     have h4 : (E.filter fun e' => decide (e'.2.1 = e.2.1)).length = 2 := h4
     omega
    have hJm : ∀ a k, k ∈ (AZ (DZ P) a).getD [] ↔ ∃ c p q, (E.filter fun e => decide (e.2.1 = c)).map (fun e => e.1) = [p, q] ∧ ((a = p ∧ k = q) ∨ (a = q ∧ k = p)) := fun a k => by
     rw [Sf, hpm, hpm]
     constructor
     ·rintro (⟨j, hj, e⟩ | ⟨j, hj, e⟩)
      ·exact ⟨M[j].1, a, k, by rw [hMj j hj, e], .inl ⟨rfl, rfl⟩⟩
      ·exact ⟨M[j].1, k, a, by rw [hMj j hj, e], .inr ⟨rfl, rfl⟩⟩
     ·rintro ⟨c, p, q, e, h⟩
      have hc : ∃ j, ∃ hj : j < M.length, M[j].2 = [p, q] := by
       have hm : c ∈ M.map Prod.fst := (hMk c).2 (by
        have hpm : p ∈ (E.filter fun e => decide (e.2.1 = c)).map (fun e => e.1) := by rw [e]; exact List.Mem.head _
        obtain ⟨e', he', _⟩ := List.mem_map.1 hpm
        obtain ⟨h3, h4⟩ := List.mem_filter.1 he'
        exact ⟨e', h3, of_decide_eq_true h4⟩)
       obtain ⟨l, v, hl⟩ := Gn hm
       obtain ⟨h1, e1⟩ := List.getElem?_eq_some_iff.1 hl
       refine ⟨l, h1, ?_⟩
       rw [← hMj l h1, e1]; exact e
      obtain ⟨j, hj, e2⟩ := hc
      rcases h with ⟨rfl, rfl⟩ | ⟨rfl, rfl⟩
      ·exact .inl ⟨j, hj, e2⟩
      ·exact .inr ⟨j, hj, e2⟩
    have hPl : P.length ≤ 4200 := by rw [← hP, List.length_map]; have := PE E; rw [hM] at this; omega
    have V : Xl h9 gS gJ g16 g13 g17 mJ mJB (DZ P) (fun a => (AZ (DZ P) a).getD []) x.c.sd.length := ⟨fun ms => (e16 ms).le k9, fun ms => (e13 ms).le (Hp.le_trans l57 (Hp.le_trans k8 k9)), e17, hJS, Hp.le_trans fJ (Hp.le_trans k8 k9), Hp.le_trans fJB7 (Hp.le_trans k8 k9), fun a => rfl, fun a k hk => by
     obtain ⟨c, p, q, e, h⟩ := (hJm a k).1 hk
     have hin : ∀ y ∈ [p, q], 0 ≤ y ∧ y < x.c.sd.length := fun y hy => by
      rw [← e] at hy
      obtain ⟨e', he', rfl⟩ := List.mem_map.1 hy
      exact hEi e' (List.mem_filter.1 he').1
     rcases h with ⟨_, rfl⟩ | ⟨_, rfl⟩
     ·exact hin _ (List.mem_cons_of_mem _ (List.Mem.head _))
     ·exact hin _ (List.Mem.head _), fun a => by have := Lr P a; show ((AZ (DZ P) a).getD []).length ≤ _; omega, by omega⟩
    refine Az (Ql rfl underlying102 (e17 _) (Dt (pre := [mS]) rfl rfl call131 rfl (TM V (WW x.c.sd.length [] + 1) 0 [] [] mS hK.p hS0 (fun p hp => nomatch hp) (Nat.lt_succ_self _)) rfl rfl rfl rfl (fun v' h' pre' l' hF => ?_)))
    obtain ⟨rfl, m', T', bs', rfl, hO', hA', R⟩ := hF
    simp only [List.cons_append, List.nil_append, List.append_nil]
    refine An (Ac (Az (Ql rfl underlying92 ((e16 _).le k9) ?_)))
    refine Qx (Pw hO' (by simp) rfl underlying92 rfl) rfl ?_
    have hX9 := hX.up (Hp.le_trans lh4 (Hp.le_trans k5 (Hp.le_trans l57 (Hp.le_trans k8 k9))))
    have hmem : ∀ y, y ∈ C3 T' ↔ Con E 0 y := fun y => by
     rw [U7 hcnt hJm]
     constructor
     ·intro h; exact (R.new y h (fun q => nomatch q)).1.1
     ·intro h
      induction h with
      | refl => exact R.me
      | step _ h3 ih => exact (R.new _ ih (fun q => nomatch q)).1.2 _ h3
    have hlen : T'.length = x.c.sd.length ↔ (0 < x.c.sd.length ∧ ∀ i : Nat, i < x.c.sd.length → Con E 0 i) := by
     have hnd := hO'.keys
     have hsub : ∀ y ∈ C3 T', y ∈ (List.range x.c.sd.length).map fun (i : Nat) => (i : Int) := fun y hy => by
      have := (R.new y hy (fun q => nomatch q)).2
      exact List.mem_map.2 ⟨y.toNat, List.mem_range.2 (by omega), by omega⟩
     have hle := Go.Kuhn.nodup_le _ _ hnd hsub
     have hr : ((List.range x.c.sd.length).map fun (i : Nat) => (i : Int)).Nodup := List.pairwise_map.2 (List.nodup_range.imp fun h e => h (by omega))
     constructor
     ·intro h
      refine ⟨hK.p, fun i hi => (hmem _).1 (Classical.byContradiction fun hn => ?_)⟩
      have h3 := Go.Kuhn.nodup_le ((i : Int) :: C3 T') _ (List.nodup_cons.2 ⟨hn, hnd⟩) fun y hy => by
       rcases List.mem_cons.1 hy with rfl | hy
       ·exact List.mem_map.2 ⟨i, List.mem_range.2 hi, rfl⟩
       ·exact hsub y hy
      rw [List.length_cons, List.length_map, List.length_map, List.length_range] at h3
      omega
     ·rintro ⟨_, h⟩
      have h3 := Go.Kuhn.nodup_le _ (C3 T') hr fun y hy => by
       obtain ⟨i, hi, rfl⟩ := List.mem_map.1 hy
       exact (hmem _).2 (h i (List.mem_range.1 hi))
      rw [List.length_map, List.length_map, List.length_range] at h3
      rw [List.length_map, List.length_map, List.length_range] at hle
      omega
    refine Qf Bl rfl (Ql rfl underlying57 (((hA 2 _ rfl _).le (Hp.le_trans lh4 (Hp.le_trans k5 (Hp.le_trans l57 (Hp.le_trans k8 k9)))))) (Qx (AC hX9.rd.any rfl underlying57 rfl) rfl (Qm rfl (An ?_))))
    refine Ax rfl (fun hne => ?_) (fun hne => ?_)
    ·refine Ac (Ab (Qm rfl (An (Aq (Ae ?_)))))
     exact As rfl rfl (by unfold Ut; rw [if_neg (fun w => w hzero), if_neg (fun w => w hcnt), if_pos (fun w => hne (by rw [hlen.2 w]))])
    ·refine Ai (Ad (Az (Qm rfl (An (Aq ?_)))))
     exact As rfl rfl (by unfold Ut; rw [if_neg (fun w => w hzero), if_neg (fun w => w hcnt), if_neg (fun w => w (hlen.1 (by omega)))])
variable {U o : List Cl} {i : Nat}
theorem Fw {e : Entry} {Q : Exit → Act → World → Prop} {ops : Array Oper} {r : List Oper} {s : Ar} {h : Hp} {ms : List Hp} (k : WL e ops Q r s h ms) : ∀ pre : List Hp, WL e ops Q r s h (pre ++ ms)
 | [] => k
 | m :: pre => Lm 0 rfl (Fw k pre)
def IR (o : List Cl) (i : Nat) : Int := if i = 0 then 0 else (o.getD (i - 1) default).id
def cA (U o : List Cl) (i : Nat) : Option (Int × Int) :=
 if (o.getD i default).id ≤ IR o i then some ((o.getD i default).id, 20)
 else if Ds U (o.getD i default) ≠ 0 then some ((o.getD i default).id, Ds U (o.getD i default)) else none
noncomputable def Si (U o : List Cl) (i : Nat) : Option (Int × Int) :=
 if 1 < (o.getD i default).dim then
  if Ut (IM U (o.getD i default) (o.getD i default).sd.length) (o.getD i default).sd.length ≠ 0 then some ((o.getD i default).id, Ut (IM U (o.getD i default) (o.getD i default).sd.length) (o.getD i default).sd.length) else none
 else none
noncomputable def KI (U o : List Cl) : Int × Int :=
 match (List.range o.length).findSome? (cA U o) with
 | some e => e
 | none => match (List.range o.length).findSome? (Si U o) with
  | some e => e
  | none => (0, 0)
theorem Td {e : Int × Int} (hi : i < o.length) (h : ∀ j, j < i → cA U o j = none) (he : cA U o i = some e) : KI U o = e := by
 unfold KI
 rw [CY h he o.length hi]
theorem W3 {e : Int × Int} (hA : ∀ j, j < o.length → cA U o j = none) (hi : i < o.length) (h : ∀ j, j < i → Si U o j = none) (he : Si U o i = some e) : KI U o = e := by
 unfold KI
 rw [B9 o.length hA, CY h he o.length hi]
theorem T7 (hA : ∀ j, j < o.length → cA U o j = none) (hB : ∀ j, j < o.length → Si U o j = none) : KI U o = (0, 0) := by
 unfold KI
 rw [B9 o.length hA, B9 o.length hB]
structure Xi (l : List Ce) : Prop extends OfOk l where
 d : ∀ a ∈ l, Bq a.c.dim
 r : ∀ a ∈ l, ∀ s ∈ a.c.sd, Bq s.1 ∧ Bq s.2
theorem Li {x : Cl} (h : Ds U x = 0) : (0 ≤ x.dim ∧ x.dim ≤ 8) ∧ ¬ BD x ∧ (∀ i, i < x.sd.length → ¬ GL U x i) ∧ ∀ i, i < x.sd.length → ¬ Bw x i := by
 unfold Ds at h
 split at h
 ·exact absurd h (by decide)
 rename_i h1
 split at h
 ·exact absurd h (by decide)
 rename_i h2
 split at h
 ·exact absurd h (by decide)
 rename_i h3
 split at h
 ·exact absurd h (by decide)
 rename_i h4
 exact ⟨by omega, h2, Classical.not_not.1 h3, Classical.not_not.1 h4⟩
theorem HN (h : i < o.length) : o.getD i default = o[i] := by simp [List.getD, h]
theorem QI (hi : i < o.length) (h : cA U o i = none) : IR o i < o[i].id ∧ Ds U o[i] = 0 := by
 unfold cA at h
 rw [HN hi] at h
 split at h
 ·cases h
 ·rename_i h1
  split at h
  ·cases h
  ·rename_i h2
   exact ⟨by omega, Classical.not_not.1 h2⟩
theorem W4 (h : ∀ j, j < o.length → cA U o j = none) : o.Pairwise fun a b => a.id < b.id := by
 have key : ∀ j (hj : j < o.length) i (hi : i < j), o[i].id < o[j].id := fun j => by
  induction j with
  | zero => intro hj i hi; omega
  | succ j ih =>
   intro hj i hi
   have h1 := (QI hj (h _ hj)).1
   have h2 : IR o (j + 1) = o[j].id := by
    unfold IR
    rw [if_neg (by omega), Nat.add_sub_cancel, HN (by omega)]
   rw [h2] at h1
   rcases (by omega : i < j ∨ i = j) with h3 | rfl
   ·have := ih (by omega) i h3; omega
   ·exact h1
 rw [List.pairwise_iff_getElem]
 intro i j hi hj hij
 exact key j hj i hij
theorem Xz {l o1 o2 : List Cl} (C1 : CanO l o1) (C2 : CanO l o2) (hU : ∀ y ∈ U, y ∈ o1) (hr : ∀ a ∈ l, ∀ s ∈ a.sd, Bq s.1 ∧ Bq s.2) (hA : ∀ j, j < o2.length → cA U o2 j = none) {x : Cl} (hx : x ∈ o2) (hd : 1 < x.dim) : Vm U x := by
 have hnd : (l.map Cl.id).Nodup := C2.ids.nodup_iff.1 (Pi (W4 hA))
 have hf : ∀ y ∈ o2, Ds U y = 0 := fun y hy => by
  obtain ⟨j, hj, rfl⟩ := List.getElem_of_mem hy
  exact (QI hj (hA j hj)).2
 have hy2 : ∀ y ∈ o2, y.sd.length ≤ 64 ∧ ∀ s ∈ y.sd, Bq s.1 ∧ (s.2 = 1 ∨ s.2 = -1) := fun y hy => by
  obtain ⟨h1, h2, h3, h4⟩ := Li (hf y hy)
  refine ⟨by unfold BD at h2; omega, fun s hs => ?_⟩
  obtain ⟨i, hi, rfl⟩ := List.getElem_of_mem hs
  have h5 := h4 i hi
  unfold Bw at h5
  rw [A4 hi] at h5
  obtain ⟨a, ha, _, _, hp⟩ := C2.sim.mem y hy
  exact ⟨(hr a ha _ (hp.mem_iff.1 (List.getElem_mem hi))).1, by omega⟩
 have hyU : ∀ y ∈ U, y.sd.length ≤ 64 ∧ ∀ s ∈ y.sd, Bq s.1 ∧ (s.2 = 1 ∨ s.2 = -1) := fun y hy => by
  obtain ⟨a, ha, _, _, hp⟩ := C1.sim.mem y (hU y hy)
  obtain ⟨y', hy', _, _, hp'⟩ := C2.sim.to hnd ha
  obtain ⟨h1, h2⟩ := hy2 y' hy'
  refine ⟨by rw [hp.length_eq, ← hp'.length_eq]; exact h1, fun s hs => h2 s (hp'.mem_iff.2 (hp.mem_iff.1 hs))⟩
 have hcel : ∀ c, (Gu U c).sd.length ≤ 64 ∧ ∀ s ∈ (Gu U c).sd, Bq s.1 ∧ (s.2 = 1 ∨ s.2 = -1) := fun c => by
  unfold Gu Jg
  cases hc : U.find? fun y => decide (y.id = c) with
  | none => exact ⟨by simp [default, instInhabitedCl.default], fun s hs => by simp [default, instInhabitedCl.default] at hs⟩
  | some y => exact hyU y (List.mem_of_find?_eq_some hc)
 obtain ⟨h1, h2⟩ := hy2 x hx
 obtain ⟨_, h4, _, _⟩ := Li (hf x hx)
 exact ⟨h1, by unfold BD at h4; omega, fun i _ => (hcel _).1, fun s hs => h2 s hs, fun i _ r hr => (hcel _).2 r hr⟩
theorem Ri (l : List Ce) (v : Value) (hp : Hp) (hK : Xi l) (hR : RdC hp v l) : FnT Tryz.prog 97 #[.agg #[v]] hp [] (fun r _ _ => ∃ e, r = .tuple #[.int .i64 e.1, .int .i64 e.2] ∧ ((4000 < l.length ∧ e = (0, 2)) ∨ (l.length ≤ 4000 ∧ ∃ A1 A2 : List Ce, CanO (l.map Ce.c) (A1.map Ce.c) ∧ CanO (l.map Ce.c) (A2.map Ce.c) ∧ e = KI ((O4 A1).map Ce.c) (A2.map Ce.c)))) := by
 have o1 := hR.q.rd.one
 refine Av func97 ntmps97 rfl rfl (fun w0 hw0 => ?_)
 simp only [A5]
 refine Az ?_
 refine A8 [_] rfl rfl (by rfl) rfl rfl rfl (fun g1 => ?_)
 refine Qm rfl (Qm rfl (An (AA fun h1 l1 hS => ?_)))
 have hR := hR.up l1
 refine Ac (Az (Qf BX rfl (Ql rfl underlying27 (Seg.all hS 0 _ rfl _) (Qx (AC hR.q.rd.any rfl underlying27 rfl) rfl (Qm rfl (An ?_))))))
 refine Ax rfl (fun h4 => ?_) (fun h4 => ?_)
 ·refine Ac (Ab (Qm rfl (Qm rfl (An (Aq (Ae ?_))))))
  exact BH rfl rfl rfl (⟨(0, 2), rfl, .inl ⟨by omega, rfl⟩⟩)
 ·refine Ai (Ad (Az (Qx (oG rfl underlying29 Bi (Seg.any hS)) rfl (Qc call50 rfl (V9 l v h1 hK.toOfOk hR) (fun rT h2 ms2 l2 hF => ?_)))))
  obtain ⟨l2', rfl, g, A1, rfl, hC1, hT⟩ := hF
  have hR2 := hR.up l2
  have hS2 := hS.le l2
  refine Qm rfl (BG (Qx (oG rfl underlying29 Bi (Seg.any hS2)) rfl (Qc call66 rfl (Iq l v h2 hK.n hK.s hR2) (fun rC h3 ms3 l3 hF => ?_))))
  obtain ⟨l3', mA, A2, vA, rfl, rfl, hOA, hC2, hsA⟩ := hF
  refine A7 hOA fun hq l4 hQ => ?_
  have hsA := fun a ha => (hsA a ha).up l4
  have hT := hT.up (Hp.le_trans l3 l4)
  have ovA := hQ.rd.one
  have hU1 : ∀ y ∈ (O4 A1).map Ce.c, y ∈ A1.map Ce.c := fun y hy => by
   obtain ⟨a, ha, rfl⟩ := List.mem_map.1 hy
   rcases Jj _ _ a ha with h | h
   ·cases h
   ·exact List.mem_map.2 ⟨a, h, rfl⟩
  obtain ⟨W, hW⟩ : ∃ W, O4 A1 = W := ⟨_, rfl⟩
  rw [hW] at hT hU1
  have hol : A2.length = l.length := by have := hC2.len; rwa [List.length_map, List.length_map] at this
  have hln := hK.n
  have hx2 : ∀ a ∈ A2, ∃ b ∈ l, a.c.id = b.c.id ∧ a.c.dim = b.c.dim ∧ a.c.sd.Perm b.c.sd := fun a ha => by
   obtain ⟨y, hy, e1, e2, e3⟩ := hC2.sim.mem a.c (List.mem_map.2 ⟨a, ha, rfl⟩)
   obtain ⟨b, hb, rfl⟩ := List.mem_map.1 hy
   exact ⟨b, hb, e1, e2, e3⟩
  have hget : ∀ i (hi : i < A2.length), (A2.map Ce.c).getD i default = A2[i].c := fun i hi => by simp [List.getD, hi]
  have hres : ∀ e, e = KI (W.map Ce.c) (A2.map Ce.c) → (4000 < l.length ∧ e = (0, 2)) ∨ (l.length ≤ 4000 ∧ ∃ A1 A2 : List Ce, CanO (l.map Ce.c) (A1.map Ce.c) ∧ CanO (l.map Ce.c) (A2.map Ce.c) ∧ e = KI ((O4 A1).map Ce.c) (A2.map Ce.c)) := fun e he => .inr ⟨by omega, A1, A2, hC1, hC2, by rw [he, hW]⟩
  refine Qx (Ff rfl underlying29 rfl underlying27 rfl rfl rfl) rfl (Qm rfl (Qm rfl (An ?_)))
  refine AV (fun sl h' ms' => sl = [(4, .pointer (some ⟨g, 0, none⟩)), (6, vA)] ∧ hq.le h' ∧ ms' = [] ∧ ∀ j, j < A2.length → cA (W.map Ce.c) (A2.map Ce.c) j = none) ?_ (fun s h ms hI => ?_)
  ·refine Ac (Ab (Qm rfl (Qx (AC hQ.rd.any rfl underlying27 rfl) rfl (Qm rfl (An (Ah ?_))))))
   refine AD (fun q sl h' ms' => ∃ (i : Nat), q = A2.length - i ∧ sl = [(4, .pointer (some ⟨g, 0, none⟩)), (5, .int .i64 (IR (A2.map Ce.c) i)), (6, vA), (22, vA), (23, .int .i64 A2.length), (24, .int .i64 i)] ∧ hq.le h' ∧ ms' = [] ∧ i ≤ A2.length ∧ ∀ j, j < i → cA (W.map Ce.c) (A2.map Ce.c) j = none)
    (A2.length - 0) _ ⟨0, rfl, rfl, Hp.le_refl _, rfl, by omega, fun j h => by omega⟩ Qs ?_
   rintro q sl h5 ms' ⟨i, rfl, rfl, l5, rfl, hi, hno⟩
   have hQ := hQ.up l5
   refine Az (Qm rfl (An (Ac ?_)))
   refine Ax rfl (fun hlt => ?_) (fun hlt => ?_)
   ·have hil : i < A2.length := by omega
    obtain ⟨x, hx⟩ : ∃ x, A2[i] = x := ⟨_, rfl⟩
    have hxm : x ∈ A2 := by rw [← hx]; exact List.getElem_mem hil
    have hgx := hget i hil
    rw [hx] at hgx
    obtain ⟨b, hb, e1, e2, e3⟩ := hx2 x hxm
    have hX := (hsA x hxm).up l5
    have hd : Bq x.c.dim := by rw [e2]; exact hK.d b hb
    have hn : x.c.sd.length ≤ 1000000 := by rw [e3.length_eq]; exact hK.s b hb
    have hr : ∀ s ∈ x.c.sd, Bq s.1 ∧ Bq s.2 := fun s hs => hK.r b hb s (e3.mem_iff.1 hs)
    have oxv := hX.rd.one
    have hl1 : IR (A2.map Ce.c) (i + 1) = x.c.id := by
     unfold IR
     rw [if_neg (by omega), Nat.add_sub_cancel, hgx]
    have hcl : i < (A2.map Ce.c).length := by rw [List.length_map]; exact hil
    have hsx : ∀ ms, Seg h5 ms ((AI vA).add (i * 3)) (cC x) := fun ms => by rw [← hx]; exact (hQ.any (ms := ms)).seg hil
    refine Ai (Ad (Ac (Ah (Az (Qx (Af (i) hQ.rd.any rfl underlying27 AH rfl rfl (by omega) (by omega)) rfl (Qx (oG rfl underlying59 AH (hsx _)) rfl (C4 [.int .i64 0, .int .i64 0, .slice none 0 0] rfl AH rfl rfl (fun g8 => ?_))))))))
    refine Sa 0 [_, _, _] AH rfl (by simp [o1, ovA, oxv]) ?_
    refine An (AA fun h6 l6 hS8 => ?_)
    have e80 : ∀ ms, Cell h6 ms (⟨g8, 0, none⟩ : Addr) (.int .i64 x.c.id) := fun ms => Seg.all hS8 0 _ rfl ms
    have l56 := Hp.le_trans l5 l6
    refine Ac (Az (Qf Bo rfl (Ql rfl underlying3 (e80 _) (Qm rfl (Qm rfl (An ?_))))))
    refine Ax rfl (fun hle => ?_) (fun hle => ?_)
    ·have hch := Td (U := W.map Ce.c) hcl hno (by unfold cA; rw [hgx, if_pos hle])
     refine Az (Qf Bo rfl (Ql rfl underlying3 (e80 _) (Qm rfl (Qm rfl (An (Aq (Ae (Al (Ae (Ae (Al (Ae ?_))))))))))))
     exact BH rfl rfl rfl (⟨_, rfl, hres _ hch.symm⟩)
    ·refine Ai (Ad (Az (Qf Bo rfl (Ql rfl underlying3 (e80 _) (Qm rfl (BG (Qm rfl (Qx (oG rfl underlying59 AH (Seg.any hS8)) rfl (Qc call117 rfl (UI W x g h6 (hT.up l56) (hX.up l6) hd hn hr) (fun rF h7 ms7 l7 hF => ?_))))))))))
     subst hF
     refine Fw ?_ ms7
     have e80 : ∀ ms, Cell h7 ms (⟨g8, 0, none⟩ : Addr) (.int .i64 x.c.id) := fun ms => (e80 ms).le l7
     refine Qm rfl (BG (Qm rfl (Qm rfl (An ?_))))
     refine Ax rfl (fun hne => ?_) (fun hne => ?_)
     ·have hch := Td (U := W.map Ce.c) hcl hno (by unfold cA; rw [hgx, if_neg hle, if_pos hne])
      refine Az (Qf Bo rfl (Ql rfl underlying3 (e80 _) (Qm rfl (Qm rfl (Qm rfl (An (Aq (Al (Ae (Ae (Al (Ae ?_))))))))))))
      exact BH rfl rfl rfl (⟨_, rfl, hres _ hch.symm⟩)
     ·have hci : cA (W.map Ce.c) (A2.map Ce.c) i = none := by unfold cA; rw [hgx, if_neg hle, if_neg hne]
      refine Ai (Aj (Ad (Ab (Qx (oA rfl) rfl (Qm rfl (Ak ?_))))))
      exact Am (A2.length - (i + 1)) _ (by omega) ⟨i + 1, rfl, by rw [hl1], Hp.le_trans l56 l7, rfl, by omega, fun j hj => by
       rcases (by omega : j < i ∨ j = i) with h1 | rfl
       ·exact hno j h1
       ·exact hci⟩ Qs
   ·obtain rfl : i = A2.length := by omega
    refine Aw (Aa (Aa (Ag ?_)))
    exact Ay _ ⟨rfl, l5, rfl, hno⟩ Qs
  ·obtain ⟨rfl, l5, rfl, hno⟩ := hI
   have hno' : ∀ j, j < (A2.map Ce.c).length → cA (W.map Ce.c) (A2.map Ce.c) j = none := fun j hj => hno j (by rwa [List.length_map] at hj)
   have hQ := hQ.up l5
   have hT := hT.up l5
   have hsA := fun a ha => (hsA a ha).up l5
   refine Ac (Az (Qm rfl (Qx (AC hQ.rd.any rfl underlying27 rfl) rfl (Qm rfl (An (Ah ?_))))))
   refine AD (fun q sl h' ms' => ∃ (i : Nat), q = A2.length - i ∧ sl = [(4, .pointer (some ⟨g, 0, none⟩)), (45, vA), (46, .int .i64 A2.length), (47, .int .i64 i)] ∧ h.le h' ∧ ms' = [] ∧ i ≤ A2.length ∧ ∀ j, j < i → Si (W.map Ce.c) (A2.map Ce.c) j = none)
    (A2.length - 0) _ ⟨0, rfl, rfl, Hp.le_refl _, rfl, by omega, fun j h => by omega⟩ Qs ?_
   rintro q sl h6 ms' ⟨i, rfl, rfl, l6, rfl, hi, hnB⟩
   have hQ := hQ.up l6
   refine Az (Qm rfl (An (Ac ?_)))
   refine Ax rfl (fun hlt => ?_) (fun hlt => ?_)
   ·have hil : i < A2.length := by omega
    obtain ⟨x, hx⟩ : ∃ x, A2[i] = x := ⟨_, rfl⟩
    have hxm : x ∈ A2 := by rw [← hx]; exact List.getElem_mem hil
    have hgx := hget i hil
    rw [hx] at hgx
    have hX := (hsA x hxm).up l6
    have oxv := hX.rd.one
    have hcl : i < (A2.map Ce.c).length := by rw [List.length_map]; exact hil
    have hsx : ∀ ms, Seg h6 ms ((AI vA).add (i * 3)) (cC x) := fun ms => by rw [← hx]; exact (hQ.any (ms := ms)).seg hil
    have hstep : Si (W.map Ce.c) (A2.map Ce.c) i = none → ∀ j, j < i + 1 → Si (W.map Ce.c) (A2.map Ce.c) j = none := fun h j hj => by
     rcases (by omega : j < i ∨ j = i) with h1 | rfl
     ·exact hnB j h1
     ·exact h
    refine Ai (Ad (Ac (Ah (Az (Qx (Af (i) hQ.rd.any rfl underlying27 AH rfl rfl (by omega) (by omega)) rfl (Qx (oG rfl underlying59 AH (hsx _)) rfl (C4 [.int .i64 0, .int .i64 0, .slice none 0 0] rfl AH rfl rfl (fun g11 => ?_))))))))
    refine Sa 0 [_, _, _] AH rfl (by simp [o1, ovA, oxv]) ?_
    refine An (AA fun h7 l7 hS11 => ?_)
    have e110 : ∀ ms, Cell h7 ms (⟨g11, 0, none⟩ : Addr) (.int .i64 x.c.id) := fun ms => Seg.all hS11 0 _ rfl ms
    have e111 : ∀ ms, Cell h7 ms (⟨g11, 1, none⟩ : Addr) (.int .i64 x.c.dim) := fun ms => Seg.all hS11 1 _ rfl ms
    have l67 := Hp.le_trans l6 l7
    refine Az (Qf BC rfl (Ql rfl underlying3 (e111 _) (Qm rfl (An ?_))))
    refine Ax rfl (fun hd => ?_) (fun hd => ?_)
    ·have hAr : Vm (W.map Ce.c) x.c := Xz hC1 hC2 hU1 (fun a ha s hs => by
      obtain ⟨b, hb, rfl⟩ := List.mem_map.1 ha
      exact hK.r b hb s hs) hno' (List.mem_map.2 ⟨x, hxm, rfl⟩) hd
     refine Az (Qm rfl (Qx (oG rfl underlying59 AH (Seg.any hS11)) rfl (Qc call118 rfl (Rj W x g h7 (hT.up l67) (hX.up l7) hAr) (fun rF h8 ms8 l8 hF => ?_))))
     subst hF
     refine Fw ?_ ms8
     have e110 : ∀ ms, Cell h8 ms (⟨g11, 0, none⟩ : Addr) (.int .i64 x.c.id) := fun ms => (e110 ms).le l8
     refine Qm rfl (BG (Qm rfl (Qm rfl (An ?_))))
     refine Ax rfl (fun hne => ?_) (fun hne => ?_)
     ·have hch := W3 (U := W.map Ce.c) hno' hcl hnB (by unfold Si; rw [hgx, if_pos hd, if_pos hne])
      refine Az (Qf Bo rfl (Ql rfl underlying3 (e110 _) (Qm rfl (Qm rfl (Qm rfl (An (Aq (Al (Ae (Ae (Al (Ae ?_))))))))))))
      exact BH rfl rfl rfl (⟨_, rfl, hres _ hch.symm⟩)
     ·have hci : Si (W.map Ce.c) (A2.map Ce.c) i = none := by unfold Si; rw [hgx, if_pos hd, if_neg hne]
      refine Ai (Aj (Ad (Ab (Qx (oA rfl) rfl (Qm rfl (Ak ?_))))))
      exact Am (A2.length - (i + 1)) _ (by omega) ⟨i + 1, rfl, rfl, Hp.le_trans l67 l8, rfl, by omega, hstep hci⟩ Qs
    ·have hci : Si (W.map Ce.c) (A2.map Ce.c) i = none := by unfold Si; rw [hgx, if_neg hd]
     refine Ai (Aj (Ad (Ab (Qx (oA rfl) rfl (Qm rfl (Ak ?_))))))
     exact Am (A2.length - (i + 1)) _ (by omega) ⟨i + 1, rfl, rfl, l67, rfl, by omega, hstep hci⟩ Qs
   ·obtain rfl : i = A2.length := by omega
    have hch := T7 hno' (fun j hj => hnB j (by rwa [List.length_map] at hj))
    refine Aw (Aa (Aa (Ag (Ad (Az (Qm rfl (Qm rfl (An (Aq ?_)))))))))
    exact BH rfl rfl rfl (⟨(0, 0), rfl, hres _ hch.symm⟩)
end Go.Proofs.YtodheebhahdepaaGreat
namespace Go.Proofs.YtodheebhahdepaaGreat
open Go.Proofs.Tryz
open Go.Eng Go.RowKit
variable {x : Cl} {o : List Cl}
theorem T5 (U : List Cl) (x : Cl) : FV U x = (IM U x x.sd.length).map fun e => ((Bc x e.1.toNat).1, e.2) := by
 have hx : x.sd = (List.range x.sd.length).map (Bc x) := List.ext_getElem (by simp) fun j h1 h2 => by simp [A4 h1]
 unfold FV KF
 conv => lhs; rw [hx]
 unfold IM
 rw [List.flatMap_map, List.map_flatMap]
 refine Et fun i hi => ?_
 unfold Ug
 rw [List.map_map]
 exact List.map_congr_left fun r _ => by simp
theorem Ta (E : Fo) (f : Int → Int) (c : Int) : Dy (E.map fun e => (f e.1, e.2)) c = Dy E c ∧ EK (E.map fun e => (f e.1, e.2)) c = EK E c := by
 unfold Dy EK
 rw [List.map_map, List.map_map]
 exact ⟨rfl, rfl⟩
theorem Vq {U : List Cl} (G : GoodT (FV U x) x.sd) (hn : 0 < x.sd.length) (hd : (x.sd.map Prod.fst).Nodup) : Ut (IM U x x.sd.length) x.sd.length = 0 := by
 have hT := T5 U x
 obtain ⟨E, hE⟩ : ∃ E, IM U x x.sd.length = E := ⟨_, rfl⟩
 have hi : ∀ e ∈ E, ∃ i : Nat, i < x.sd.length ∧ e.1 = (i : Int) := fun e he => by
  rw [← hE] at he
  obtain ⟨i, hi, r, _, rfl⟩ := L7 he
  exact ⟨i, hi, rfl⟩
 rw [hE] at hT ⊢
 rw [hT] at G
 have hsm := fun c => Ta E (fun k => (Bc x k.toNat).1) c
 have h1 : ∀ e ∈ E, Dy E e.2.1 = 0 := fun e he => by
  have h := G.sum ((Bc x e.1.toNat).1, e.2) (List.mem_map.2 ⟨e, he, rfl⟩)
  rw [(hsm _).1] at h
  exact h
 have h2 : ∀ e ∈ E, EK E e.2.1 = 2 := fun e he => by
  have h := G.two ((Bc x e.1.toNat).1, e.2) (List.mem_map.2 ⟨e, he, rfl⟩)
  rw [(hsm _).2] at h
  exact h
 have hinj : ∀ i j : Nat, i < x.sd.length → j < x.sd.length → (Bc x i).1 = (Bc x j).1 → i = j := fun i j hi hj e => by
  rcases Nat.lt_trichotomy i j with h | h | h
  ·exact absurd e (Ic hd i j h hj)
  ·exact h
  ·exact absurd e.symm (Ic hd j i h hi)
 have hcon : ∀ {u v : Int}, Con (E.map fun e => ((Bc x e.1.toNat).1, e.2)) u v → ∀ i : Nat, i < x.sd.length → u = (Bc x i).1 → ∃ j : Nat, j < x.sd.length ∧ v = (Bc x j).1 ∧ Con E i j := fun {u v} h => by
  induction h with
  | refl => intro i hi e; exact ⟨i, hi, e, .refl _⟩
  | @step b d c w w' _ m1 m2 ih =>
   intro i hi0 e
   obtain ⟨j, hj, e1, C⟩ := ih i hi0 e
   obtain ⟨p, hp, q1⟩ := List.mem_map.1 m1
   obtain ⟨p', hp', q2⟩ := List.mem_map.1 m2
   obtain ⟨k, hk, ek⟩ := hi p hp
   obtain ⟨k', hk', ek'⟩ := hi p' hp'
   rw [ek] at q1
   rw [ek'] at q2
   have a1 := (Prod.mk.injEq _ _ _ _ ▸ q1 : _ ∧ _)
   have a2 := (Prod.mk.injEq _ _ _ _ ▸ q2 : _ ∧ _)
   obtain ⟨b1, b2⟩ := a1
   obtain ⟨b1', b2'⟩ := a2
   rw [Int.toNat_natCast] at b1 b1'
   have hkj : k = j := hinj k j hk hj (by rw [b1, e1])
   subst hkj
   refine ⟨k', hk', b1'.symm, .step C (c := c) (w := w) (w' := w') ?_ ?_⟩
   ·have : p = ((k : Int), c, w) := by rw [← ek, ← b2]
    rw [← this]; exact hp
   ·have : p' = ((k' : Int), c, w') := by rw [← ek', ← b2']
    rw [← this]; exact hp'
 have h3 : 0 < x.sd.length ∧ ∀ i : Nat, i < x.sd.length → Con E 0 i := by
  refine ⟨hn, fun i hi' => ?_⟩
  have hc := G.con (Bc x 0) (by rw [A4 hn]; exact List.getElem_mem hn) (Bc x i) (by rw [A4 hi']; exact List.getElem_mem hi')
  obtain ⟨j, hj, e, C⟩ := hcon hc 0 hn rfl
  rw [hinj i j hi' hj e]; exact C
 unfold Ut
 rw [if_neg (fun w => w h1), if_neg (fun w => w h2), if_neg (fun w => w h3)]
theorem UZ : UD x x.sd.length = (x.sd.map Prod.snd).sum := by unfold UD; rw [List.take_length]
theorem T3 (R : Rgt o) (hx : x ∈ o) : Ds o x = 0 := by
 have hb : ∀ i, i < x.sd.length → ¬ GL o x i := fun i hi q => by
  obtain ⟨y, hy, e1, e2⟩ := R.sid x hx _ (List.getElem_mem hi)
  unfold GL at q
  rw [A4 hi, ← e1, GB R.nd hy, CM R.nd hy] at q
  rcases q with q | q | ⟨q1, q2⟩
  ·cases q
  ·exact q e2
  ·rw [e1, ← A4 hi] at q2
   exact Ic (R.sds x hx) (i - 1) i (by omega) hi q2
 have hs : ∀ i, i < x.sd.length → ¬ Bw x i := fun i hi q => by
  unfold Bw at q
  rw [A4 hi] at q
  have := R.sgn x hx _ (List.getElem_mem hi)
  omega
 unfold Ds
 rw [if_neg (by have := R.dim x hx; omega), if_neg (R.num x hx), if_neg (fun w => w hb), if_neg (fun w => w hs), if_neg fun q => by
  have := R.one x hx q.1
  rw [UZ] at q
  exact q.2 this]
theorem TQ (R : RgtF o) : KI o o = (0, 0) := by
 have G := R.rgt
 refine T7 (fun j hj => ?_) fun j hj => ?_
 ·unfold cA
  rw [HN hj, if_neg, if_neg]
  ·exact fun q => q (T3 G (List.getElem_mem hj))
  ·unfold IR
   split
   ·have := G.pos _ (List.getElem_mem hj); omega
   ·rw [HN (by omega)]
    have := List.pairwise_iff_getElem.1 R.inc (j - 1) j (by omega) hj (by omega)
    omega
 ·unfold Si
  rw [HN hj]
  split
  ·rename_i hd
   have hx := List.getElem_mem hj
   have hnum := G.num _ hx
   unfold BD at hnum
   rw [if_neg]
   exact fun q => q (Vq (G.tab _ hx (by omega)) (by omega) (G.sds _ hx))
  ·rfl
structure RgC (l : List Ce) : Prop where
 r : RgtF (l.map Ce.c)
 i : ∀ a ∈ l, a.c.id ≤ 1000000
theorem RgC.pc {l : List Ce} (R : RgC l) : Xi l := by
 have G := R.r.rgt
 have hm : ∀ a ∈ l, a.c ∈ l.map Ce.c := fun a ha => List.mem_map.2 ⟨a, ha, rfl⟩
 have hid : ∀ a ∈ l, Bq a.c.id := fun a ha => by have := G.pos _ (hm a ha); have := R.i a ha; unfold Bq; omega
 have hn := G.n
 rw [List.length_map] at hn
 refine ⟨⟨by omega, fun a ha => ?_, hid⟩, fun a ha => ?_, fun a ha s hs => ?_⟩
 ·have := (R.r.bds (hm a ha)).2.1; omega
 ·have := (R.r.bds (hm a ha)).1; unfold Bq; omega
 ·obtain ⟨y, hy, e, _⟩ := G.sid _ (hm a ha) s hs
  obtain ⟨b, hb, rfl⟩ := List.mem_map.1 hy
  have h2 := G.sgn _ (hm a ha) s hs
  rw [← e]
  exact ⟨hid b hb, by unfold Bq; omega⟩
theorem VZ {A : List Ce} (h : A.map Ce.c = o) (hn : (o.map Cl.id).Nodup) : (A.map fun a => a.c.id).Nodup := by
 rw [← h, List.map_map] at hn; exact hn
theorem Q7 (l : List Ce) (v : Value) (hp : Hp) (hK : RgC l) (hR : RdC hp v l) : FnT Tryz.prog 97 #[.agg #[v]] hp [] (fun r _ _ => r = .tuple #[.int .i64 0, .int .i64 0]) := by
 refine (Ri l v hp hK.pc hR).mono fun r _ _ h => ?_
 obtain ⟨e, rfl, h⟩ := h
 have hn := hK.r.n
 rw [List.length_map] at hn
 rcases h with ⟨h, _⟩ | ⟨_, A1, A2, C1, C2, rfl⟩
 ·omega
 ·have e1 := C1.rgt hK.r
  have e2 := C2.rgt hK.r
  rw [TW (VZ e1 hK.r.rgt.nd), e1, e2, TQ hK.r]
theorem KZ (l : List Ce) (v : Value) (hp : Hp) (hK : RgC l) (hR : RdC hp v l) : FnT Tryz.prog 66 #[.agg #[v]] hp [] (fun r h' ms' => hp.le h' ∧ ∃ m A v', ms' = [m] ∧ r = .agg #[v'] ∧ OwnL cC 3 59 m v' A ∧ A.map Ce.c = l.map Ce.c ∧ ∀ a ∈ A, RdL cD 2 h' [] a.v a.c.sd) := by
 refine (Iq l v hp hK.pc.n hK.pc.s hR).mono fun r h' ms' h => ?_
 obtain ⟨h1, m, A, v', h2, h3, h4, h5, h6⟩ := h
 exact ⟨h1, m, A, v', h2, h3, h4, h5.rgt hK.r, h6⟩
theorem TV (l : List Ce) (v : Value) (hp : Hp) (hK : RgC l) (hR : RdC hp v l) : FnT Tryz.prog 50 #[.agg #[v]] hp [] (fun r h' ms' => hp.le h' ∧ ms' = [] ∧ ∃ g A, r = .pointer (some ⟨g, 0, none⟩) ∧ A.map Ce.c = l.map Ce.c ∧ RdT h' g A) := by
 refine (V9 l v hp hK.pc.toOfOk hR).mono fun r h' ms' h => ?_
 obtain ⟨h1, h2, g, A, h3, h4, h5⟩ := h
 have e := h4.rgt hK.r
 rw [TW (VZ e hK.r.rgt.nd)] at h5
 exact ⟨h1, h2, g, A, h3, e, h5⟩
theorem TB (l : List Ce) (v : Value) (i : Int) (hp : Hp) (hK : RgC l) (hi : Bq i) (hR : RdC hp v l) : FnT Tryz.prog 98 #[.agg #[v], .int .i64 i] hp [] (fun r h' ms' => hp.le h' ∧ ∃ y, r = .tuple #[vC y, .bool (Jg (l.map Ce.c) i).isSome] ∧ y.c = Gu (l.map Ce.c) i ∧ RdL cD 2 h' [] y.v y.c.sd) := by
 have o1 := hR.q.rd.one
 refine Av func98 ntmps98 rfl rfl (fun w0 hw0 => ?_)
 simp only [A5]
 refine Az ?_
 refine A8 [_] rfl rfl (by rfl) rfl rfl rfl (fun g2 => ?_)
 refine C4 [.int .i64 0, .int .i64 0, .slice none 0 0] rfl AH rfl rfl (fun g4 => Qm rfl (An (CZ 1 rfl fun h1 l1 hS => ?_)))
 have hR := hR.up l1
 refine Az (Qx (oG rfl underlying29 Bi (Seg.any hS)) rfl (Qc call50 rfl (TV l v h1 hK hR) (fun rT h2 ms2 l2 hF => ?_)))
 obtain ⟨l2', rfl, g, A, rfl, hA, gm, mMt, bst, vids, hSg, hMt, lmt, hVt, hsU⟩ := hF
 have eT : ∀ ms, Cell h2 ms (⟨g, 0, none⟩ : Addr) (.map (some gm)) := fun ms => Seg.all hSg 0 _ rfl ms
 obtain ⟨y, hy⟩ : ∃ y, (AZ (Hb A) i).getD default = y := ⟨_, rfl⟩
 obtain ⟨bb, hbb⟩ : ∃ bb, (AZ (Hb A) i).isSome = bb := ⟨_, rfl⟩
 have hyR := Ly hsU i
 rw [hy] at hyR
 have hbb' : (Jg (l.map Ce.c) i).isSome = bb := by rw [← hA, ← JK]; exact hbb
 have hyc : y.c = Gu (l.map Ce.c) i := by rw [← hA, ← Jn, hy]
 have oy := hyR.rd.one
 refine Qm rfl (Qf Gz rfl (Ql rfl underlying113 (eT _) (Qm rfl (Qx (DG (V := vC) (z := (default : Ce)) i hy hbb Ba hMt lmt rfl underlying113 Nk rfl rfl hi) rfl (Qm rfl (Qm rfl (Qm rfl (C4 [.int .i64 0, .int .i64 0, .slice none 0 0] rfl AH rfl rfl (fun g6 => ?_)))))))))
 refine Sa 0 [_, _, _] AH rfl (by simp [o1, oy]) ?_
 refine Qm rfl (BG (Qx (oG rfl underlying59 AH (Seg.blk 0 rfl)) rfl (Qm rfl ?_)))
 refine Sa 1 [_, _, _] AH rfl (by simp [o1, oy]) ?_
 refine Qm rfl (An (Aq ?_))
 exact TZ (vs := [_, _, _]) 1 rfl rfl rfl underlying59 rfl AH rfl rfl (⟨Hp.le_trans l1 l2, y, by rw [hbb']; rfl, hyc, hyR⟩)
end Go.Proofs.YtodheebhahdepaaGreat

namespace Go.Proofs.YtodheebhahdepaaGreat
open Go.Proofs.Tryz
open Go.Eng Go.RowKit
def cV (p : Int × Int) : List Value := [.int .i64 p.1, .int .i64 p.2]
theorem Sz : ∀ p, (cV p).length = 2 := fun _ => rfl
theorem Xa : ∀ a, ∀ c ∈ cV a, c.oneCell' = true := fun a c hc => by
 simp only [cV, List.mem_cons, List.not_mem_nil, or_false] at hc
 rcases hc with rfl | rfl <;> rfl
def BE (F : List (Int × Int)) : List (Int × Int) := F.foldl (fun T p => Cr T p.1 p.2) []
theorem Em (F : List (Int × Int)) (p : Int × Int) : BE (F ++ [p]) = Cr (BE F) p.1 p.2 := by unfold BE; rw [List.foldl_append]; rfl
def H5 (F : List (Int × Int)) (c : Int) : Int := (AZ (BE F) c).getD 0
theorem Ln (c : Int) : ∀ F : List (Int × Int), c ∈ (BE F).map Prod.fst ↔ c ∈ F.map Prod.fst := Co (by simp [BE]) fun F p ih => by
 rw [Em, Dg, ih, List.map_append, List.mem_append]
 simp only [List.map_cons, List.map_nil, List.mem_singleton]
 exact ⟨fun q => q.symm, fun q => q.symm⟩
theorem SY {c x : Int} : ∀ {F : List (Int × Int)}, (F.map Prod.fst).Nodup → (c, x) ∈ F → H5 F c = x := fun {F} => by
 revert F
 have : ∀ F : List (Int × Int), (F.map Prod.fst).Nodup → (c, x) ∈ F → H5 F c = x := Co (fun _ h => nomatch h) fun F p ih hn hm => by
  rw [List.map_append, List.nodup_append] at hn
  unfold H5
  rw [Em, CF]
  rcases List.mem_append.1 hm with hm | hm
  ·have hne : c ≠ p.1 := fun e => hn.2.2 c (List.mem_map.2 ⟨_, hm, rfl⟩) p.1 (by simp) e
   rw [if_neg hne]
   exact ih hn.1 hm
  ·rw [← List.mem_singleton.1 hm, if_pos rfl]; rfl
 exact fun {F} => this F
theorem Lw (F : List (Int × Int)) (v : Value) (h : Hp) (hR : RdL cV 2 h [] v F) (hn : F.length ≤ 1000000) (hk : ∀ p ∈ F, Bq p.1) : FnT Tryz.prog 69 #[v] h [] (fun r h' ms' => h.le h' ∧ ∃ g m bs, r = .map (some g) ∧ ms' = [m] ∧ BK kN kN g Bq m (BE F) bs) := by
 have o1 := hR.rd.one
 refine Av func69 ntmps69 rfl rfl (fun w0 hw0 => ?_)
 simp only [A5]
 refine Az (Qm rfl (BG (Cd (K := kN) (V := kN) (Ok := Bq) rfl rfl rfl rfl (fun gA mA hA0 => Qm rfl (An (Ac (Az (Qm rfl (Qx (AC hR.rd.any rfl underlying31 rfl) rfl (Qm rfl (An (Ah ?_))))))))))))
 refine AD (fun q sl h' ms' => ∃ (i : Nat) (mA : Hp) (bs : List Nat), q = F.length - i ∧ sl = [(3, .map (some gA)), (7, v), (8, .int .i64 F.length), (9, .int .i64 i)] ∧ h.le h' ∧ ms' = [mA] ∧ i ≤ F.length ∧ BK kN kN gA Bq mA (BE (F.take i)) bs)
  (F.length - 0) _ ⟨0, mA, [], rfl, rfl, Hp.le_refl _, rfl, by omega, hA0⟩ Qs ?_
 rintro q sl h2 ms' ⟨i, mA, bs, rfl, rfl, l2, rfl, hi, hO⟩
 have hR := hR.up l2
 refine Az (Qm rfl (An (Ac ?_)))
 refine Ax rfl (fun hlt => ?_) (fun hlt => ?_)
 ·have hil : i < F.length := by omega
  obtain ⟨p, hp⟩ : ∃ p, F[i] = p := ⟨_, rfl⟩
  have hpI : Bq p.1 := hk p (by rw [← hp]; exact List.getElem_mem hil)
  have hsx : ∀ ms, Seg h2 ms ((AI v).add (i * 2)) (cV p) := fun ms => by rw [← hp]; exact (hR.any (ms := ms)).seg hil
  have hs := Em (F.take i) p
  rw [← hp, ← List.take_succ_eq_append_getElem hil, hp] at hs
  refine Ai (Ad (Ac (Ah (Az (Qx (Af (i) hR.rd.any rfl underlying31 Fx rfl rfl (by omega) (by omega)) rfl (Qx (oG rfl underlying61 Fx (hsx _)) rfl (C4 [.int .i64 0, .int .i64 0] rfl Fx rfl rfl (fun g5 => ?_))))))))
  refine Sa 0 [_, _] Fx rfl (by simp [Value.oneCell']) ?_
  refine An (AA fun h3 l3 hS5 => ?_)
  have e0 : ∀ ms, Cell h3 ms (⟨g5, 0, none⟩ : Addr) (.int .i64 p.1) := fun ms => Seg.all hS5 0 _ rfl ms
  have e1 : ∀ ms, Cell h3 ms (⟨g5, 1, none⟩ : Addr) (.int .i64 p.2) := fun ms => Seg.all hS5 1 _ rfl ms
  refine Ab (Qm rfl (Qf FI rfl (Ql rfl underlying3 (e0 _) (Qf Pt rfl (Ql rfl underlying3 (e1 _) (Bp (V := kN) (z := undef) 0 p.1 p.2 Ba hO rfl rfl underlying66 rfl rfl rfl hpI rfl rfl (fun mA' bs' hO' => ?_)))))))
  rw [← hs] at hO'
  refine Ak (Aj (Ad (Ab (Qx (oA rfl) rfl (Qm rfl (Ak ?_))))))
  exact Am (F.length - (i + 1)) _ (by omega) ⟨i + 1, mA', bs', rfl, rfl, Hp.le_trans l2 l3, rfl, by omega, hO'⟩ Qs
 ·obtain rfl : i = F.length := by omega
  rw [List.take_length] at hO
  refine Aw (Aa (Aa (Ag (Ad (Az (Qm rfl (Qm rfl (An (Aq ?_)))))))))
  exact As rfl rfl (⟨l2, gA, mA, bs, rfl, rfl, hO⟩)
def MC (l : List (Int × Int)) (pr : Int × Int → Bool) : Int := match l.findIdx? pr with | some k => (k : Int) | none => -1
theorem Se {l : List (Int × Int)} {pr : Int × Int → Bool} {k : Nat} (hk : k < l.length) (h : pr l[k] = true) (hno : ∀ j (hj : j < l.length), j < k → pr l[j] = false) : MC l pr = k := by
 unfold MC
 have : l.findIdx? pr = some k := List.findIdx?_eq_some_iff_getElem.2 ⟨hk, h, fun j hj => by rw [hno j (by omega) hj]; simp⟩
 rw [this]
theorem Rt {l : List (Int × Int)} {pr : Int × Int → Bool} (hno : ∀ j (hj : j < l.length), pr l[j] = false) : MC l pr = -1 := by
 unfold MC
 have : l.findIdx? pr = none := List.findIdx?_eq_none_iff.2 fun x hx => by
  obtain ⟨j, hj, rfl⟩ := List.getElem_of_mem hx
  exact hno j hj
 rw [this]
theorem UC (l : List (Int × Int)) (pr : Int × Int → Bool) : 0 ≤ MC l pr ↔ ∃ s ∈ l, pr s = true := by
 unfold MC
 cases h : l.findIdx? pr with
 | none =>
  rw [List.findIdx?_eq_none_iff] at h
  constructor
  ·intro q; exact absurd q (by decide)
  ·rintro ⟨s, hs, q⟩
   rw [h s hs] at q; cases q
 | some k =>
  obtain ⟨hk, h1, _⟩ := List.findIdx?_eq_some_iff_getElem.1 h
  exact ⟨fun _ => ⟨_, List.getElem_mem hk, h1⟩, fun _ => by show (0 : Int) ≤ (k : Int); omega⟩
theorem Ry (l : List (Int × Int)) (vl : Value) (cf : FuncId) (cs : List Value) (pr : Int × Int → Bool) (h : Hp) (hR : RdL cD 2 h [] vl l) (hn : l.length ≤ 1000000)
  (hc : ∀ xs w, (callFunc cf xs).run Tryz.prog w = .ok (.enter cf xs) w)
  (hp : ∀ s ∈ l, ∀ ms, FnV Tryz.prog cf ([] ++ [Value.agg (cD s).toArray] ++ cs).toArray h ms (.bool (pr s))) :
  FnT Tryz.prog 119 #[vl, .func (.func cf) #[] cs.toArray] h [] (fun r _ _ => r = .int .i64 (MC l pr)) := by
 have o1 := hR.rd.one
 refine Av func119 ntmps119 rfl rfl (fun w0 hw0 => ?_)
 simp only [A5]
 refine Az (Qm rfl (An (Ac (Az (Qm rfl (Qx (AC hR.rd.any rfl underlying57 rfl) rfl (Qm rfl (An (Ah ?_)))))))))
 refine AD (fun q s h' ms' => ∃ (k : Nat), q = l.length - k ∧ s = [(0, vl), (1, .func (.func cf) #[] cs.toArray), (7, .int .i64 l.length), (8, .int .i64 k)] ∧ h = h' ∧ ms' = [] ∧ k ≤ l.length ∧ ∀ j (hj : j < l.length), j < k → pr l[j] = false)
  (l.length - 0) _ ⟨0, rfl, rfl, rfl, rfl, by omega, fun j _ hj => by omega⟩ Qs ?_
 rintro q s h' ms' ⟨k, rfl, rfl, rfl, rfl, hk, hno⟩
 refine Az (Qm rfl (An (Ac ?_)))
 refine Ax rfl (fun hlt => ?_) (fun hlt => ?_)
 ·have hkn : k < l.length := by omega
  have hsx : ∀ ms, Seg h ms ((AI vl).add (k * 2)) (cD l[k]) := fun ms => (hR.any (ms := ms)).seg hkn
  refine Ai (Ad (Ac (Ah (Az (Qm rfl (Qm rfl (BG (Qm rfl (Qm rfl (Qm rfl (Qx (Af (k) hR.rd.any rfl underlying57 AR rfl rfl (by omega) (by omega)) rfl (Qx (oG rfl underlying81 AR (hsx _)) rfl (Qx (B0 rfl rfl hc rfl (hp _ (List.getElem_mem hkn) _)) rfl (An ?_))))))))))))))
  refine Bu rfl (fun hpk => ?_) (fun hpk => ?_)
  ·refine Ac (Ab (Qm rfl (Qm rfl (An (Aq (Al (Ae (Ae (Al (Ae ?_))))))))))
   exact As rfl rfl (by rw [Se hkn hpk hno])
  ·refine Ai (Aj (Ad (Ab (Qx (oA rfl) rfl (Qm rfl (Ak ?_))))))
   refine Am (l.length - (k + 1)) _ (by omega) ⟨k + 1, rfl, rfl, rfl, rfl, by omega, fun j hj hjk => ?_⟩ Qs
   rcases (by omega : j < k ∨ j = k) with h2 | rfl
   ·exact hno j hj h2
   ·exact hpk
 ·obtain rfl : k = l.length := by omega
  refine Aw (Aa (Aa (Ag (Ad (Az (Qm rfl (An (Aq ?_))))))))
  exact As rfl rfl (by rw [Rt fun j hj => hno j hj hj])
theorem Mb (l : List (Int × Int)) (vl : Value) (cf : FuncId) (cs : List Value) (pr : Int × Int → Bool) (h : Hp) (hR : RdL cD 2 h [] vl l) (hn : l.length ≤ 1000000)
  (hc : ∀ xs w, (callFunc cf xs).run Tryz.prog w = .ok (.enter cf xs) w)
  (hp : ∀ s ∈ l, ∀ ms, FnV Tryz.prog cf ([] ++ [Value.agg (cD s).toArray] ++ cs).toArray h ms (.bool (pr s))) (ms : List Hp) :
  FnV Tryz.prog 99 #[vl, .func (.func cf) #[] cs.toArray] h ms (.bool (decide (0 ≤ MC l pr))) := by
 refine IV ?_ ms
 refine Av func99 ntmps99 rfl rfl (fun w0 hw0 => ?_)
 simp only [A5]
 refine Az (Qm rfl (BG (Qm rfl (Qm rfl (Qx (AG rfl call119 rfl (IV (Ry l vl cf cs pr h hR hn hc hp) _)) rfl (Qm rfl (Qm rfl (An (Aq ?_)))))))))
 exact As rfl rfl (rfl)
theorem Sm (F : List (Int × Int)) (s : Int × Int) (i : Int) (g1 g2 gA : Nat) (mA : Hp) (bs : List Nat) (h : Hp) (hO : BK kN kN gA Bq mA (BE F) bs) (lA : mA.le h) (h1 : ∀ ms, Cell h ms (⟨g1, 0, none⟩ : Addr) (.map (some gA))) (h2 : ∀ ms, Cell h ms (⟨g2, 0, none⟩ : Addr) (.int .i64 i)) (hi : Bq i) (hs : Bq s.1) (ms : List Hp) :
  FnV Tryz.prog 100 ([] ++ [Value.agg (cD s).toArray] ++ [Value.pointer (some ⟨g1, 0, none⟩), .pointer (some ⟨g2, 0, none⟩)]).toArray h ms (.bool (decide (H5 F s.1 > H5 F i))) := by
 refine IV ?_ ms
 show FnT _ _ #[.agg #[.int .i64 s.1, .int .i64 s.2], .pointer (some ⟨g1, 0, none⟩), .pointer (some ⟨g2, 0, none⟩)] _ _ _
 refine Av func100 ntmps100 rfl rfl (fun w0 hw0 => ?_)
 simp only [A5]
 refine Az ?_
 refine A8 [_, _] rfl rfl (by rfl) rfl rfl rfl (fun g3 => ?_)
 refine Qm rfl (An (AA fun h3 l3 hS => ?_))
 have e0 : ∀ ms, Cell h3 ms (⟨g3, 0, none⟩ : Addr) (.int .i64 s.1) := fun ms => Seg.all hS 0 _ rfl ms
 have h1 : ∀ ms, Cell h3 ms (⟨g1, 0, none⟩ : Addr) (.map (some gA)) := fun ms => (h1 ms).le l3
 have h2 : ∀ ms, Cell h3 ms (⟨g2, 0, none⟩ : Addr) (.int .i64 i) := fun ms => (h2 ms).le l3
 refine Az (Ql rfl underlying66 (h1 _) (Qf Cc rfl (Ql rfl underlying3 (e0 _) (Qx (CA (V := kN) (z := (0 : Int)) (u := H5 F s.1) s.1 rfl Ba hO (Hp.le_trans lA l3) rfl underlying66 GP rfl rfl hs) rfl (Ql rfl underlying66 (h1 _) (Qf Bo rfl (Ql rfl underlying3 (h2 _) (Qx (CA (V := kN) (z := (0 : Int)) (u := H5 F i) i rfl Ba hO (Hp.le_trans lA l3) rfl underlying66 GP rfl rfl hi) rfl (Qm rfl (Qm rfl (An (Aq ?_))))))))))))
 exact As rfl rfl (rfl)
variable {o : List Cl} {F : List (Int × Int)} {i : Nat} {e : Int × Int}
def fA (o : List Cl) (F : List (Int × Int)) (i : Nat) : Option (Int × Int) :=
 if (Jg o (F.getD i (0, 0)).1).isSome = false then some ((F.getD i (0, 0)).1, 30)
 else if (F.getD i (0, 0)).1 ∈ (F.take i).map Prod.fst then some ((F.getD i (0, 0)).1, 54) else none
def fB (o : List Cl) (F : List (Int × Int)) (i : Nat) : Option (Int × Int) :=
 if (o.getD i default).id ∉ F.map Prod.fst then some ((o.getD i default).id, 30) else none
def Xv (o : List Cl) (F : List (Int × Int)) (i : Nat) : Prop := ∃ s ∈ (o.getD i default).sd, H5 F s.1 > H5 F (o.getD i default).id
instance (o : List Cl) (F : List (Int × Int)) (i : Nat) : Decidable (Xv o F i) := by unfold Xv; infer_instance
def fC (o : List Cl) (F : List (Int × Int)) (i : Nat) : Option (Int × Int) :=
 if Xv o F i then some ((o.getD i default).id, 44) else none
def HG (o : List Cl) (F : List (Int × Int)) : Int × Int :=
 match (List.range F.length).findSome? (fA o F) with
 | some e => e
 | none => match (List.range o.length).findSome? (fB o F) with
  | some e => e
  | none => match (List.range o.length).findSome? (fC o F) with
   | some e => e
   | none => (0, 0)
theorem S6 (hi : i < F.length) (h : ∀ j, j < i → fA o F j = none) (he : fA o F i = some e) : HG o F = e := by
 unfold HG
 rw [CY h he F.length hi]
theorem Wq (hA : ∀ j, j < F.length → fA o F j = none) (hi : i < o.length) (h : ∀ j, j < i → fB o F j = none) (he : fB o F i = some e) : HG o F = e := by
 unfold HG
 rw [B9 F.length hA, CY h he o.length hi]
theorem Wb (hA : ∀ j, j < F.length → fA o F j = none) (hB : ∀ j, j < o.length → fB o F j = none) (hi : i < o.length) (h : ∀ j, j < i → fC o F j = none) (he : fC o F i = some e) : HG o F = e := by
 unfold HG
 rw [B9 F.length hA, B9 o.length hB, CY h he o.length hi]
theorem TY (hA : ∀ j, j < F.length → fA o F j = none) (hB : ∀ j, j < o.length → fB o F j = none) (hC : ∀ j, j < o.length → fC o F j = none) : HG o F = (0, 0) := by
 unfold HG
 rw [B9 F.length hA, B9 o.length hB, B9 o.length hC]
structure QY (F : List (Int × Int)) : Prop where
 n : F.length ≤ 1000000
 k : ∀ p ∈ F, Bq p.1
theorem Sb (l : List Ce) (F : List (Int × Int)) (v vf : Value) (hp : Hp) (hK : RgC l) (hR : RdC hp v l) (hF : RdL cV 2 hp [] vf F) (hV : QY F) : FnT Tryz.prog 68 #[.agg #[v], vf] hp [] (fun r _ _ => r = .tuple #[.int .i64 (HG (l.map Ce.c) F).1, .int .i64 (HG (l.map Ce.c) F).2]) := by
 have o1 := hR.q.rd.one
 have o2 := hF.rd.one
 have hG := hK.r.rgt
 have hFn := hV.n
 have hln : l.length ≤ 4000 := by have := hG.n; rwa [List.length_map] at this
 refine Av func68 ntmps68 rfl rfl (fun w0 hw0 => ?_)
 simp only [A5]
 refine Az ?_
 refine A8 [_] rfl rfl (by rfl) rfl rfl rfl (fun g2 => ?_)
 refine Qm rfl (Qm rfl (An (AA fun h1 l1 hS => ?_)))
 have hR := hR.up l1
 have hF := hF.up l1
 refine Ac (Az (Qx (oG rfl underlying29 Bi (Seg.any hS)) rfl (Qx (AG rfl call97 rfl (IV (Q7 l v h1 hK hR) _)) rfl (Qm rfl (Qm rfl (Qm rfl (Qm rfl (Qm rfl (BG (Qm rfl (Qm rfl (An (Ax rfl (fun hc => absurd hc (fun h => h rfl)) (fun hc => Ai (Ad (Az (Cd (K := kN) (V := vB) (Ok := Bq) rfl rfl rfl rfl (fun gS mS hS0 => Qm rfl (An ?_)))))))))))))))))))
 refine AV (fun sl h' ms' => ∃ (mS : Hp) (TS : List (Int × Bool)) (bs : List Nat), sl = [(1, vf), (2, .pointer (some ⟨g2, 0, none⟩)), (8, .map (some gS))] ∧ h1.le h' ∧ ms' = [mS] ∧ BK kN vB gS Bq mS TS bs ∧ Je TS ∧ (∀ x, x ∈ C3 TS ↔ x ∈ F.map Prod.fst) ∧ ∀ j, j < F.length → fA (l.map Ce.c) F j = none) ?_ (fun s h ms hI => ?_)
 ·refine Ac (Ab (Qm rfl (Qx (AC hF.rd.any rfl underlying31 rfl) rfl (Qm rfl (An (Ah ?_))))))
  refine AD (fun q sl h' ms' => ∃ (i : Nat) (mS : Hp) (TS : List (Int × Bool)) (bs : List Nat), q = F.length - i ∧ sl = [(1, vf), (2, .pointer (some ⟨g2, 0, none⟩)), (8, .map (some gS)), (29, vf), (30, .int .i64 F.length), (31, .int .i64 i)] ∧ h1.le h' ∧ ms' = [mS] ∧ i ≤ F.length ∧ BK kN vB gS Bq mS TS bs ∧ Je TS ∧ (∀ x, x ∈ C3 TS ↔ x ∈ (F.take i).map Prod.fst) ∧ ∀ j, j < i → fA (l.map Ce.c) F j = none)
   (F.length - 0) _ ⟨0, mS, [], [], rfl, rfl, Hp.le_refl _, rfl, by omega, hS0, fun p hp => (nomatch hp), fun x => by simp, fun j h => by omega⟩ Qs ?_
  rintro q sl h2 ms' ⟨i, mS, TS, bs, rfl, rfl, l2, rfl, hi, hO, hA, hk, hno⟩
  have hF := hF.up l2
  refine Az (Qm rfl (An (Ac ?_)))
  refine Ax rfl (fun hlt => ?_) (fun hlt => ?_)
  ·have hil : i < F.length := by omega
   obtain ⟨p, hp⟩ : ∃ p, F[i] = p := ⟨_, rfl⟩
   have hgp : F.getD i (0, 0) = p := by simp [List.getD, hil, hp]
   have hpI : Bq p.1 := hV.k p (by rw [← hp]; exact List.getElem_mem hil)
   have hsx : ∀ ms, Seg h2 ms ((AI vf).add (i * 2)) (cV p) := fun ms => by rw [← hp]; exact (hF.any (ms := ms)).seg hil
   have hS2 := hS.le l2
   refine Ai (Ad (Ac (Ah (Az (Qx (Af (i) hF.rd.any rfl underlying31 Fx rfl rfl (by omega) (by omega)) rfl (Qx (oG rfl underlying61 Fx (hsx _)) rfl (C4 [.int .i64 0, .int .i64 0] rfl Fx rfl rfl (fun g10 => ?_))))))))
   refine Sa 0 [_, _] Fx rfl (by simp [Value.oneCell']) ?_
   refine An (AA fun h3 l3 hS10 => ?_)
   have e0 : ∀ ms, Cell h3 ms (⟨g10, 0, none⟩ : Addr) (.int .i64 p.1) := fun ms => Seg.all hS10 0 _ rfl ms
   have hS3 := hS2.le l3
   have l13 := Hp.le_trans l2 l3
   refine Ac (Az (Qx (oG rfl underlying29 Bi (Seg.any hS3)) rfl (Qf FI rfl (Ql rfl underlying3 (e0 _) (Qc call98 rfl (TB l v p.1 h3 hK hpI (hR.up l13)) (fun rF h4 ms4 l4 hQ => ?_))))))
   obtain ⟨l4', y, rfl, hyc, hyR⟩ := hQ
   refine Fw ?_ ms4
   have oy := hyR.rd.one
   have e0 : ∀ ms, Cell h4 ms (⟨g10, 0, none⟩ : Addr) (.int .i64 p.1) := fun ms => (e0 ms).le l4
   have l14 := Hp.le_trans l13 l4
   obtain ⟨bb, hbb⟩ : ∃ bb, (Jg (l.map Ce.c) p.1).isSome = bb := ⟨_, rfl⟩
   rw [hbb]
   refine Qm rfl (Qm rfl (Qm rfl (C4 [.int .i64 0, .int .i64 0, .slice none 0 0] rfl AH rfl rfl (fun g11 => ?_))))
   refine Sa 0 [_, _, _] AH rfl (by simp [o1, o2, oy]) ?_
   refine Qm rfl (BG (Qm rfl (Qm rfl (An ?_))))
   refine Bu rfl (fun hn => ?_) (fun hn => ?_)
   ·have hbf : bb = false := by cases bb <;> simp at hn ⊢
    have hch := S6 (o := l.map Ce.c) hil hno (by unfold fA; rw [hgp, hbb, if_pos hbf])
    refine Az (Qf FI rfl (Ql rfl underlying3 (e0 _) (Qm rfl (Qm rfl (An (Aq (Ae (Al (Ae (Ae (Al (Ae ?_))))))))))))
    exact BH rfl rfl rfl (by rw [hch])
   ·have hbt : ¬ bb = false := by cases bb <;> simp at hn ⊢
    refine Ai (Ad (Ac (Az (Qm rfl (Qf FI rfl (Ql rfl underlying3 (e0 _) ?_))))))
    refine Qx (Fp (V := vB) (z := false) p.1 Ba hO (by simp) rfl underlying92 PY rfl rfl hpI) rfl ?_
    rw [HX hA]
    refine An ?_
    refine Bu rfl (fun hin => ?_) (fun hin => ?_)
    ·have him : p.1 ∈ C3 TS := of_decide_eq_true hin
     have hch := S6 (o := l.map Ce.c) hil hno (by unfold fA; rw [hgp, hbb, if_neg hbt, if_pos ((hk _).1 him)])
     refine Az (Qf FI rfl (Ql rfl underlying3 (e0 _) (Qm rfl (Qm rfl (An (Aq (Ae (Al (Ae (Ae (Al (Ae ?_))))))))))))
     exact BH rfl rfl rfl (by rw [hch])
    ·have him : p.1 ∉ C3 TS := fun q => by rw [decide_eq_true q] at hin; cases hin
     have hci : fA (l.map Ce.c) F i = none := by unfold fA; rw [hgp, hbb, if_neg hbt, if_neg fun q => him ((hk _).2 q)]
     have hk' : ∀ x, x ∈ C3 (Cr TS p.1 true) ↔ x ∈ (F.take (i + 1)).map Prod.fst := fun x => by
      rw [List.take_succ_eq_append_getElem hil, hp, List.map_append, List.mem_append, List.map_cons, List.map_nil, List.mem_singleton, ← hk x, Dg]
      exact ⟨fun q => q.symm, fun q => q.symm⟩
     refine Ai (Ad (Ab (Qm rfl (Qf FI rfl (Ql rfl underlying3 (e0 _) (Bp (V := vB) (z := undef) 1 p.1 true Ba hO rfl rfl underlying92 rfl rfl rfl hpI rfl rfl (fun mS' bs' hO' => Ak (Aj (Ad (Ab (Qx (oA rfl) rfl (Qm rfl (Ak (AS ?_))))))))))))))
     exact Am (F.length - (i + 1)) _ (by omega) ⟨i + 1, mS', _, bs', rfl, rfl, Hp.le_trans l13 l4, rfl, by omega, hO', J9 hA p.1, hk', fun j hj => by
      rcases (by omega : j < i ∨ j = i) with h1 | rfl
      ·exact hno j h1
      ·exact hci⟩ Qs
  ·obtain rfl : i = F.length := by omega
   rw [List.take_length] at hk
   refine Aw (Aa (Aa (Ag ?_)))
   exact Ay _ ⟨mS, TS, bs, rfl, l2, rfl, hO, hA, hk, hno⟩ Qs
 ·obtain ⟨mS, TS, bs, rfl, l2, rfl, hO, hA, hk, hno⟩ := hI
  have hR := hR.up l2
  have hF := hF.up l2
  have hS2 := hS.le l2
  refine Az (Qx (oG rfl underlying29 Bi (Seg.any hS2)) rfl (Qc call66 rfl (KZ l v _ hK hR) (fun rC h3 ms3 l3 hQ => ?_)))
  obtain ⟨l3', mA, A, vA, rfl, rfl, hOA, hAl, hsA⟩ := hQ
  refine A7 hOA fun hq l4 hQ => ?_
  have hsA := fun a ha => (hsA a ha).up l4
  have hF := hF.up (Hp.le_trans l3 l4)
  have ovA := hQ.rd.one
  have hol : (l.map Ce.c).length = A.length := by rw [← hAl, List.length_map]
  have hAn : A.length ≤ 4000 := by rw [← hol, List.length_map]; exact hln
  have hget : ∀ i (hi : i < A.length), (l.map Ce.c).getD i default = A[i].c := fun i hi => by rw [← hAl]; simp [List.getD, hi]
  have hpos := hG.pos
  obtain ⟨o, ho⟩ : ∃ o, l.map Ce.c = o := ⟨_, rfl⟩
  have hAI : ∀ a ∈ A, Bq a.c.id := fun a ha => by
   have h1 : a.c ∈ l.map Ce.c := by rw [← hAl]; exact List.mem_map.2 ⟨a, ha, rfl⟩
   have h2 := hpos _ h1
   obtain ⟨b, hb, hbe⟩ := List.mem_map.1 h1
   have h3 := hK.i b hb
   rw [hbe] at h3
   unfold Bq; omega
  have hAs : ∀ a ∈ A, a.c.sd.length ≤ 64 ∧ ∀ s ∈ a.c.sd, Bq s.1 := fun a ha => by
   have h1 : a.c ∈ l.map Ce.c := by rw [← hAl]; exact List.mem_map.2 ⟨a, ha, rfl⟩
   refine ⟨(hK.r.bds h1).2.1, fun s hs => ?_⟩
   obtain ⟨y, hy, e, _⟩ := hG.sid _ h1 s hs
   obtain ⟨b, hb, rfl⟩ := List.mem_map.1 hy
   have h2 := hpos _ hy
   have h3 := hK.i b hb
   rw [← e]; unfold Bq; omega
  rw [ho] at hol hno hget ⊢
  refine Qx (Ff rfl underlying29 rfl underlying27 rfl rfl rfl) rfl (Qm rfl (An ?_))
  refine AV (fun sl h' ms' => ∃ (mS : Hp), sl = [(1, vf), (13, vA)] ∧ hq.le h' ∧ ms' = [mS] ∧ ∀ j, j < A.length → fB o F j = none) ?_ (fun s h ms hI => ?_)
  ·refine Ac (Ab (Qm rfl (Qx (AC hQ.rd.any rfl underlying27 rfl) rfl (Qm rfl (An (Ah ?_))))))
   refine AD (fun q sl h' ms' => ∃ (i : Nat), q = A.length - i ∧ sl = [(1, vf), (8, .map (some gS)), (13, vA), (59, vA), (60, .int .i64 A.length), (61, .int .i64 i)] ∧ hq.le h' ∧ ms' = [mS] ∧ i ≤ A.length ∧ ∀ j, j < i → fB o F j = none)
    (A.length - 0) _ ⟨0, rfl, rfl, Hp.le_refl _, rfl, by omega, fun j h => by omega⟩ Qs ?_
   rintro q sl h5 ms' ⟨i, rfl, rfl, l5, rfl, hi, hnB⟩
   have hQ := hQ.up l5
   refine Az (Qm rfl (An (Ac ?_)))
   refine Ax rfl (fun hlt => ?_) (fun hlt => ?_)
   ·have hil : i < A.length := by omega
    obtain ⟨x, hx⟩ : ∃ x, A[i] = x := ⟨_, rfl⟩
    have hxm : x ∈ A := by rw [← hx]; exact List.getElem_mem hil
    have hgx := hget i hil
    rw [hx] at hgx
    have hX := (hsA x hxm).up l5
    have oxv := hX.rd.one
    have hxI := hAI x hxm
    have hsx : ∀ ms, Seg h5 ms ((AI vA).add (i * 3)) (cC x) := fun ms => by rw [← hx]; exact (hQ.any (ms := ms)).seg hil
    refine Ai (Ad (Ac (Ah (Az (Qx (Af (i) hQ.rd.any rfl underlying27 AH rfl rfl (by omega) (by omega)) rfl (Qx (oG rfl underlying59 AH (hsx _)) rfl (C4 [.int .i64 0, .int .i64 0, .slice none 0 0] rfl AH rfl rfl (fun g15 => ?_))))))))
    refine Sa 0 [_, _, _] AH rfl (by simp [o1, o2, ovA, oxv]) ?_
    refine An (AA fun h6 l6 hS8 => ?_)
    have e80 : ∀ ms, Cell h6 ms (⟨g15, 0, none⟩ : Addr) (.int .i64 x.c.id) := fun ms => Seg.all hS8 0 _ rfl ms
    refine Az (Qm rfl (Qf Bo rfl (Ql rfl underlying3 (e80 _) ?_)))
    refine Qx (Fp (V := vB) (z := false) x.c.id Ba hO (by simp) rfl underlying92 PY rfl rfl hxI) rfl ?_
    rw [HX hA]
    refine Qm rfl (An ?_)
    refine Bu rfl (fun hin => ?_) (fun hin => ?_)
    ·have hni : x.c.id ∉ F.map Prod.fst := fun q => by rw [decide_eq_true ((hk _).2 q)] at hin; cases hin
     have hch := Wq (o := o) (F := F) hno (by rw [hol]; exact hil) hnB (by unfold fB; rw [hgx, if_pos hni])
     refine Az (Qf Bo rfl (Ql rfl underlying3 (e80 _) (Qm rfl (Qm rfl (An (Aq (Al (Ae (Ae (Al (Ae ?_)))))))))))
     exact BH rfl rfl rfl (by rw [hch])
    ·have hni : x.c.id ∈ F.map Prod.fst := Classical.byContradiction fun q => by rw [decide_eq_false fun w => q ((hk _).1 w)] at hin; cases hin
     have hci : fB o F i = none := by unfold fB; rw [hgx, if_neg fun q => q hni]
     refine Ai (Aj (Ad (Ab (Qx (oA rfl) rfl (Qm rfl (Ak ?_))))))
     exact Am (A.length - (i + 1)) _ (by omega) ⟨i + 1, rfl, rfl, Hp.le_trans l5 l6, rfl, by omega, fun j hj => by
      rcases (by omega : j < i ∨ j = i) with h1 | rfl
      ·exact hnB j h1
      ·exact hci⟩ Qs
   ·obtain rfl : i = A.length := by omega
    refine Aw (Aa (Aa (Ag ?_)))
    exact Ay _ ⟨mS, rfl, l5, rfl, hnB⟩ Qs
  ·obtain ⟨mS, rfl, l5, rfl, hnB⟩ := hI
   have hQ := hQ.up l5
   have hF := hF.up l5
   have hsA := fun a ha => (hsA a ha).up l5
   refine Az (Qm rfl (Qc call69 rfl (Lw F vf _ hF hV.n hV.k) (fun rL h6 ms6 l6 hL => ?_)))
   obtain ⟨l6', gL, mL, bL, rfl, rfl, hOL⟩ := hL
   refine C4 [.map none] rfl Xu rfl rfl (fun g16 => ?_)
   refine AK 0 0 rfl Xu rfl rfl (by rfl) rfl rfl (by decide) rfl rfl ?_
   refine An (AA fun h7 l7 hS7 => (BA fun h8 l8 k8 => ?_))
   have e16 : ∀ ms, Cell h8 ms (⟨g16, 0, none⟩ : Addr) (.map (some gL)) := fun ms => (Seg.all hS7 0 _ rfl ms).le l8
   have l58 := Hp.le_trans l6 (Hp.le_trans l7 l8)
   have hQ := hQ.up l58
   have hsA := fun a ha => (hsA a ha).up l58
   refine Ac (Az (Qm rfl (Qx (AC hQ.rd.any rfl underlying27 rfl) rfl (Qm rfl (An (Ah ?_))))))
   refine AD (fun q sl h' ms' => ∃ (i : Nat), q = A.length - i ∧ sl = [(16, .pointer (some ⟨g16, 0, none⟩)), (75, vA), (76, .int .i64 A.length), (77, .int .i64 i)] ∧ h8.le h' ∧ ms' = [mS] ∧ i ≤ A.length ∧ ∀ j, j < i → fC o F j = none)
    (A.length - 0) _ ⟨0, rfl, rfl, Hp.le_refl _, rfl, by omega, fun j h => by omega⟩ Qs ?_
   rintro q sl h9 ms' ⟨i, rfl, rfl, l9, rfl, hi, hnC⟩
   have hQ := hQ.up l9
   have e16 : ∀ ms, Cell h9 ms (⟨g16, 0, none⟩ : Addr) (.map (some gL)) := fun ms => (e16 ms).le l9
   have k9 := Hp.le_trans k8 l9
   refine Az (Qm rfl (An (Ac ?_)))
   refine Ax rfl (fun hlt => ?_) (fun hlt => ?_)
   ·have hil : i < A.length := by omega
    obtain ⟨x, hx⟩ : ∃ x, A[i] = x := ⟨_, rfl⟩
    have hxm : x ∈ A := by rw [← hx]; exact List.getElem_mem hil
    have hgx := hget i hil
    rw [hx] at hgx
    have hX := (hsA x hxm).up l9
    have oxv := hX.rd.one
    have hxI := hAI x hxm
    obtain ⟨hxn, hxs⟩ := hAs x hxm
    have hsx : ∀ ms, Seg h9 ms ((AI vA).add (i * 3)) (cC x) := fun ms => by rw [← hx]; exact (hQ.any (ms := ms)).seg hil
    refine Ai (Ad (Ac (Ah (Az (Qx (Af (i) hQ.rd.any rfl underlying27 AH rfl rfl (by omega) (by omega)) rfl (Qx (oG rfl underlying59 AH (hsx _)) rfl (C4 [.int .i64 0, .int .i64 0, .slice none 0 0] rfl AH rfl rfl (fun g18 => ?_))))))))
    refine Sa 0 [_, _, _] AH rfl (by simp [o1, o2, ovA, oxv]) ?_
    refine An (AA fun h10 l10 hS10 => ?_)
    have e10 : ∀ ms, Cell h10 ms (⟨g18, 0, none⟩ : Addr) (.int .i64 x.c.id) := fun ms => Seg.all hS10 0 _ rfl ms
    have e12 : ∀ ms, Cell h10 ms (⟨g18, 2, none⟩ : Addr) x.v := fun ms => Seg.all hS10 2 _ rfl ms
    have hX := hX.up l10
    have hct := fun ms => Mb x.c.sd x.v 100 [Value.pointer (some ⟨g16, 0, none⟩), .pointer (some ⟨g18, 0, none⟩)] (fun s => decide (H5 F s.1 > H5 F x.c.id)) h10 hX (by omega) (fun _ _ => rfl) (fun s hs ms => Sm F s x.c.id g16 g18 gL mL bL h10 hOL (Hp.le_trans k9 l10) (fun ms => (e16 ms).le l10) e10 hxI (hxs s hs) ms) ms
    obtain ⟨bb, hbb⟩ : ∃ bb, decide (0 ≤ MC x.c.sd fun s => decide (H5 F s.1 > H5 F x.c.id)) = bb := ⟨_, rfl⟩
    have hub : bb = true ↔ Xv o F i := by
     rw [← hbb, decide_eq_true_iff, UC]
     unfold Xv
     rw [hgx]
     exact ⟨fun ⟨s, h1, h2⟩ => ⟨s, h1, of_decide_eq_true h2⟩, fun ⟨s, h1, h2⟩ => ⟨s, h1, decide_eq_true h2⟩⟩
    rw [hbb] at hct
    refine Az (Qf Bl rfl (Ql rfl underlying57 (e12 _) (Qx (Bv rfl rfl rfl) rfl (Qx (AG rfl call99 rfl (hct _)) rfl (An ?_)))))
    refine Bu rfl (fun hin => ?_) (fun hin => ?_)
    ·have hch := Wb (o := o) (F := F) hno (by rw [hol]; exact hnB) (by rw [hol]; exact hil) hnC (by unfold fC; rw [hgx, if_pos (hub.1 hin)])
     refine Az (Qf Bo rfl (Ql rfl underlying3 (e10 _) (Qm rfl (Qm rfl (An (Aq (Al (Ae (Ae (Al (Ae ?_)))))))))))
     exact BH rfl rfl rfl (by rw [hch])
    ·have hci : fC o F i = none := by unfold fC; rw [if_neg fun q => by rw [hub.2 q] at hin; cases hin]
     refine Ai (Aj (Ad (Ab (Qx (oA rfl) rfl (Qm rfl (Ak ?_))))))
     exact Am (A.length - (i + 1)) _ (by omega) ⟨i + 1, rfl, rfl, Hp.le_trans l9 l10, rfl, by omega, fun j hj => by
      rcases (by omega : j < i ∨ j = i) with h1 | rfl
      ·exact hnC j h1
      ·exact hci⟩ Qs
   ·obtain rfl : i = A.length := by omega
    have hch := TY (o := o) (F := F) hno (by rw [hol]; exact hnB) (by rw [hol]; exact hnC)
    refine Aw (Aa (Aa (Ag (Ad (Az (Qm rfl (Qm rfl (An (Aq ?_)))))))))
    exact BH rfl rfl rfl (by rw [hch])
end Go.Proofs.YtodheebhahdepaaGreat
namespace Go.Proofs.YtodheebhahdepaaGreat
open Go.Proofs.Tryz
open Go.Eng Go.RowKit Go.Lin
variable {p : Int}
def IsP (p : Int) : Prop := 2 ≤ p ∧ p ≤ 997 ∧ ∀ k, k < p.toNat → 2 ≤ k → p.toNat % k ≠ 0
instance (p : Int) : Decidable (IsP p) := by unfold IsP; infer_instance
theorem IsP.prm (h : IsP p) : Prm p.toNat := by
 obtain ⟨h1, h2, h3⟩ := h
 refine HQ (by omega) fun k hk hkk => h3 k ?_ hk
 have : 2 * k ≤ k * k := Nat.mul_le_mul_right k hk
 omega
theorem IsP.fld (h : IsP p) : FY p := by
 have := h.prm.fld
 rwa [Int.toNat_of_nonneg (by have := h.1; omega)] at this
theorem LJ (h2 : 2 ≤ p) (h9 : p ≤ 997) (j : Nat) (hj : p < (j : Int) * j) (h : ∀ k, 2 ≤ k → k < j → p.toNat % k ≠ 0) : IsP p := by
 refine ⟨h2, h9, fun k hk h2k he => ?_⟩
 have hp : Prm p.toNat := by
  refine HQ (by omega) fun k hk hkk => h k hk (Nat.lt_of_not_le fun hle => ?_)
  have h1 : j * j ≤ k * k := Nat.mul_le_mul hle hle
  have h2 : ((j * j : Nat) : Int) = (j : Int) * j := by simp
  omega
 rcases hp.2 k (Nat.dvd_of_mod_eq_zero he) with h | h <;> omega
theorem VA (hp : 0 ≤ p) (k : Nat) (hk : 0 < k) : p % (k : Int) = ((p.toNat % k : Nat) : Int) := by
 rw [Int.natCast_emod, Int.toNat_of_nonneg hp]
theorem SM (p : Int) (h : Hp) (hI : Bq p) : FnT Tryz.prog 70 #[.int .i64 p] h [] (fun r _ _ => r = .bool (decide (IsP p))) := by
 have hI1 := hI.1
 have hI2 := hI.2
 refine Av func70 ntmps70 rfl rfl (fun w0 hw0 => ?_)
 simp only [A5]
 refine Az (Qm rfl (An (Ac (Az (Qm rfl (Qm rfl (Qm rfl ?_)))))))
 refine AQ (t := 6) rfl (fun hs => ?_) (fun hs => ?_)
 ·refine Qk rfl (Qk rfl (Qm rfl (An (Bk rfl (Az (Qm rfl (An (Aq (Ae ?_)))))))))
  exact As rfl rfl (by rw [decide_eq_false]; exact fun h => absurd h.1 (by omega))
 ·refine Qg (Au rfl rfl) rfl (Qg (BY rfl rfl rfl) rfl (Qm rfl (An ?_)))
  refine Ax rfl (fun hs2 => ?_) (fun hs2 => ?_)
  ·refine Ac (Ab (Qm rfl (An (Aq (Ae ?_)))))
   exact As rfl rfl (by rw [decide_eq_false]; exact fun h => absurd h.2.1 (by omega))
  ·refine Ai (Ad (Ac (Az (Qm rfl (An (Ah ?_))))))
   refine AD (fun n s h' ms' => ∃ (k : Nat), n = 1000 - k ∧ s = [(0, .int .i64 p), (3, .int .i64 k)] ∧ h = h' ∧ ms' = [] ∧ 2 ≤ k ∧ k ≤ 1000 ∧ ∀ j, 2 ≤ j → j < k → p.toNat % j ≠ 0)
    (1000 - 2) _ ⟨2, rfl, rfl, rfl, rfl, by omega, by omega, fun j h1 h2 => by omega⟩ Qs ?_
   rintro n s h' ms' ⟨k, rfl, rfl, rfl, rfl, h2, hk, hno⟩
   have hkk : (k : Int) * k ≤ 1000 * 1000 := by
    have h1 : k * k ≤ 1000 * 1000 := Nat.mul_le_mul hk hk
    have h2 : ((k * k : Nat) : Int) = (k : Int) * k := by simp
    omega
   have hkk0 : 0 ≤ (k : Int) * k := Int.mul_nonneg (by omega) (by omega)
   have hk4 : 2 * (k : Int) ≤ (k : Int) * k := Int.mul_le_mul_of_nonneg_right (by omega) (by omega)
   refine Ac (Az (Qm rfl (Qm rfl (Qx (oM rfl) rfl (Qm rfl (Qm rfl (An ?_)))))))
   refine Ax rfl (fun hlt => ?_) (fun hlt => ?_)
   ·refine Ai (Ad (Ac (Ah (Az (Qm rfl (Qm rfl (Qx (B5 rfl rfl rfl (by omega) (by omega)) rfl (Qm rfl (An ?_)))))))))
    have hm := VA (p := p) (by omega) k (by omega)
    refine Ax rfl (fun hz => ?_) (fun hz => ?_)
    ·refine Ac (Ab (Qm rfl (An (Aq (Al (Ae (Ae (Al (Ae ?_)))))))))
     exact As rfl rfl (by rw [decide_eq_false]; exact fun h => absurd (show p.toNat % k = 0 by omega) (h.2.2 k (by omega) h2))
    ·refine Ai (Aj (Ad (Ab (Qm rfl (Qx (oA rfl) rfl (Qm rfl (Ak ?_)))))))
     refine Am (1000 - (k + 1)) _ (by omega) ⟨k + 1, rfl, rfl, rfl, rfl, by omega, by omega, fun j h1 h3 => ?_⟩ Qs
     rcases (by omega : j < k ∨ j = k) with h4 | h4
     ·exact hno j h1 h4
     ·subst h4; omega
   ·refine Aw (Aa (Aa (Ag (Ad (Az (Qm rfl (An (Aq ?_))))))))
    exact As rfl rfl (by rw [decide_eq_true]; exact LJ (by omega) (by omega) k (by omega) hno)
theorem VJ (p : Int) (h : Hp) (hI : Bq p) (ms : List Hp) : FnV Tryz.prog 70 #[.int .i64 p] h ms (.bool (decide (IsP p))) := by
 refine fun w hw => (?_ : FnV _ _ _ h [] _) w (hw.weaken (Hp.le_refl _) (List.nil_sublist _))
 exact FnT.toV (SM p h hI)
def IsLast (l : List Int) (r : Int) : Prop := (∃ (i : Nat) (hi : i < l.length), r = i ∧ l[i] ≠ 0 ∧ ∀ j (hj : j < l.length), i < j → l[j] = 0) ∨ (r = -1 ∧ ∀ j (hj : j < l.length), l[j] = 0)
def W7 (l : List Int) (k : Nat) : List Value := [.int .i64 ((l.length : Int) - 1 - k), .int .i64 (l.getD (l.length - 1 - k) 0)]
theorem Tg (g : Nat) (v : Value) (l : List Int) (h : Hp) (hG : Seg h [] ⟨g, 0, none⟩ [v]) (hR : RdL cI 1 h [] v l) (hn2 : l.length ≤ 1000000) : X1 Tryz.prog 103 [.pointer (some ⟨g, 0, none⟩)] h l.length (W7 l) := by
 intro lp X Y h1 ms hl hY h0
 show FnT _ _ #[.func (.yield lp) #[] #[], .pointer (some ⟨g, 0, none⟩)] _ _ _
 have hG := hG.le hl
 have hR := hR.up hl
 obtain ⟨n, hn⟩ : ∃ n, l.length = n := ⟨_, rfl⟩
 rw [hn] at hn2 hY
 refine Av func103 ntmps103 rfl rfl (fun w0 hw0 => ?_)
 simp only [A5]
 refine Ac (ED (Fg (oL rfl underlying25 ((hG.at0 rfl).any)) rfl rfl rfl (Fg (AC hR.rd.any rfl underlying25 rfl) rfl rfl rfl (Fg (oS rfl) rfl rfl rfl (Fg (IE rfl rfl) rfl rfl rfl (Iu (Ad (Ah ?_))))))))
 refine AD (fun q s hh ms' => ∃ (k : Nat), q = n - k ∧ s = [(0, .func (.yield lp) #[] #[]), (1, .pointer (some ⟨g, 0, none⟩)), (3, .int .i64 ((n : Int) - 1 - k))] ∧ h1.le hh ∧ k ≤ n ∧ X k hh ms')
  (n - 0) [(0, .func (.yield lp) #[] #[]), (1, .pointer (some ⟨g, 0, none⟩)), (3, .int .i64 ((l.length : Int) - 1))] ⟨0, rfl, by rw [hn, show ((n : Int) - 1 - (0 : Nat)) = (n : Int) - 1 by omega], Hp.le_refl _, by omega, h0⟩ Qs ?_
 rintro q s hh ms' ⟨k, rfl, rfl, lh, hk, hX⟩
 refine Ac (Ac (ED (Fg (Au rfl rfl) rfl rfl rfl (Fg (Up rfl rfl rfl) rfl rfl rfl (Iu (Ad ?_))))))
 refine Ax rfl (fun hlt => ?_) (fun hlt => ?_)
 ·have hkn : k < n := by omega
  have hG2 := hG.le lh
  have hR2 := hR.up lh
  have hi : n - 1 - k < l.length := by omega
  have hc : ∀ ms, Cell hh ms ((AI v).add ((n - 1 - k) * 1)) (.int .i64 (l.getD (n - 1 - k) 0)) := fun ms => by
   rw [show l.getD (n - 1 - k) 0 = l[n - 1 - k] by simp [List.getD, hi]]
   exact (hR2.any (ms := ms)).cell0 hi rfl
  refine Ai (Ad (Ac (Ah (Ac (ED (Fg (Au rfl rfl) rfl rfl rfl (Fg (Au rfl rfl) rfl rfl rfl (Fg (oL rfl underlying25 ((hG2.at0 rfl).any)) rfl rfl rfl (Fg (Au rfl rfl) rfl rfl rfl (Fg (Af (n - 1 - k) hR2.rd.any rfl underlying25 Bm rfl rfl (by omega) (by omega)) rfl rfl rfl (Fg (oL rfl underlying3 (hc _)) rfl rfl rfl ?_)))))))))))
  have hyk := hY k hh ms' hkn lh hX
  unfold W7 at hyk
  rw [hn] at hyk
  refine TN rfl rfl rfl (hyk) rfl rfl rfl (fun r h2 ms2 l2 hr => ?_)
  rcases hr with ⟨rfl, hX2⟩ | ⟨rfl, hX2⟩
  ·refine Fg (Ft rfl rfl) rfl rfl rfl (Iu (Ad (AO rfl (Ai (Aj (Ad (ED (Fg (Au rfl rfl) rfl rfl rfl (Fg (oS rfl) rfl rfl rfl (Fg (IE rfl rfl) rfl rfl rfl (Iu ?_)))))))))))
   refine Am (n - (k + 1)) [(0, .func (.yield lp) #[] #[]), (1, .pointer (some ⟨g, 0, none⟩)), (3, .int .i64 ((n : Int) - 1 - k - 1))] (by omega) ⟨k + 1, rfl, by rw [show ((n : Int) - 1 - k - 1) = (n : Int) - 1 - (k + 1 : Nat) by omega], Hp.le_trans lh l2, by omega, hX2⟩ Qs
  ·refine Fg (Ft rfl rfl) rfl rfl rfl (Iu (Ad (Bk rfl (Aq (Al (Ae (Ae (Al ?_))))))))
   exact Ek rfl (.inr ⟨k, by omega, hX2⟩)
 ·obtain rfl : k = n := by omega
  refine Aw (Aa (Aa (Ag ?_)))
  exact BL rfl (.inl (by rw [hn]; exact hX))
theorem Pk (v : Value) (n : Nat) (cs : List Value) (h : Hp) (hR : Rd h [] v 1 n cs) : FnT Tryz.prog 77 #[v] h [] (fun r h' ms' => h = h' ∧ ∃ g, r = .func (.func 103) #[] #[.pointer (some ⟨g, 0, none⟩)] ∧ ms' = [Bf g 25 [v]]) := by
 refine Av func77 ntmps77 rfl rfl (fun w0 hw0 => ?_)
 simp only [A5]
 refine Az (A8 [_] rfl rfl (Rd.cells ‹_›) rfl rfl rfl (fun g1 => Qm rfl (BG (Qx (Bv rfl rfl rfl) rfl (Qm rfl (An (Aq ?_)))))))
 exact As rfl rfl (⟨rfl, _, rfl, rfl⟩)
end Go.Proofs.YtodheebhahdepaaGreat

namespace Go.Proofs.YtodheebhahdepaaGreat
open Go.Proofs.Tryz
open Go.Eng Go.RowKit Go.Lin
theorem IsLast.uniq {l : List Int} {x y : Int} (h1 : IsLast l x) (h2 : IsLast l y) : x = y := by
 rcases h1 with ⟨i, hi, rfl, q1, q2⟩ | ⟨rfl, q⟩ <;> rcases h2 with ⟨j, hj, rfl, r1, r2⟩ | ⟨rfl, r⟩
 ·rcases Nat.lt_trichotomy i j with h | h | h
  ·exact absurd (q2 j hj h) r1
  ·rw [h]
  ·exact absurd (r2 i hi h) q1
 ·exact absurd (r i hi) q1
 ·exact absurd (q j hj) r1
 ·rfl
theorem IsLast.ex (l : List Int) : ∃ x, IsLast l x := by
 have key : ∀ n, n ≤ l.length → (∃ (i : Nat) (hi : i < l.length), i < n ∧ l[i] ≠ 0 ∧ ∀ j (hj : j < l.length), i < j → j < n → l[j] = 0) ∨ ∀ j (hj : j < l.length), j < n → l[j] = 0 := fun n => by
  induction n with
  | zero => intro _; exact .inr fun j _ h => by omega
  | succ n ih =>
   intro hn
   by_cases h0 : l[n] = 0
   ·rcases ih (by omega) with ⟨i, hi, h1, h2, h3⟩ | h
    ·refine .inl ⟨i, hi, by omega, h2, fun j hj h4 h5 => ?_⟩
     rcases (by omega : j < n ∨ j = n) with h6 | rfl
     ·exact h3 j hj h4 h6
     ·exact h0
    ·refine .inr fun j hj h5 => ?_
     rcases (by omega : j < n ∨ j = n) with h6 | rfl
     ·exact h j hj h6
     ·exact h0
   ·exact .inl ⟨n, by omega, by omega, h0, fun j hj h4 h5 => by omega⟩
 rcases key l.length (Nat.le_refl _) with ⟨i, hi, _, h2, h3⟩ | h
 ·exact ⟨i, .inl ⟨i, hi, rfl, h2, fun j hj h4 => h3 j hj h4 hj⟩⟩
 ·exact ⟨-1, .inr ⟨rfl, fun j hj => h j hj hj⟩⟩
noncomputable def Bs (l : List Int) : Int := Classical.choose (IsLast.ex l)
theorem H8 (l : List Int) : IsLast l (Bs l) := Classical.choose_spec (IsLast.ex l)
theorem Nf {l : List Int} {x : Int} (h : IsLast l x) : Bs l = x := (H8 l).uniq h
theorem Kw (l : List Int) : -1 ≤ Bs l ∧ Bs l < l.length := by
 rcases H8 l with ⟨i, hi, e, _⟩ | ⟨e, _⟩ <;> rw [e] <;> omega
theorem U2 (v : Value) (l : List Int) (h : Hp) (hR : RdL cI 1 h [] v l) (hn : l.length ≤ 1000000) : FnT Tryz.prog 55 #[v] h [] (fun r _ _ => r = .int .i64 (Bs l)) := by
 have ov := hR.rd.one
 refine KX func55 ntmps55 rfl rfl (fun w0 hw0 => ?_)
 simp only [A5]
 refine Az (C4 [.int .i64 0] rfl Bm rfl rfl (fun g2 => An (Ac (Az (Qm rfl (Qc call77 rfl (Pk v l.length _ h hR.rd) (fun vf h10 ms10 l10 hF => ?_)))))))
 obtain ⟨rfl, gb, rfl, rfl⟩ := hF
 refine An (Ah (AA fun h2 l2 hGb => ?_))
 have hR := hR.up l2
 have hI := Tg gb v l h2 hGb hR hn
 refine KK (fun k hh ms => ms = [Bf g2 3 [.int .i64 0]] ∧ ∀ j (hj : j < l.length), l.length - k ≤ j → l[j] = 0) (fun k hh ms => ms = [Bf g2 3 [.int .i64 ((l.length : Int) - 1 - k)]] ∧ IsLast l ((l.length : Int) - 1 - k)) (fun k s1 hh ms => s1 = [(2, .pointer (some ⟨g2, 0, none⟩)), (3, .int .i64 ((l.length : Int) - 1 - k)), (4, .int .i64 (l.getD (l.length - 1 - k) 0))] ∧ ms = [Bf g2 3 [.int .i64 0]] ∧ ∀ j (hj : j < l.length), l.length - k ≤ j → l[j] = 0) rfl call103 hI (fun k => rfl) rfl ?_ ?_ ?_ ?_ ?_
 ·exact ⟨rfl, fun j hj h => by omega⟩
 ·rintro w1 k hh ms1 hk lh ⟨rfl, hz⟩
  rw [show W7 l k = [.int .i64 ((l.length : Int) - 1 - k), .int .i64 (l.getD (l.length - 1 - k) 0)] from rfl]
  refine OV (DL (by kernel_rfl) (Qm rfl (Ak (Kl (DL (by kernel_rfl) (Qm rfl (Ak ?_)))))))
  exact Ay _ ⟨rfl, rfl, hz⟩ Qs
 ·rintro w1 k s1 hh ms1 hk lh ⟨rfl, rfl, hz⟩
  have hi : l.length - 1 - k < l.length := by omega
  have eg : l.getD (l.length - 1 - k) 0 = l[l.length - 1 - k] := by simp [List.getD, hi]
  refine MU (OV (DL (by kernel_rfl) (Qm rfl (Qm rfl (Ak (Kl ?_))))))
  refine XJ rfl (fun hne => ?_) (fun hne => ?_)
  ·refine OV (DL (by kernel_rfl) (Qm rfl ?_))
   refine AK 0 0 rfl Bm rfl rfl (by rfl) rfl rfl (by decide) rfl rfl ?_
   refine Ak (Kl (Wy (Al ?_)))
   refine Vw [] ⟨rfl, .inl ⟨l.length - 1 - k, hi, by omega, by rw [← eg]; exact hne, fun j hj hlt => hz j hj (by omega)⟩⟩ trivial
  ·refine U8 (Aj ?_)
   refine Ay [] ⟨rfl, fun j hj hle => ?_⟩ trivial
   rcases (by omega : l.length - k ≤ j ∨ j = l.length - 1 - k) with h1 | rfl
   ·exact hz j hj h1
   ·rw [← eg]; exact Classical.not_not.1 hne
 ·rintro D hh ms1 lh ⟨rfl, hz⟩
  refine Aj (Ad (Az ?_))
  refine AK 0 0 rfl Bm rfl rfl (by rfl) rfl rfl (by decide) rfl rfl ?_
  refine An (Aq (LV 1 (.inr rfl) rfl ?_))
  exact K6 rfl rfl underlying3 rfl 0 rfl (by rw [Nf (.inr ⟨rfl, fun j hj => hz j hj (by omega)⟩)])
 ·rintro D k hh ms1 hk lh ⟨rfl, hL⟩
  refine LV 1 (.inr rfl) rfl ?_
  exact K6 rfl rfl underlying3 rfl 0 rfl (by rw [Nf hL])
theorem Tf (v : Value) (l : List Int) (h : Hp) (hR : RdL cI 1 h [] v l) (hn : l.length ≤ 1000000) (ms : List Hp) : FnV Tryz.prog 55 #[v] h ms (.int .i64 (Bs l)) := IV (U2 v l h hR hn) ms
variable {p n t : Int} {i : Nat}
def FP (p n : Int) : Int := match (List.range p.toNat).find? (fun k : Nat => decide (1 ≤ k ∧ n * (k : Int) % p = 1)) with | some k => (k : Int) | none => 1
theorem Oq {k : Nat} (h1 : 1 ≤ k) (hk : (k : Int) < p) (h : n * (k : Int) % p = 1) (hno : ∀ j : Nat, 1 ≤ j → j < k → n * (j : Int) % p ≠ 1) : FP p n = k := by
 unfold FP
 have : (List.range p.toNat).find? (fun k : Nat => decide (1 ≤ k ∧ n * (k : Int) % p = 1)) = some k := List.find?_range_eq_some.2 ⟨decide_eq_true ⟨h1, h⟩, List.mem_range.2 (by omega), fun j hj => by
  rw [decide_eq_false fun q => hno j q.1 hj q.2]; rfl⟩
 rw [this]
theorem OR (hno : ∀ j : Nat, 1 ≤ j → (j : Int) < p → n * (j : Int) % p ≠ 1) : FP p n = 1 := by
 unfold FP
 have : (List.range p.toNat).find? (fun k : Nat => decide (1 ≤ k ∧ n * (k : Int) % p = 1)) = none := List.find?_eq_none.2 fun j hj => by
  have := List.mem_range.1 hj
  rw [decide_eq_false fun q => hno j q.1 (by omega) q.2]; decide
 rw [this]
theorem SJ (hp : 2 ≤ p) (n : Int) : 1 ≤ FP p n ∧ FP p n < p := by
 unfold FP
 split
 ·rename_i k h
  obtain ⟨h1, h2, _⟩ := List.find?_range_eq_some.1 h
  have := of_decide_eq_true h1
  have := List.mem_range.1 h2
  omega
 ·omega
theorem RG (h : IsP p) (h0 : 0 < n) (hn : n < p) : n * FP p n % p = 1 := by
 have h2 := h.1
 obtain ⟨w, hw⟩ := h.fld.inv n fun ⟨c, e⟩ => by
  have h1 : c < 1 := Int.lt_of_mul_lt_mul_left (show p * c < p * 1 by omega) (by omega)
  have h3 : 0 < c := Int.lt_of_mul_lt_mul_left (show p * 0 < p * c by omega) (by omega)
  omega
 have hw : w * n % p = 1 := by
  rw [Int.mul_comm]
  have h3 := Int.emod_eq_emod_iff_emod_sub_eq_zero.2 (Int.emod_eq_zero_of_dvd hw)
  rw [h3, Int.emod_eq_of_lt (by omega) (by omega)]
 have h5 := Int.emod_nonneg w (show p ≠ 0 by omega)
 have h6 := Int.emod_lt_of_pos w (show 0 < p by omega)
 have h4 : n * (((w % p).toNat : Nat) : Int) % p = 1 := by
  rw [Int.toNat_of_nonneg h5, Int.mul_emod, Int.emod_emod_of_dvd w (Int.dvd_refl p), ← Int.mul_emod, Int.mul_comm]
  exact hw
 have h7 : 1 ≤ (w % p).toNat := by
  refine Nat.one_le_iff_ne_zero.2 fun e => ?_
  rw [e] at h4
  simp at h4
 unfold FP
 split
 ·rename_i k h
  exact (of_decide_eq_true (List.find?_range_eq_some.1 h).1).2
 ·rename_i h
  have := List.find?_eq_none.1 h (w % p).toNat (List.mem_range.2 (by omega))
  exact absurd (decide_eq_true ⟨h7, h4⟩) this
def Fb (p : Int) (a b : List Int) (t : Int) : List Int := List.zipWith (fun x y => (x + t * y) % p) a b
theorem EI {a b : List Int} (h : a.length = b.length) : (Fb p a b t).length = a.length := by unfold Fb; rw [List.length_zipWith]; omega
theorem Np {a b : List Int} (h : i < (Fb p a b t).length) (ha : i < a.length) (hb : i < b.length) : (Fb p a b t)[i] = (a[i] + t * b[i]) % p := by simp [Fb]
theorem Uu {α : Type} (A B : List α) (hl : A.length = B.length) (hi : i < A.length) : (A.take i ++ B.drop i).set i A[i] = A.take (i + 1) ++ B.drop (i + 1) := by
 have hlt : (A.take i).length = i := by rw [List.length_take]; omega
 rw [List.set_append, if_neg (by omega), hlt, Nat.sub_self, List.drop_eq_getElem_cons (show i < B.length by omega), List.set_cons_zero, List.take_succ_eq_append_getElem hi, List.append_assoc]
 rfl
theorem SL {α : Type} (A B : List α) (hl : A.length = B.length) (hi : i < A.length) : (A.take i ++ B.drop i)[i]'(by rw [List.length_append, List.length_take, List.length_drop]; omega) = B[i] := by
 have hlt : (A.take i).length = i := by rw [List.length_take]; omega
 rw [List.getElem_append_right (by omega)]
 simp [hlt]
def Jz (p : Int) (l : List Int) : Prop := ∀ x ∈ l, 0 ≤ x ∧ x < p
theorem NC (hp : 0 < p) (a b : List Int) : Jz p (Fb p a b t) := fun x hx => by
 unfold Fb at hx
 obtain ⟨i, hi, rfl⟩ := List.getElem_of_mem hx
 rw [List.getElem_zipWith]
 exact ⟨Int.emod_nonneg _ (by omega), Int.emod_lt_of_pos _ hp⟩
theorem Vx (p n : Int) (g : Nat) (h : Hp) (hG : ∀ ms, Cell h ms (⟨g, 0, none⟩ : Addr) (.int .i64 p)) (hp : 2 ≤ p ∧ p ≤ 997) (hn : 0 ≤ n ∧ n < p) : FnT Tryz.prog 75 #[.pointer (some ⟨g, 0, none⟩), .int .i64 n] h [] (fun r _ _ => r = .int .i64 (FP p n)) := by
 refine Av func75 ntmps75 rfl rfl (fun w0 hw0 => ?_)
 simp only [A5]
 refine Az (Qm rfl (An (Ac (Az (Qm rfl (An (Ah ?_)))))))
 refine AD (fun q sl h' ms' => ∃ (k : Nat), q = p.toNat - k ∧ sl = [(0, .pointer (some ⟨g, 0, none⟩)), (1, .int .i64 n), (5, .int .i64 k)] ∧ h = h' ∧ ms' = [] ∧ 1 ≤ k ∧ (k : Int) ≤ p ∧ ∀ j : Nat, 1 ≤ j → j < k → n * (j : Int) % p ≠ 1)
  (p.toNat - 1) _ ⟨1, rfl, rfl, rfl, rfl, by omega, by omega, fun j h1 h2 => by omega⟩ Qs ?_
 rintro q sl h' ms' ⟨k, rfl, rfl, rfl, rfl, h1, hk, hno⟩
 have hnk : 0 ≤ n * (k : Int) ∧ n * (k : Int) ≤ 997 * 997 := ⟨Int.mul_nonneg hn.1 (by omega), Int.mul_le_mul (by omega) (by omega) (by omega) (by omega)⟩
 refine Ac (Az (Qm rfl (Qm rfl (Qm rfl (Qf HS rfl (Ql rfl underlying3 (hG _) (Qm rfl (An ?_))))))))
 refine Ax rfl (fun hlt => ?_) (fun hlt => ?_)
 ·refine Ai (Ad (Ac (Ah (Az (Qm rfl (Qm rfl (Qx (oM rfl) rfl (Qm rfl (Qm rfl (Qf HS rfl (Ql rfl underlying3 (hG _) (Qx (B5 rfl rfl rfl (by omega) (by omega)) rfl (Qm rfl (An ?_))))))))))))))
  refine Ax rfl (fun he => ?_) (fun he => ?_)
  ·refine Ac (Ab (Qm rfl (Qm rfl (An (Aq (Al (Ae (Ae (Al (Ae ?_))))))))))
   exact As rfl rfl (by rw [Oq h1 hlt he hno])
  ·refine Ai (Aj (Ad (Ab (Qm rfl (Qx (oA rfl) rfl (Qm rfl (Ak ?_)))))))
   refine Am (p.toNat - (k + 1)) _ (by omega) ⟨k + 1, rfl, rfl, rfl, rfl, by omega, by omega, fun j h3 h4 => ?_⟩ Qs
   rcases (by omega : j < k ∨ j = k) with h5 | rfl
   ·exact hno j h3 h5
   ·exact he
 ·have hkp : (k : Int) = p := by omega
  refine Aw (Aa (Aa (Ag (Ad (Az (Qm rfl (An (Aq ?_))))))))
  exact As rfl rfl (by rw [OR fun j h3 h4 => hno j h3 (by omega)])
theorem WM (p n : Int) (g : Nat) (h : Hp) (hG : ∀ ms, Cell h ms (⟨g, 0, none⟩ : Addr) (.int .i64 p)) (hp : 2 ≤ p ∧ p ≤ 997) (hn : 0 ≤ n ∧ n < p) (ms : List Hp) : FnV Tryz.prog 75 #[.pointer (some ⟨g, 0, none⟩), .int .i64 n] h ms (.int .i64 (FP p n)) := IV (Vx p n g h hG hp hn) ms
theorem Su (p t : Int) (g : Nat) (a b : List Int) (va vb : Value) (m h : Hp) (hG : ∀ ms, Cell h ms (⟨g, 0, none⟩ : Addr) (.int .i64 p)) (hp : 2 ≤ p ∧ p ≤ 997) (ht : 0 ≤ t ∧ t < p) (hA : OwnL cI 1 3 m va a) (hB : RdL cI 1 h [] vb b) (hl : a.length = b.length) (hn : a.length ≤ 1000000) (ra : Jz p a) (rb : Jz p b) :
  FnT Tryz.prog 76 #[.pointer (some ⟨g, 0, none⟩), va, vb, .int .i64 t] h [m] (fun _ h' ms' => h = h' ∧ ∃ m', ms' = [m'] ∧ OwnL cI 1 3 m' va (Fb p a b t)) := by
 have oa : va.oneCell' = true := (hA.rd (h := h) (ms := [m]) (List.Mem.head _)).rd.one
 have ob := hB.rd.one
 obtain ⟨C, hC⟩ : ∃ C, Fb p a b t = C := ⟨_, rfl⟩
 have hCl : C.length = a.length := by rw [← hC]; exact EI hl
 refine Av func76 ntmps76 rfl rfl (fun w0 hw0 => ?_)
 simp only [A5]
 refine Az (Qm rfl (Qx (AC hB.rd.any rfl underlying25 rfl) rfl (Qm rfl (An (Ah ?_)))))
 refine AD (fun q sl h' ms' => ∃ (i : Nat) (m : Hp), q = b.length - i ∧ sl = [(0, .pointer (some ⟨g, 0, none⟩)), (1, va), (3, .int .i64 t), (10, vb), (11, .int .i64 b.length), (12, .int .i64 i)] ∧ h = h' ∧ ms' = [m] ∧ i ≤ b.length ∧ OwnL cI 1 3 m va (C.take i ++ a.drop i))
  (b.length - 0) _ ⟨0, m, rfl, rfl, rfl, rfl, by omega, by simpa using hA⟩ Qs ?_
 rintro q sl h' ms' ⟨i, m, rfl, rfl, rfl, rfl, hi, hO⟩
 refine Az (Qm rfl (An (Ac ?_)))
 refine Ax rfl (fun hlt => ?_) (fun hlt => ?_)
 ·have hib : i < b.length := by omega
  have hia : i < a.length := by omega
  have hiC : i < C.length := by omega
  have hlen : (C.take i ++ a.drop i).length = a.length := by rw [List.length_append, List.length_take, List.length_drop]; omega
  have hiO : i < (C.take i ++ a.drop i).length := by omega
  have r1 := ra _ (List.getElem_mem hia)
  have r2 := rb _ (List.getElem_mem hib)
  have hCi : C[i] = (a[i] + t * b[i]) % p := by subst hC; exact Np _ hia hib
  have hset := Uu C a hCl hiC
  rw [hCi] at hset
  have ca : ∀ ms, m ∈ ms → Cell h ms ((AI va).add (i * 1)) (.int .i64 a[i]) := fun ms hm => by
   have := (hO.rd (h := h) (ms := ms) hm).cell0 hiO rfl
   rwa [SL C a hCl hiC] at this
  have cb : ∀ ms, Cell h ms ((AI vb).add (i * 1)) (.int .i64 b[i]) := fun ms => (hB.any (ms := ms)).cell0 hib rfl
  obtain ⟨x, hx⟩ : ∃ x, a[i] = x := ⟨_, rfl⟩
  obtain ⟨y, hy⟩ : ∃ y, b[i] = y := ⟨_, rfl⟩
  rw [hx] at r1 ca hset
  rw [hy] at r2 cb hset
  have hty : 0 ≤ t * y ∧ t * y ≤ 997 * 997 := ⟨Int.mul_nonneg ht.1 r2.1, Int.mul_le_mul (by omega) (by omega) (by omega) (by omega)⟩
  refine Ai (Ad (Ac (Ah (Az (Qm rfl (Qx (Af (i) hB.rd.any rfl underlying25 Bm rfl rfl (by omega) (by omega)) rfl (Ql rfl underlying3 (cb _) (Qm rfl (Qm rfl (An (CS 14 [true, true] CN (by kernel_rfl) (by kernel_rfl) (by kernel_rfl) (Dq rfl rfl rfl rfl (BM rfl rfl) (Dq rfl rfl rfl rfl (BM rfl rfl) ?_)))))))))))))
  refine ⟨rfl, ?_⟩
  simp only [DI, zap, List.cons_append, List.nil_append, List.take_succ_cons, List.take_zero, List.drop_succ_cons, List.drop_zero, List.take_nil, List.drop_nil]
  refine Dl rfl rfl rfl (Dl rfl rfl rfl (Wm rfl (Wm rfl (AM (Af (i) (hO.rd (h := h) (ms := [m]) (List.Mem.head _)).rd rfl underlying25 Bm rfl rfl (by omega) (by omega)) rfl rfl (Wl rfl underlying3 (ca _ (List.Mem.head _)) (Wm rfl (Wm rfl (AM (oM rfl) rfl rfl (AM (oA rfl) rfl rfl (Wm rfl (Wm rfl (Wf HS rfl (Wl rfl underlying3 (hG _) (AU (Qx (B5 rfl rfl rfl (by omega) (by omega)) rfl (Qx (Af (i) (hO.rd (h := h) (ms := [m]) (List.Mem.head _)).rd rfl underlying25 Bm rfl rfl (by omega) (by omega)) rfl (DQ 0 i hO rfl Bm rfl rfl rfl hiO rfl rfl (fun m' hO' => ?_))))))))))))))))))
  rw [hset] at hO'
  refine Ak (Gj (Aj (Ad (Ab (Qx (oA rfl) rfl (Qm rfl (Ak ?_)))))))
  exact Am (b.length - (i + 1)) _ (by omega) ⟨i + 1, m', rfl, rfl, rfl, rfl, by omega, hO'⟩ Qs
 ·obtain rfl : i = b.length := by omega
  rw [List.drop_eq_nil_of_le (by omega), List.append_nil, ← hl, ← hCl, List.take_length] at hO
  rw [hC]
  refine Aw (Aa (Aa (Ag ?_)))
  exact BL rfl (⟨rfl, m, rfl, hO⟩)
end Go.Proofs.YtodheebhahdepaaGreat
namespace Go.Proofs.YtodheebhahdepaaGreat
open Go.Proofs.Tryz
open Go.Eng Go.RowKit Go.Lin
variable {p : Int}
def cU (v : Value) : List Value := [v]
theorem O8 : ∀ v, (cU v).length = 1 := fun _ => rfl
def Ew (p : Int) (vc : Value) (gA : Nat) (vr vv : Value) (la : List Int) : List Value := .int .i64 p :: vc :: .map (some gA) :: vr :: vv :: la.map fun n => .int .i64 n
inductive Ops (p : Int) (n j : Nat) (R V : Nat → List Int) (r v : List Int) : List Int → List Int → Prop
 | refl : Ops p n j R V r v r v
 | step {r1 v1 : List Int} {k i : Nat} {t : Int} : Ops p n j R V r v r1 v1 → k < j → i < n → 0 ≤ t → t < p → r1.getD i 0 ≠ 0 → (R k).getD i 0 ≠ 0 → Ops p n j R V r v (Fb p r1 (R k) t) (Fb p v1 (V k) t)
structure Red (p : Int) (n j : Nat) (R V : Nat → List Int) (la : List Int) : Prop where
 rl : ∀ k, k < j → (R k).length = n
 vl : ∀ k, k < j → (V k).length = n
 rr : ∀ k, k < j → Jz p (R k)
 vr : ∀ k, k < j → Jz p (V k)
 ll : la.length = 400
 a0 : ∀ i, i < 400 → la.getD i 0 = 0 ∨ ∃ k, k < j ∧ la.getD i 0 = (k : Int) + 1 ∧ Bs (R k) = i
 a1 : ∀ k, k < j → 0 ≤ Bs (R k) → la.getD (Bs (R k)).toNat 0 = (k : Int) + 1
def Yw (j : Nat) (r' : List Int) (la la' : List Int) : Prop := (Bs r' < 0 ∧ la' = la) ∨ (0 ≤ Bs r' ∧ la.getD (Bs r').toNat 0 = 0 ∧ la' = la.set (Bs r').toNat ((j : Int) + 1))
theorem Fj {l : List Int} {i : Nat} (h : Bs l = i) : i < l.length ∧ l.getD i 0 ≠ 0 ∧ ∀ j, i < j → l.getD j 0 = 0 := by
 rcases H8 l with ⟨k, hk, e, h1, h2⟩ | ⟨e, _⟩
 ·obtain rfl : i = k := by omega
  refine ⟨hk, by simpa [List.getD, hk] using h1, fun j hj => ?_⟩
  by_cases hjl : j < l.length
  ·simpa [List.getD, hjl] using h2 j hjl hj
  ·simp [List.getD, List.getElem?_eq_none (show l.length ≤ j by omega)]
 ·omega
theorem HP (hp : 0 < p) {l : List Int} (h : Jz p l) (i : Nat) : 0 ≤ l.getD i 0 ∧ l.getD i 0 < p := by
 by_cases hi : i < l.length
 ·have := h _ (List.getElem_mem hi)
  simpa [List.getD, hi] using this
 ·simp [List.getD, List.getElem?_eq_none (show l.length ≤ i by omega), hp]
theorem DS {t : Int} {a b : List Int} (hl : a.length = b.length) (i : Nat) : (Fb p a b t).getD i 0 = (a.getD i 0 + t * b.getD i 0) % p := by
 by_cases hi : i < a.length
 ·have h2 : i < b.length := by omega
  have h3 : i < (Fb p a b t).length := by rw [EI hl]; exact hi
  have := Np h3 hi h2
  simp only [List.getD, List.getElem?_eq_getElem h3, List.getElem?_eq_getElem hi, List.getElem?_eq_getElem h2, Option.getD_some, this]
 ·have h3 : ¬ i < (Fb p a b t).length := by rw [EI hl]; exact hi
  simp [List.getD, List.getElem?_eq_none (show a.length ≤ i by omega), List.getElem?_eq_none (show b.length ≤ i by omega), List.getElem?_eq_none (show (Fb p a b t).length ≤ i by omega)]
theorem Yp {x b w : Int} (h : b * w % p = 1) (hp : 0 < p) : (x + ((p - x) * w % p) * b) % p = 0 := by
 have h1 := Int.emod_add_mul_ediv (b * w) p
 have h2 := Int.emod_add_mul_ediv ((p - x) * w) p
 rw [h] at h1
 refine Int.emod_eq_zero_of_dvd ⟨1 + (p - x) * (b * w / p) - ((p - x) * w / p) * b, ?_⟩
 generalize b * w / p = q1 at h1 ⊢
 generalize (p - x) * w / p = q2 at h2 ⊢
 have e : (p - x) * w % p = (p - x) * w - p * q2 := by omega
 rw [e]
 have e2 : b * w = 1 + p * q1 := h1.symm
 have e3 : ((p - x) * w - p * q2) * b = (p - x) * (b * w) - p * (q2 * b) := by
  rw [Int.sub_mul, Int.mul_assoc, Int.mul_comm w b, Int.mul_assoc]
 rw [e3, e2, Int.mul_sub, Int.mul_add, Int.mul_one, Int.mul_add, Int.mul_one]
 have e4 : p * ((p - x) * q1) = (p - x) * (p * q1) := by rw [← Int.mul_assoc, ← Int.mul_assoc, Int.mul_comm p]
 rw [e4]; omega
theorem R9 {t : Int} {a b : List Int} {i : Nat} (hl : a.length = b.length) (ha : Bs a = i) (hb : Bs b = i) (h : (a.getD i 0 + t * b.getD i 0) % p = 0) : Bs (Fb p a b t) < i := by
 obtain ⟨h1, h2, h3⟩ := Fj ha
 obtain ⟨h4, h5, h6⟩ := Fj hb
 have hz : ∀ j, i ≤ j → (Fb p a b t).getD j 0 = 0 := fun j hj => by
  rw [DS hl]
  rcases (by omega : j = i ∨ i < j) with rfl | h7
  ·exact h
  ·rw [h3 j h7, h6 j h7]; simp
 refine Int.not_le.1 fun hle => ?_
 obtain ⟨k, hk⟩ := Int.eq_ofNat_of_zero_le (show 0 ≤ Bs (Fb p a b t) by omega)
 obtain ⟨_, h8, _⟩ := Fj hk
 exact h8 (hz k (by omega))
theorem Jy (p : Int) (vc : Value) (gA : Nat) (vr vv : Value) (la : List Int) : (Ew p vc gA vr vv la).length = 5 + la.length := by unfold Ew; simp; omega
theorem Ty (p : Int) (vc : Value) (gA : Nat) (vr vv : Value) (la : List Int) (i : Nat) (x : Int) : (Ew p vc gA vr vv la).set (5 + i) (.int .i64 x) = Ew p vc gA vr vv (la.set i x) := by
 unfold Ew
 rw [show 5 + i = i + 1 + 1 + 1 + 1 + 1 by omega]
 simp only [List.set_cons_succ, List.map_set]
theorem Sc (la : List Int) (i : Nat) (hi : i < la.length) : (la.map fun n => Value.int .i64 n)[i]? = some (.int .i64 (la.getD i 0)) := by
 simp [List.getD, hi]
theorem RY (p : Int) (n j : Nat) (g gA : Nat) (vc vr vv : Value) (Rs Vs : List Value) (R V : Nat → List Int) (la r v : List Int) (mr mv h : Hp) (hp : IsP p) (hn : n ≤ 400) (hj : j < n)
  (hRs : RdL cU 1 h [] vr Rs) (hVs : RdL cU 1 h [] vv Vs) (lR : Rs.length = n) (lV : Vs.length = n) (hR : ∀ k, k < j → RdL cI 1 h [] (Rs.getD k undef) (R k)) (hV : ∀ k, k < j → RdL cI 1 h [] (Vs.getD k undef) (V k)) (D : Red p n j R V la) (oc : vc.oneCell' = true)
  (Or : OwnL cI 1 3 mr (Rs.getD j undef) r) (Ov : OwnL cI 1 3 mv (Vs.getD j undef) v) (lr : r.length = n) (lv : v.length = n) (rr : Jz p r) (rv : Jz p v) :
  FnT Tryz.prog 54 #[.pointer (some ⟨g, 0, none⟩), .int .i64 j] h [Bf g 101 (Ew p vc gA vr vv la), mr, mv] (fun _ h' ms' => h.le h' ∧ ∃ r' v' la' mr' mv', ms' = [Bf g 101 (Ew p vc gA vr vv la'), mr', mv'] ∧ OwnL cI 1 3 mr' (Rs.getD j undef) r' ∧ OwnL cI 1 3 mv' (Vs.getD j undef) v' ∧ Ops p n j R V r v r' v' ∧ r'.length = n ∧ v'.length = n ∧ Jz p r' ∧ Jz p v' ∧ Yw j r' la la') := by
 have hp1 := hp.1
 have hp9 := hp.2.1
 refine Av func54 ntmps54 rfl rfl (fun w0 hw0 => ?_)
 simp only [A5]
 refine FB fun h1 l1 lG dG LG => ?_
 have hRs := hRs.up l1
 have hVs := hVs.up l1
 have hR := fun k hk => (hR k hk).up l1
 have hV := fun k hk => (hV k hk).up l1
 have hS := Seg.ofLe lG
 have oR := hRs.rd.one
 have oV := hVs.rd.one
 refine Ah ?_
 refine AD (fun q sl h' ms' => ∃ (r' v' : List Int) (mr mv : Hp), q = (Bs r' + 1).toNat ∧ sl = [(0, .pointer (some ⟨g, 0, none⟩)), (1, .int .i64 j)] ∧ h1.le h' ∧ ms' = [mr, mv] ∧ OwnL cI 1 3 mr (Rs.getD j undef) r' ∧ OwnL cI 1 3 mv (Vs.getD j undef) v' ∧ Ops p n j R V r v r' v' ∧ r'.length = n ∧ v'.length = n ∧ Jz p r' ∧ Jz p v')
  _ _ ⟨r, v, mr, mv, rfl, rfl, Hp.le_refl _, rfl, Or, Ov, .refl, lr, lv, rr, rv⟩ Qs ?_
 rintro q sl h2 ms' ⟨r1, v1, mr, mv, rfl, rfl, l2, rfl, Or, Ov, hO, lr, lv, rr, rv⟩
 have hRs := hRs.up l2
 have hVs := hVs.up l2
 have hR := fun k hk => (hR k hk).up l2
 have hV := fun k hk => (hV k hk).up l2
 have hS := hS.le l2
 refine FB fun h3 l3 lM dM LM => ?_
 have Rr : RdL cI 1 h3 [] (Rs.getD j undef) r1 := Or.rdh (h := h3) (ms := []) lM
 have hRs3 := hRs.up l3
 have hVs3 := hVs.up l3
 have hS3 := hS.le l3
 have hjR : j < Rs.length := by omega
 have hjV : j < Vs.length := by omega
 have eR : Rs.getD j undef = Rs[j] := by simp [List.getD, hjR]
 have eV : Vs.getD j undef = Vs[j] := by simp [List.getD, hjV]
 have a0 : ∀ ms, Cell h3 ms (⟨g, 0, none⟩ : Addr) (.int .i64 p) := fun ms => Seg.all hS3 0 _ rfl ms
 have a3 : ∀ ms, Cell h3 ms (⟨g, 3, none⟩ : Addr) vr := fun ms => Seg.all hS3 3 _ rfl ms
 have a4 : ∀ ms, Cell h3 ms (⟨g, 4, none⟩ : Addr) vv := fun ms => Seg.all hS3 4 _ rfl ms
 have cR : ∀ ms, Cell h3 ms ((AI vr).add (j * 1)) (Rs.getD j undef) := fun ms => by rw [eR]; exact (hRs3.any (ms := ms)).cell0 hjR rfl
 have orj := Rr.rd.one
 refine Ah (Az (Qm rfl (Qm rfl (Qf EV rfl (Ql rfl underlying22 (a3 _) (Qm rfl (Qx (Af (j) hRs3.rd.any rfl underlying22 Cn rfl rfl (by omega) (by omega)) rfl (Ql rfl underlying25 (cR _) (Qx (AG rfl call55 rfl (Tf (Rs.getD j undef) r1 h3 Rr (by omega) _)) rfl (Qm rfl (An (Ac (Az (Qm rfl (Qm rfl (An ?_))))))))))))))))
 refine Ax rfl (fun hneg => ?_) (fun hneg => ?_)
 ·refine Aq (Ae (Al (Ae (Al (Qd LM lM fun h4 l4 b4 => (Qd LG (b4 _ (Hp.le_trans lG (Hp.le_trans l2 l3)) (E3 (Hp.le_trans lG l2) dM)) fun h5 l5 b5 => ?_))))))
  have l05 : h.le h5 := b5 _ (b4 _ (Hp.le_trans l1 (Hp.le_trans l2 l3)) (E3 (Hp.le_trans l1 l2) dM)) dG
  exact Ek rfl (⟨l05, r1, v1, la, mr, mv, rfl, Or, Ov, hO, lr, lv, rr, rv, .inl ⟨hneg, rfl⟩⟩)
 ·obtain ⟨i, hi⟩ := Int.eq_ofNat_of_zero_le (show 0 ≤ Bs r1 by omega)
  obtain ⟨hi1, hi2, hi3⟩ := Fj hi
  have hin : i < 400 := by omega
  have hla := D.ll
  have cL : ∀ ms, Cell h3 ms ((⟨g, 5, none⟩ : Addr).add (i * 1)) (.int .i64 (la.getD i 0)) := fun ms => by
   have : (Ew p vc gA vr vv la)[5 + i]? = some (.int .i64 (la.getD i 0)) := by
    unfold Ew
    rw [show 5 + i = i + 1 + 1 + 1 + 1 + 1 by omega]
    simp only [List.getElem?_cons_succ]
    exact Sc la i (by omega)
   have := Seg.all hS3 (5 + i) _ this ms
   show Cell h3 ms (((⟨g, 0, none⟩ : Addr).add 5).add (i * 1)) _
   rw [C5, Nat.mul_one]; exact this
  rw [hi]
  have hl0 := D.a0 i hin
  obtain ⟨li, hli⟩ : ∃ li, la.getD i 0 = li := ⟨_, rfl⟩
  rw [hli] at cL hl0
  have hlb : 0 ≤ li ∧ li ≤ 400 := by
   rcases hl0 with h | ⟨k, hk, h, _⟩ <;> omega
  refine Ai (Ad (Az (Qm rfl (Qm rfl (Qm rfl (Qf Qy rfl (Qx (Gy (i) rfl underlying99 Bm rfl rfl (by omega) (by omega)) rfl (Ql rfl underlying3 (cL _) (Qx (oS rfl) rfl (Qm rfl (An (Ac (Az (Qm rfl (Qm rfl (An ?_))))))))))))))))
  refine Ax rfl (fun hk0 => ?_) (fun hk0 => ?_)
  ·have hl00 : li = 0 := by
    rcases hl0 with h | ⟨k, hk, h, _⟩ <;> omega
   refine EP LM lM fun h4 l4 b4 => ?_
   have lG4 := b4 _ (Hp.le_trans lG (Hp.le_trans l2 l3)) (E3 (Hp.le_trans lG l2) dM)
   refine EP LG lG4 fun h5 l5 b5 => ?_
   have l05 : h.le h5 := b5 _ (b4 _ (Hp.le_trans l1 (Hp.le_trans l2 l3)) (E3 (Hp.le_trans l1 l2) dM)) dG
   refine Az (Qm rfl (Qm rfl (Qm rfl (Qx (oA rfl) rfl (Qm rfl (Qf Qy rfl (Qx (Gy (i) rfl underlying99 Bm rfl rfl (by omega) (by omega)) rfl ?_)))))))
   refine AK 0 (5 + i) rfl Bm rfl rfl rfl rfl (by rw [Nat.mul_one]; exact C5 (⟨g, 0, none⟩ : Addr) 5 i) (by rw [Jy]; omega) rfl rfl ?_
   rw [Ty]
   refine An (Aq (Ae (Al (Ae (Al ?_)))))
   exact Ek rfl (⟨l05, r1, v1, la.set i ((j : Int) + 1), mr, mv, rfl, Or, Ov, hO, lr, lv, rr, rv, .inr ⟨by omega, by rw [hi, Int.toNat_natCast, hli, hl00], by rw [hi, Int.toNat_natCast]⟩⟩)
  ·obtain ⟨k, hkj, rfl, hlk⟩ : ∃ k, k < j ∧ li = (k : Int) + 1 ∧ Bs (R k) = i := by
    rcases hl0 with h | h
    ·omega
    ·exact h
   have hkR : k < Rs.length := by omega
   have hkV : k < Vs.length := by omega
   have eRk : Rs.getD k undef = Rs[k] := by simp [List.getD, hkR]
   have eVk : Vs.getD k undef = Vs[k] := by simp [List.getD, hkV]
   have hRk := (hR k hkj).up l3
   have hVk := (hV k hkj).up l3
   have lRk := D.rl k hkj
   have lVk := D.vl k hkj
   obtain ⟨hk1, hk2, _⟩ := Fj hlk
   have cRk : ∀ ms, Cell h3 ms ((AI vr).add (k * 1)) (Rs.getD k undef) := fun ms => by rw [eRk]; exact (hRs3.any (ms := ms)).cell0 hkR rfl
   have cx : ∀ ms, Cell h3 ms ((AI (Rs.getD j undef)).add (i * 1)) (.int .i64 (r1.getD i 0)) := fun ms => by
    rw [show r1.getD i 0 = r1[i] by simp [List.getD, hi1]]; exact (Rr.any (ms := ms)).cell0 hi1 rfl
   have cb : ∀ ms, Cell h3 ms ((AI (Rs.getD k undef)).add (i * 1)) (.int .i64 ((R k).getD i 0)) := fun ms => by
    rw [show (R k).getD i 0 = (R k)[i] by simp [List.getD, hk1]]; exact (hRk.any (ms := ms)).cell0 hk1 rfl
   have bx := HP (by omega) rr i
   have bb := HP (by omega) (D.rr k hkj) i
   obtain ⟨x, hx⟩ : ∃ x, r1.getD i 0 = x := ⟨_, rfl⟩
   obtain ⟨b, hb⟩ : ∃ b, (R k).getD i 0 = b := ⟨_, rfl⟩
   rw [hx] at cx bx hi2
   rw [hb] at cb bb hk2
   have hinv := RG hp (show 0 < b by omega) bb.2
   have hwb := SJ hp1 b
   obtain ⟨w, hw⟩ : ∃ w, FP p b = w := ⟨_, rfl⟩
   rw [hw] at hinv hwb
   have hpw : 0 ≤ (p - x) * w ∧ (p - x) * w ≤ 997 * 997 := ⟨Int.mul_nonneg (by omega) (by omega), Int.mul_le_mul (by omega) (by omega) (by omega) (by omega)⟩
   have hkill := Yp (x := x) hinv (show 0 < p by omega)
   have hov := WM p b g h3 a0 ⟨hp1, hp9⟩ ⟨bb.1, bb.2⟩
   rw [hw] at hov
   have ht0 := Int.emod_nonneg ((p - x) * w) (show p ≠ 0 by omega)
   have ht1 := Int.emod_lt_of_pos ((p - x) * w) (show 0 < p by omega)
   have ork := hRk.rd.one
   have ovj : (Vs.getD j undef).oneCell' = true := (Ov.rd (h := h3) (ms := [mv]) (List.Mem.head _)).rd.one
   have ovk := hVk.rd.one
   refine Ai (Ad (Ac (Bb 32 CN (by kernel_rfl) rfl (Wm rfl (Wm rfl (Wf HS rfl (Wl rfl underlying3 (a0 _) (Wm rfl (Wm rfl (Wf EV rfl (Wl rfl underlying22 (a3 _) (Wm rfl (AM (Af (j) hRs3.rd.any rfl underlying22 Cn rfl rfl (by omega) (by omega)) rfl rfl (Wl rfl underlying25 (cR _) (Wm rfl (AM (Af (i) Rr.rd.any rfl underlying25 Bm rfl rfl (by omega) (by omega)) rfl rfl (Wl rfl underlying3 (cx _) (AM (oS rfl) rfl rfl (Wm rfl (Wm rfl (Wm rfl (Wf EV rfl (Wl rfl underlying22 (a3 _) (Wm rfl (AM (Af (k) hRs3.rd.any rfl underlying22 Cn rfl rfl (by omega) (by omega)) rfl rfl (Wl rfl underlying25 (cRk _) (Wm rfl (AM (Af (i) hRk.rd.any rfl underlying25 Bm rfl rfl (by omega) (by omega)) rfl rfl (Wl rfl underlying3 (cb _) (AM (AG rfl call75 rfl (hov _)) rfl rfl (AM (oM rfl) rfl rfl (Wm rfl (Wm rfl (Wf HS rfl (Wl rfl underlying3 (a0 _) (AU (Qx (B5 rfl rfl rfl (by omega) (by omega)) rfl (Qm rfl (An ?_)))))))))))))))))))))))))))))))))))))))
   obtain ⟨t, ht⟩ : ∃ t, (p - x) * w % p = t := ⟨_, rfl⟩
   rw [ht] at hkill ht0 ht1 ⊢
   refine EP LM lM fun h4 l4 b4 => ?_
   have l24 := b4 _ l3 dM
   have hRs := hRs.up l24
   have hVs := hVs.up l24
   have hRk := (hR k hkj).up l24
   have hVk := (hV k hkj).up l24
   have hS := hS.le l24
   have a0 : ∀ ms, Cell h4 ms (⟨g, 0, none⟩ : Addr) (.int .i64 p) := fun ms => Seg.all hS 0 _ rfl ms
   have a3 : ∀ ms, Cell h4 ms (⟨g, 3, none⟩ : Addr) vr := fun ms => Seg.all hS 3 _ rfl ms
   have a4 : ∀ ms, Cell h4 ms (⟨g, 4, none⟩ : Addr) vv := fun ms => Seg.all hS 4 _ rfl ms
   have cR : ∀ ms, Cell h4 ms ((AI vr).add (j * 1)) (Rs.getD j undef) := fun ms => by rw [eR]; exact (hRs.any (ms := ms)).cell0 hjR rfl
   have cRk : ∀ ms, Cell h4 ms ((AI vr).add (k * 1)) (Rs.getD k undef) := fun ms => by rw [eRk]; exact (hRs.any (ms := ms)).cell0 hkR rfl
   have cV : ∀ ms, Cell h4 ms ((AI vv).add (j * 1)) (Vs.getD j undef) := fun ms => by rw [eV]; exact (hVs.any (ms := ms)).cell0 hjV rfl
   have cVk : ∀ ms, Cell h4 ms ((AI vv).add (k * 1)) (Vs.getD k undef) := fun ms => by rw [eVk]; exact (hVs.any (ms := ms)).cell0 hkV rfl
   refine Ac (Bb 16 CN (by kernel_rfl) rfl (Wm rfl (Wm rfl (Wm rfl (Wf EV rfl (Wl rfl underlying22 (a3 _) (Wm rfl (AM (Af (j) hRs.rd.any rfl underlying22 Cn rfl rfl (by omega) (by omega)) rfl rfl (Wl rfl underlying25 (cR _) (Wm rfl (Wm rfl (Wf EV rfl (Wl rfl underlying22 (a3 _) (Wm rfl (AM (Af (k) hRs.rd.any rfl underlying22 Cn rfl rfl (by omega) (by omega)) rfl rfl (Wl rfl underlying25 (cRk _) (Wm rfl (AU (Bg (pre := [mr]) rfl call76 rfl (Su p t g r1 (R k) _ _ mr h4 a0 ⟨hp1, hp9⟩ ⟨ht0, ht1⟩ Or hRk (by omega) (by omega) rr (D.rr k hkj)) rfl rfl rfl rfl (fun _ h5 ms5 l5 hF => ?_))))))))))))))))))))
   obtain ⟨rfl, mr', rfl, Or'⟩ := hF
   refine An (Bb 16 CN (by kernel_rfl) rfl (Wm rfl (Wm rfl (Wm rfl (Wf Jk rfl (Wl rfl underlying22 (a4 _) (Wm rfl (AM (Af (j) hVs.rd.any rfl underlying22 Cn rfl rfl (by omega) (by omega)) rfl rfl (Wl rfl underlying25 (cV _) (Wm rfl (Wm rfl (Wf Jk rfl (Wl rfl underlying22 (a4 _) (Wm rfl (AM (Af (k) hVs.rd.any rfl underlying22 Cn rfl rfl (by omega) (by omega)) rfl rfl (Wl rfl underlying25 (cVk _) (Wm rfl (AU (OZ 1 rfl (Bg (pre := [mv]) rfl call76 rfl (Su p t g v1 (V k) _ _ mv h4 a0 ⟨hp1, hp9⟩ ⟨ht0, ht1⟩ Ov hVk (by omega) (by omega) rv (D.vr k hkj)) rfl rfl rfl rfl (fun _ h6 ms6 l6 hF => ?_)))))))))))))))))))))
   obtain ⟨rfl, mv', rfl, Ov'⟩ := hF
   have hll : r1.length = (R k).length := by omega
   have hlv : v1.length = (V k).length := by omega
   have hless := R9 (p := p) (t := t) hll hi hlk (by rw [hx, hb]; exact hkill)
   have hO' := hO.step (t := t) hkj (show i < n by omega) ht0 ht1 (by rw [hx]; exact hi2) (by rw [hb]; exact hk2)
   have hpp : 0 < p := by omega
   refine Ak (Aj (CQ 1 rfl ?_))
   exact Am (Bs (Fb p r1 (R k) t) + 1).toNat _ (by omega) ⟨_, _, mr', mv', rfl, rfl, Hp.le_trans l2 l24, rfl, Or', Ov', hO', by rw [EI hll]; exact lr, by rw [EI hlv]; exact lv, NC hpp _ _, NC hpp _ _⟩ Qs
end Go.Proofs.YtodheebhahdepaaGreat
namespace Go.Proofs
open Go.Proofs.Tryz
open Go.Shelf
def Tryz.laysSlF06_f71_ren : Go.Shelf.Ren := ⟨fun | 6 => 71 | 15 => 57 | 14 => 101 | 28 => 87 | 29 => 88 | 20 => 120 | 21 => 121 | 22 => 122 | 23 => 123 | 24 => 124 | 25 => 125 | 26 => 126 | 27 => 127 | 46 => 132 | 47 => 105 | 48 => 106 | 49 => 133 | 50 => 134 | 57 => 138 | n => n, fun | 22 => 27 | 24 => 59 | 25 => 121 | 3 => 3 | 39 => 106 | 0 => 0 | 53 => 134 | 55 => 136 | 4 => 4 | 46 => 128 | 45 => 127 | 50 => 37 | 5 => 5 | 9 => 9 | 66 => 149 | 70 => 153 | 76 => 168 | 77 => 169 | n => n, fun | n => n⟩
theorem Tryz.laysSlF06_f71 : Go.Proofs.SlLaysF0.n6 prog Tryz.laysSlF06_f71_ren := {
  mixed := by kernel_rfl
  f6 := ⟨f71.name, by decide, func71.trans (congrArg some (by kernel_rfl))⟩
  f14 := ⟨f101.name, by decide, func101.trans (congrArg some (by kernel_rfl))⟩
  f15 := func57.trans (congrArg some (by kernel_rfl))
  f20 := ⟨f120.name, by decide, func120.trans (congrArg some (by kernel_rfl))⟩
  f21 := ⟨f121.name, by decide, func121.trans (congrArg some (by kernel_rfl))⟩
  f22 := ⟨f122.name, by decide, func122.trans (congrArg some (by kernel_rfl))⟩
  f23 := ⟨f123.name, by decide, func123.trans (congrArg some (by kernel_rfl))⟩
  f24 := ⟨f124.name, by decide, func124.trans (congrArg some (by kernel_rfl))⟩
  f25 := ⟨f125.name, by decide, func125.trans (congrArg some (by kernel_rfl))⟩
  f26 := ⟨f126.name, by decide, func126.trans (congrArg some (by kernel_rfl))⟩
  f27 := ⟨f127.name, by decide, func127.trans (congrArg some (by kernel_rfl))⟩
  f28 := func87.trans (congrArg some (by kernel_rfl))
  f29 := func88.trans (congrArg some (by kernel_rfl))
  f46 := ⟨f132.name, by decide, func132.trans (congrArg some (by kernel_rfl))⟩
  f47 := func105.trans (congrArg some (by kernel_rfl))
  f48 := func106.trans (congrArg some (by kernel_rfl))
  f49 := ⟨f133.name, by decide, func133.trans (congrArg some (by kernel_rfl))⟩
  f50 := ⟨f134.name, by decide, func134.trans (congrArg some (by kernel_rfl))⟩
  f57 := ⟨f138.name, by decide, func138.trans (congrArg some (by kernel_rfl))⟩
  t0 := underlying0
  a0 := isAgg0
  z0 := sizeOf0
  v0 := zeroValue0
  t3 := underlying3
  a3 := isAgg3
  z3 := sizeOf3
  v3 := zeroValue3
  t4 := underlying4
  a4 := isAgg4
  z4 := sizeOf4
  v4 := zeroValue4
  t5 := underlying5
  a5 := isAgg5
  z5 := sizeOf5
  v5 := zeroValue5
  t9 := underlying9
  a9 := isAgg9
  z9 := sizeOf9
  v9 := zeroValue9
  t22 := underlying27
  a22 := isAgg27
  z22 := sizeOf27
  v22 := zeroValue27
  t25 := underlying121
  a25 := isAgg121
  z25 := sizeOf121
  v25 := zeroValue121
  t39 := underlying106
  a39 := isAgg106
  z39 := sizeOf106
  v39 := zeroValue106
  t45 := underlying127
  a45 := isAgg127
  z45 := sizeOf127
  v45 := zeroValue127
  t46 := underlying128
  a46 := isAgg128
  z46 := sizeOf128
  v46 := zeroValue128
  t50 := underlying37
  a50 := isAgg37
  z50 := sizeOf37
  v50 := zeroValue37
  t53 := underlying134
  a53 := isAgg134
  z53 := sizeOf134
  v53 := zeroValue134
  t55 := underlying136
  a55 := isAgg136
  z55 := sizeOf136
  v55 := zeroValue136
  t66 := underlying149
  a66 := isAgg149
  z66 := sizeOf149
  v66 := zeroValue149
  t70 := underlying153
  a70 := isAgg153
  z70 := sizeOf153
  v70 := zeroValue153
  t76 := underlying168
  a76 := isAgg168
  z76 := sizeOf168
  v76 := zeroValue168
  t77 := underlying169
  a77 := isAgg169
  z77 := sizeOf169
  v77 := zeroValue169 }
end Go.Proofs

namespace Go.Proofs.YtodheebhahdepaaGreat
open Go.Proofs.Tryz
open Go.Eng Go.RowKit Go.Lin Go.Sort Go.Srt
def X5 (l : List Int) (r : Int) : Prop := (∃ (i : Nat) (hi : i < l.length), r = l[i] ∧ l[i] ≠ 0 ∧ ∀ j (hj : j < l.length), j < i → l[j] = 0) ∨ (r = 0 ∧ ∀ j (hj : j < l.length), l[j] = 0)
def XR (a b c : Int) : Int := if a ≠ 0 then a else if b ≠ 0 then b else c
theorem Wh {a b c r : Int} (h : X5 [a, b, c] r) : r = XR a b c := by
 unfold XR
 rcases h with ⟨i, hi, rfl, h1, h2⟩ | ⟨rfl, h⟩
 ·have hi : i < 3 := hi
  rcases (by omega : i = 0 ∨ i = 1 ∨ i = 2) with rfl | rfl | rfl
  ·have h1 : a ≠ 0 := h1
   show a = _
   rw [if_pos h1]
  ·have h1 : b ≠ 0 := h1
   have h3 : a = 0 := h2 0 (by simp) (by decide)
   show b = _
   rw [if_neg (fun q => q h3), if_pos h1]
  ·have h3 : a = 0 := h2 0 (by simp) (by decide)
   have h4 : b = 0 := h2 1 (by simp) (by decide)
   show c = _
   rw [if_neg (fun q => q h3), if_neg (fun q => q h4)]
 ·have h3 : a = 0 := h 0 (by simp)
  have h4 : b = 0 := h 1 (by simp)
  have h5 : c = 0 := h 2 (by simp)
  rw [if_neg (fun q => q h3), if_neg (fun q => q h4), h5]
structure CeI where
 c : Cl
 v : Value
 one : v.oneCell' = true
 i : Bq c.id
instance : Inhabited CeI := ⟨⟨default, .slice none 0 0, rfl, by decide⟩⟩
def CeI.ce (a : CeI) : Ce := ⟨a.c, a.v⟩
def PG (a : CeI) : List Value := [.int .i64 a.c.id, .int .i64 a.c.dim, a.v]
theorem DV : ∀ a, (PG a).length = 3 := fun _ => rfl
theorem VM (s : CeI) : ∀ c ∈ PG s, c.oneCell' = true := fun c hc => by
 simp only [PG, List.mem_cons, List.not_mem_nil, or_false] at hc
 rcases hc with rfl | rfl | rfl
 ·rfl
 ·rfl
 ·exact s.one
theorem SP (l : List CeI) : (l.map CeI.ce).flatMap cC = l.flatMap PG := by rw [List.flatMap_map]; rfl
theorem Uy : ∀ A : List Ce, (∀ a ∈ A, a.v.oneCell' = true ∧ Bq a.c.id) → ∃ l : List CeI, l.map CeI.ce = A
 | [], _ => ⟨[], rfl⟩
 | a :: A, h => by
  obtain ⟨l, hl⟩ := Uy A fun b hb => h b (List.Mem.tail _ hb)
  exact ⟨⟨a.c, a.v, (h a (List.Mem.head _)).1, (h a (List.Mem.head _)).2⟩ :: l, by rw [List.map_cons, hl]; rfl⟩
theorem own_ceI {m : Hp} {v : Value} {l : List CeI} : OwnL cC 3 59 m v (l.map CeI.ce) ↔ OwnL PG 3 59 m v l := by
 constructor
 ·intro O
  have h := O.own
  rw [SP, List.length_map] at h
  exact ⟨h, DV⟩
 ·intro O
  refine ⟨?_, fun _ => rfl⟩
  rw [SP, List.length_map]
  exact O.own
def NT (f : Int → Int) (x y : CeI) : Int := XR (c3 (f x.c.id) (f y.c.id)) (c3 x.c.dim y.c.dim) (c3 x.c.id y.c.id)
theorem Jl (f : Int → Int) (x y : CeI) : NT f x y < 0 ↔ f x.c.id < f y.c.id ∨ (f x.c.id = f y.c.id ∧ (x.c.dim < y.c.dim ∨ (x.c.dim = y.c.dim ∧ x.c.id < y.c.id))) := by
 unfold NT XR c3
 repeat' split
 all_goals omega
theorem Tl (f : Int → Int) : SWO (ltOf (NT f)) := by
 refine ⟨fun x => ?_, fun x y z h1 h2 => ?_, fun x y z h1 h2 => ?_⟩
 ·unfold ltOf; rw [decide_eq_false_iff_not, Jl]; omega
 ·unfold ltOf at *; rw [decide_eq_true_iff, Jl] at *; omega
 ·unfold ltOf at *; rw [decide_eq_false_iff_not, Jl] at *; omega
theorem Xm (v : Value) (l : List Int) (h : Hp) (hR : RdL cI 1 h [] v l) (hn : l.length ≤ 1000000) : FnT Tryz.prog 73 #[v] h [] (fun r _ _ => ∃ x, r = .int .i64 x ∧ X5 l x) := by
 have o1 := hR.rd.one
 refine Av func73 ntmps73 rfl rfl (fun w0 hw0 => ?_)
 simp only [A5]
 refine Az (Qm rfl (BG (Qm rfl (An (Ac (Az (Qm rfl (Qx (AC hR.rd.any rfl underlying25 rfl) rfl (Qm rfl (An (Ah ?_)))))))))))
 refine AD (fun q s h' ms' => ∃ (k : Nat), q = l.length - k ∧ s = [(3, .int .i64 0), (6, v), (7, .int .i64 l.length), (8, .int .i64 k)] ∧ h = h' ∧ ms' = [] ∧ k ≤ l.length ∧ ∀ j (hj : j < l.length), j < k → l[j] = 0)
  (l.length - 0) _ ⟨0, rfl, rfl, rfl, rfl, by omega, fun j _ hj => by omega⟩ Qs ?_
 rintro q s h' ms' ⟨k, rfl, rfl, rfl, rfl, hk, hno⟩
 refine Az (Qm rfl (An (Ac ?_)))
 refine Ax rfl (fun hlt => ?_) (fun hlt => ?_)
 ·have hkn : k < l.length := by omega
  have ck : ∀ ms, Cell h ms ((AI v).add (k * 1)) (.int .i64 l[k]) := fun ms => (hR.any (ms := ms)).cell0 hkn rfl
  refine Ai (Ad (Ac (Ah (Az (Qx (Af (k) hR.rd.any rfl underlying25 Bm rfl rfl (by omega) (by omega)) rfl (Ql rfl underlying3 (ck _) (Qm rfl (BG (Qm rfl (Qm rfl (Qm rfl (An ?_))))))))))))
  refine Ax rfl (fun hz => ?_) (fun hz => ?_)
  ·refine Ac (Ab (Qm rfl (Qm rfl (An (Aq (Al (Ae (Ae (Al (Ae ?_))))))))))
   exact As rfl rfl (⟨_, rfl, .inl ⟨k, hkn, rfl, hz, hno⟩⟩)
  ·refine Ai (Aj (Ad (Ab (Qx (oA rfl) rfl (Qm rfl (Ak ?_))))))
   refine Am (l.length - (k + 1)) _ (by omega) ⟨k + 1, rfl, rfl, rfl, rfl, by omega, fun j hj hjk => ?_⟩ Qs
   rcases (by omega : j < k ∨ j = k) with h2 | rfl
   ·exact hno j hj h2
   ·exact Classical.not_not.1 hz
 ·obtain rfl : k = l.length := by omega
  refine Aw (Aa (Aa (Ag (Ad (Az (Qm rfl (Qm rfl (An (Aq ?_)))))))))
  exact As rfl rfl (⟨_, rfl, .inr ⟨rfl, fun j hj => hno j hj hj⟩⟩)
theorem Yx (g : Nat) (a b c : Int) (h : Hp) (ms : List Hp) (hm : Bf g 3 [.int .i64 a, .int .i64 b, .int .i64 c] ∈ ms) : FnV Tryz.prog 73 #[.slice (some ⟨g, 0, none⟩) 3 3] h ms (.int .i64 (XR a b c)) :=
 IK fun h' _ hl => IV ((Xm _ [a, b, c] h' ((OwnL.blk (g := g) (el := 3) (F := cI) (l := [a, b, c]) 3 AT rfl (by decide)).rdh (h := h') (ms := []) (hl _ hm)) (by simp)).mono fun r _ _ ⟨x, e, hx⟩ => by rw [e, Wh hx]) []
theorem XO (T : List (Int × Int)) (gA gm g : Nat) (mA : Hp) (bs : List Nat) (x y : CeI) (h : Hp) (e10 : ∀ ms, Cell h ms (⟨g, 0, none⟩ : Addr) (.pointer (some ⟨gm, 0, none⟩))) (e2 : ∀ ms, Cell h ms (⟨gm, 2, none⟩ : Addr) (.map (some gA))) (O : BK kN kN gA Bq mA T bs) (lA : mA.le h) (ms : List Hp) :
  FnV Tryz.prog 72 #[.agg (PG x).toArray, .agg (PG y).toArray, .pointer (some ⟨g, 0, none⟩)] h ms (.int .i64 (NT (fun c => (AZ T c).getD 0) x y)) := by
 refine IV ?_ ms
 have o1 := x.one
 have o2 := y.one
 show FnT _ _ #[.agg #[.int .i64 x.c.id, .int .i64 x.c.dim, x.v], .agg #[.int .i64 y.c.id, .int .i64 y.c.dim, y.v], .pointer (some ⟨g, 0, none⟩)] _ _ _
 refine Av func72 ntmps72 rfl rfl (fun w0 hw0 => ?_)
 simp only [A5]
 refine Az ?_
 refine A8 [_, _, _] rfl rfl (by rfl) rfl rfl rfl (fun g3 => ?_)
 refine A8 [_, _, _] rfl rfl (by rfl) rfl rfl rfl (fun g4 => ?_)
 refine Qm rfl (An (AA fun h1 l1 hG4 => (AA fun h2 l2 hG3 => ?_)))
 have hG4 := hG4.le l2
 have l12 := Hp.le_trans l1 l2
 have e10 : ∀ ms, Cell h2 ms (⟨g, 0, none⟩ : Addr) (.pointer (some ⟨gm, 0, none⟩)) := fun ms => (e10 ms).le l12
 have e2 : ∀ ms, Cell h2 ms (⟨gm, 2, none⟩ : Addr) (.map (some gA)) := fun ms => (e2 ms).le l12
 have e30 : ∀ ms, Cell h2 ms (⟨g3, 0, none⟩ : Addr) (.int .i64 x.c.id) := fun ms => Seg.all hG3 0 _ rfl ms
 have e31 : ∀ ms, Cell h2 ms (⟨g3, 1, none⟩ : Addr) (.int .i64 x.c.dim) := fun ms => Seg.all hG3 1 _ rfl ms
 have e40 : ∀ ms, Cell h2 ms (⟨g4, 0, none⟩ : Addr) (.int .i64 y.c.id) := fun ms => Seg.all hG4 0 _ rfl ms
 have e41 : ∀ ms, Cell h2 ms (⟨g4, 1, none⟩ : Addr) (.int .i64 y.c.dim) := fun ms => Seg.all hG4 1 _ rfl ms
 refine Ac (Bb 24 CN (by kernel_rfl) rfl (Wl rfl underlying62 (e10 _) (Wm rfl (Wf Jp rfl (Wl rfl underlying66 (e2 _) (Wf Bo rfl (Wl rfl underlying3 (e30 _) (AM (CA (V := kN) (z := (0 : Int)) (u := (AZ T x.c.id).getD 0) x.c.id rfl Ba O (Hp.le_trans lA l12) rfl underlying66 GP rfl rfl x.i) rfl rfl (Wl rfl underlying62 (e10 _) (Wm rfl (Wf Jp rfl (Wl rfl underlying66 (e2 _) (Wf Bo rfl (Wl rfl underlying3 (e40 _) (AM (CA (V := kN) (z := (0 : Int)) (u := (AZ T y.c.id).getD 0) y.c.id rfl Ba O (Hp.le_trans lA l12) rfl underlying66 GP rfl rfl y.i) rfl rfl (AM (AG rfl call74 rfl (Fq _ _ _ _)) rfl rfl (Wf BC rfl (Wl rfl underlying3 (e31 _) (Wf BC rfl (Wl rfl underlying3 (e41 _) (AM (AG rfl call74 rfl (Fq _ _ _ _)) rfl rfl (Wf Bo rfl (Wl rfl underlying3 (e30 _) (Wf Bo rfl (Wl rfl underlying3 (e40 _) (AU (Qx (AG rfl call74 rfl (Fq _ _ _ _)) rfl (AE [(0, _), (1, _), (2, _)] [.int .i64 0, .int .i64 0, .int .i64 0] [_, _, _] rfl underlying25 Bm rfl (by omega) (by kernel_rfl) Qt rfl rfl rfl rfl (fun g31 => ?_)))))))))))))))))))))))))))))
 refine Qx (AG rfl call73 rfl (Yx _ _ _ _ _ _ (by repeat (first | exact List.Mem.head _ | refine List.Mem.tail _ ?_)))) rfl ?_
 refine Qm rfl (An (Aq ?_))
 exact As rfl rfl (rfl)
def D5 (T : List (Int × Int)) (c : Int) : Int := (AZ T c).getD 0
theorem RR (T : List (Int × Int)) (gA gm g0 : Nat) (mA : Hp) (bs : List Nat) (l : List CeI) (v : Value) (m h : Hp) (e10 : ∀ ms, Cell h ms (⟨g0, 0, none⟩ : Addr) (.pointer (some ⟨gm, 0, none⟩))) (e2 : ∀ ms, Cell h ms (⟨gm, 2, none⟩ : Addr) (.map (some gA))) (OA : BK kN kN gA Bq mA T bs) (lA : mA.le h) (O : OwnL PG 3 59 m v l) (hl : l.length ≤ 1000000) :
  FnT Tryz.prog 71 #[v, .func (.func 72) #[] #[.pointer (some ⟨g0, 0, none⟩)]] h [m] (fun _ h' ms' => h = h' ∧ ∃ (l' : List CeI) (m' : Hp), ms' = [m'] ∧ OwnL PG 3 59 m' v l' ∧ l'.Perm l ∧ l'.Pairwise fun a b => ¬ NT (D5 T) b a < 0) := by
 intro w hw
 obtain ⟨⟨h1, h2⟩, hF⟩ := O
 rcases h2 with ⟨rfl, h4, rfl⟩ | ⟨g, cap, spare, rfl, rfl, e1, e2', e3⟩
 ·obtain rfl : l = [] := List.length_eq_zero_iff.1 h4
  refine (AnyF.slices_SortFunc_none Tryz.laysSlF06_f71 none 0 (.func (.func 72) #[] #[.pointer (some ⟨g0, 0, none⟩)]) w).mono fun x w' ⟨e, ew⟩ => ?_
  subst ew
  exact ⟨_, h, [Hp.emp], e, Ends.refl hw, rfl, [], Hp.emp, rfl, OwnL.nil DV, List.Perm.refl _, List.Pairwise.nil⟩
 ·have hg : w.heap[g]? = some (.cells (l.toArray.toList.flatMap PG ++ spare).toArray 59 (0, 0)) := hw.own _ (List.mem_singleton.2 rfl) g _ (Hp.one_self _ _)
  have hlt := (Array.getElem?_eq_some_iff.1 hg).1
  have hlays : CmpLays Tryz.prog 72 #[.pointer (some ⟨g0, 0, none⟩)] PG 3 (NT (D5 T)) g 0 l.toArray.size w := fun mm os dk hs x y => by
   have hE := K4 (enc := PG) (n := mm) (el := 59) DV (by omega) l.toArray dk hs spare os hw
   exact (XO T gA gm g0 mA bs x y h e10 e2 OA lA [] _ (hE.st.weaken (Hp.le_refl _) (List.nil_sublist _))).mono fun _ _ ⟨e, h⟩ => ⟨e, h.grown⟩
  refine (AnyQ.slices_SortFunc Tryz.laysSlF06_f71 3 Tryz.isAgg59 Tryz.sizeOf59 PG DV VM (NT (D5 T)) (Tl _) 72 #[.pointer (some ⟨g0, 0, none⟩)] g 0 cap l.toArray w call72 hlays (RL DV (by omega) l.toArray spare hg) hlt (by simp; omega)).mono fun x w' ⟨e, d', n, os, P, S, ew⟩ => ?_
  subst ew
  have hsz : d'.size = l.length := by have := P.1; simpa using this
  have hE := K4 (enc := PG) (n := n) (el := 59) DV (by omega) l.toArray d' (by simpa using hsz) spare os hw
  refine ⟨_, h, _, e, hE, rfl, d'.toList, _, rfl, ⟨⟨?_, .inr ⟨g, cap, spare, ?_, rfl, ?_, ?_, e3⟩⟩, DV⟩, ?_, ?_⟩
  ·exact Be DV _
  ·have : d'.toList.length = l.length := by rw [Array.length_toList, hsz]
   rw [this]
  ·rw [List.length_append, Be DV, Array.length_toList, hsz, ← Be DV l, ← List.length_append]; exact e1
  ·rw [Array.length_toList, hsz]; exact e2'
  ·have h := P.2.2
   have q1 : d'.extract 0 l.toArray.size = d' := by rw [← P.1]; simp
   have q2 : l.toArray.extract 0 l.toArray.size = l.toArray := by simp
   rw [q1, q2] at h
   exact h
  ·rw [List.pairwise_iff_getElem]
   intro i j hi hj hij
   have hi' : i < d'.size := by simpa using hi
   have hj' : j < d'.size := by simpa using hj
   have h := S i j (by omega) hij (by simp; omega)
   have q1 : d'[i]! = d'[i] := by simp [hi']
   have q2 : d'[j]! = d'[j] := by simp [hj']
   rw [q1, q2] at h
   exact of_decide_eq_false h
end Go.Proofs.YtodheebhahdepaaGreat
namespace Go.Proofs.YtodheebhahdepaaGreat
open Go.Eng Go.RowKit Go.Lin Go.Sort Go.Srt
variable {p : Int} {S : List Ce} {i j : Nat}
def ColsO : Hp → List Value → List (List Int) → Prop
 | m, [], [] => m = Hp.emp
 | m, v :: vs, c :: cs => ∃ a b, m = a.join b ∧ a.disj b ∧ OwnL cI 1 3 a v c ∧ ColsO b vs cs
 | _, _, _ => False
theorem ColsO.len : ∀ {vs : List Value} {cs : List (List Int)} {m : Hp}, ColsO m vs cs → vs.length = cs.length
 | [], [], _, _ => rfl
 | _ :: _, _ :: _, _, ⟨_, _, _, _, _, h⟩ => by simp [h.len]
 | [], _ :: _, _, h => h.elim
 | _ :: _, [], _, h => h.elim
theorem ColsO.snoc {v : Value} {c : List Int} {b : Hp} (O : OwnL cI 1 3 b v c) : ∀ {vs : List Value} {cs : List (List Int)} {m : Hp}, ColsO m vs cs → m.disj b → ColsO (m.join b) (vs ++ [v]) (cs ++ [c])
 | [], [], m, h, hd => by
  have h : m = Hp.emp := h
  subst h
  exact ⟨b, Hp.emp, by rw [Hp.join_emp, Hp.emp_join], fun g => .inr rfl, O, rfl⟩
 | _ :: _, _ :: _, m, ⟨a, b', e, hd', O', h⟩, hd => by
  subst e
  refine ⟨a, b'.join b, Hp.join_assoc _ _ _, ?_, O', h.snoc O (Hp.disj_right hd)⟩
  exact Hp.disj_symm (Hp.disj_join (Hp.disj_symm hd') (Hp.disj_symm (Hp.disj_left hd)))
 | [], _ :: _, _, h, _ => h.elim
 | _ :: _, [], _, h, _ => h.elim
def Dz (S : List Ce) : Nat → List (Int × Int)
 | 0 => []
 | j + 1 => Cr (Dz S j) (S.getD j default).c.id (j : Int)
theorem Hr (S : List Ce) (c : Int) : ∀ j, 0 ≤ (AZ (Dz S j) c).getD 0 ∧ (0 < j → (AZ (Dz S j) c).getD 0 < j)
 | 0 => by simp [Dz, AZ]
 | j + 1 => by
  have ih := Hr S c j
  unfold Dz
  rw [CF]
  split
  ·simp only [Option.getD_some]; omega
  ·refine ⟨ih.1, fun _ => ?_⟩
   rcases Nat.eq_zero_or_pos j with rfl | h
   ·simp [Dz, AZ]
   ·have := ih.2 h; omega
theorem Jv (hn : (S.map fun a => a.c.id).Nodup) (hi : i < S.length) : ∀ j, i < j → j ≤ S.length → AZ (Dz S j) S[i].c.id = some (i : Int)
 | 0, h, _ => by omega
 | j + 1, h, hj => by
  unfold Dz
  rw [CF]
  have ej : S.getD j default = S[j] := by simp [List.getD, show j < S.length from by omega]
  rw [ej]
  split
  ·rename_i e
   have h1 : i = j := by
    have h2 := List.pairwise_iff_getElem.1 hn
    refine Classical.byContradiction fun hne => ?_
    have h3 := h2 i j (by simpa using hi) (by simp; omega) (by omega)
    simp only [List.getElem_map] at h3
    exact h3 e
   rw [h1]
  ·rename_i e
   rcases (by omega : i < j ∨ i = j) with h1 | rfl
   ·exact Jv hn hi j h1 (by omega)
   ·exact absurd rfl e
def pl (S : List Ce) (j : Nat) (c : Int) : Nat := ((AZ (Dz S j) c).getD 0).toNat
theorem QD (S : List Ce) (j : Nat) (c : Int) : ((pl S j c : Nat) : Int) = (AZ (Dz S j) c).getD 0 := Int.toNat_of_nonneg (Hr S c j).1
theorem XG (S : List Ce) (hj : 0 < j) (c : Int) : pl S j c < j := by
 have h1 := (Hr S c j).2 hj
 have h2 := QD S j c
 omega
theorem Wg (hn : (S.map fun a => a.c.id).Nodup) (hij : i < j) (hj : j ≤ S.length) : pl S j (S.getD i default).c.id = i := by
 have hi : i < S.length := by omega
 unfold pl
 rw [show S.getD i default = S[i] by simp [List.getD, hi], Jv hn hi j hij hj]
 rfl
def Ey (p : Int) (S : List Ce) (j k : Nat) : List Int := ((S.getD j default).c.sd.take k).foldl (fun c s => c.set (pl S (j + 1) s.1) ((s.2 + p) % p)) (List.replicate S.length 0)
def Jc (p : Int) (S : List Ce) (j : Nat) : List Int := Ey p S j (S.getD j default).c.sd.length
def Es (n j : Nat) : List Int := (List.replicate n 0).set j 1
theorem KV {k : Nat} (hk : k < (S.getD j default).c.sd.length) : Ey p S j (k + 1) = (Ey p S j k).set (pl S (j + 1) ((S.getD j default).c.sd[k]).1) (((S.getD j default).c.sd[k].2 + p) % p) := by
 unfold Ey
 rw [List.take_succ_eq_append_getElem hk, List.foldl_append]
 rfl
theorem Fh (p : Int) (S : List Ce) (j k : Nat) : (Ey p S j k).length = S.length := by
 unfold Ey
 have : ∀ (l : List (Int × Int)) (c : List Int), (l.foldl (fun c s => c.set (pl S (j + 1) s.1) ((s.2 + p) % p)) c).length = c.length := fun l => by
  induction l with
  | nil => intro c; rfl
  | cons a l ih => intro c; rw [List.foldl_cons, ih, List.length_set]
 rw [this, List.length_replicate]
theorem P8 {x : Int} {l : List Int} (h : Jz p l) (hx : 0 ≤ x ∧ x < p) : Jz p (l.set i x) := fun y hy => by
 rcases List.mem_or_eq_of_mem_set hy with h1 | rfl
 ·exact h y h1
 ·exact hx
theorem PA (hp : 0 < p) (n : Nat) : Jz p (List.replicate n 0) := fun y hy => by
 rw [(List.mem_replicate.1 hy).2]; omega
theorem MN (hp : 0 < p) (S : List Ce) (j k : Nat) : Jz p (Ey p S j k) := by
 unfold Ey
 have : ∀ (l : List (Int × Int)) (c : List Int), Jz p c → Jz p (l.foldl (fun c s => c.set (pl S (j + 1) s.1) ((s.2 + p) % p)) c) := fun l => by
  induction l with
  | nil => intro c h; exact h
  | cons a l ih => intro c h; exact ih _ (P8 h ⟨Int.emod_nonneg _ (by omega), Int.emod_lt_of_pos _ hp⟩)
 exact this _ _ (PA hp _)
theorem Lb (n j : Nat) : (Es n j).length = n := by unfold Es; simp
theorem Ro (hp : 2 ≤ p) (n j : Nat) : Jz p (Es n j) := P8 (PA (by omega) n) (by omega)
theorem FQ {α : Type} (f : Nat → α) (j : Nat) : (List.range (j + 1)).map f = (List.range j).map f ++ [f j] := by rw [List.range_succ, List.map_append]; rfl
end Go.Proofs.YtodheebhahdepaaGreat
