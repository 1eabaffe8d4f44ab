/- Parts of the proof: Va Xx Xy Vb Eng15 Vz. -/
import Derived.Test.YtdnelknieikbaaaGreatTJ
import Derived.Deep.Slices
import Derived.OpenShut
import Derived.Test.YtdnelknieikbaaaGreatRows
import Derived.Test.YtdnelknieikbaaaGreatChecked
import Derived.WalkKit
import Derived.ProofKit
import Derived.ChangeOld
set_option linter.unusedSimpArgs false
set_option linter.unusedVariables false
set_option maxRecDepth 100000
set_option maxHeartbeats 2000000
namespace Go.Proofs.YtdnelknieikbaaaGreat
open Go.Proofs.Tryz
open Go.Eng Go.RowKit Go.Lin Go.Sort Go.Srt
def SV.key (s : SV) : Int × Int := (s.e.fr, s.e.to)
def cntK (l : List SV) (a : Int × Int) : Nat := (l.map SV.key).count a
def cellK (c : Int × Int → Nat) (i j : Nat) : List (Int × Int) := if 0 < c (i, j) then [((i : Int), (j : Int))] else []
def rowK (c : Int × Int → Nat) (i n : Nat) : List (Int × Int) := (List.range n).flatMap fun t => cellK c i (i + t)
def allK (c : Int × Int → Nat) (n : Nat) : List (Int × Int) := (List.range n).flatMap fun i => rowK c i (100 - i)
def ivs (c : Int × Int → Nat) (ks : List (Int × Int)) : List Iv := ks.map fun a => ⟨a.1, a.2, (c a : Nat)⟩
theorem cellK_len (c : Int × Int → Nat) (i j : Nat) : (cellK c i j).length ≤ 1 := by unfold cellK; split <;> simp
theorem rowK_succ (c : Int × Int → Nat) (i n : Nat) : rowK c i (n + 1) = rowK c i n ++ cellK c i (i + n) := by unfold rowK; rw [List.range_succ, List.flatMap_append]; simp
theorem allK_succ (c : Int × Int → Nat) (n : Nat) : allK c (n + 1) = allK c n ++ rowK c n (100 - n) := by unfold allK; rw [List.range_succ, List.flatMap_append]; simp
theorem rowK_len (c : Int × Int → Nat) (i n : Nat) : (rowK c i n).length ≤ n := by
 induction n with
 | zero => simp [rowK]
 | succ n ih => rw [rowK_succ, List.length_append]; have := cellK_len c i (i + n); omega
theorem allK_len (c : Int × Int → Nat) (n : Nat) : (allK c n).length ≤ 100 * n := by
 induction n with
 | zero => simp [allK]
 | succ n ih => rw [allK_succ, List.length_append]; have := rowK_len c n (100 - n); omega
theorem mem_cellK {c : Int × Int → Nat} {i j : Nat} {a : Int × Int} : a ∈ cellK c i j ↔ a = ((i : Int), (j : Int)) ∧ 0 < c a := by
 unfold cellK
 split
 ·rename_i h
  rw [List.mem_singleton]
  exact ⟨fun e => ⟨e, e ▸ h⟩, fun e => e.1⟩
 ·rename_i h
  exact ⟨fun e => absurd e (by simp), fun e => absurd (e.1 ▸ e.2) h⟩
theorem rowK_sorted (c : Int × Int → Nat) (i n : Nat) : (rowK c i n).Pairwise fun a b => cmp2 a b < 0 := by
 induction n with
 | zero => simp [rowK]
 | succ n ih =>
  rw [rowK_succ]
  refine List.pairwise_append.2 ⟨ih, ?_, fun a ha b hb => ?_⟩
  ·unfold cellK; split <;> simp
  ·obtain ⟨rfl, _⟩ := mem_cellK.1 hb
   obtain ⟨t, ht, h⟩ := List.mem_flatMap.1 ha
   obtain ⟨rfl, _⟩ := mem_cellK.1 h
   have := List.mem_range.1 ht
   rw [cmp2_lt]
   show ((i : Int) < i) ∨ ((i : Int) = i ∧ ((i + t : Nat) : Int) < ((i + n : Nat) : Int))
   omega
theorem allK_sorted (c : Int × Int → Nat) (n : Nat) : (allK c n).Pairwise fun a b => cmp2 a b < 0 := by
 induction n with
 | zero => simp [allK]
 | succ n ih =>
  rw [allK_succ]
  refine List.pairwise_append.2 ⟨ih, rowK_sorted c n _, fun a ha b hb => ?_⟩
  obtain ⟨i, hi, h⟩ := List.mem_flatMap.1 ha
  obtain ⟨t, ht, h⟩ := List.mem_flatMap.1 h
  obtain ⟨rfl, _⟩ := mem_cellK.1 h
  obtain ⟨u, hu, h⟩ := List.mem_flatMap.1 hb
  obtain ⟨rfl, _⟩ := mem_cellK.1 h
  have := List.mem_range.1 hi
  rw [cmp2_lt]
  show ((i : Int) < n) ∨ _
  left; omega
theorem allK_bars (c : Int × Int → Nat) (h : ∀ a, 0 < c a → 0 ≤ a.1 ∧ a.1 ≤ a.2 ∧ a.2 < 100) : BarsOf c (ivs c (allK c 100)) := by
 refine ⟨allK c 100, rfl, allK_sorted c 100, fun a => ?_⟩
 constructor
 ·intro ha
  obtain ⟨i, hi, h1⟩ := List.mem_flatMap.1 ha
  obtain ⟨t, ht, h1⟩ := List.mem_flatMap.1 h1
  exact (mem_cellK.1 h1).2
 ·intro ha
  obtain ⟨h1, h2, h3⟩ := h a ha
  obtain ⟨x, y⟩ := a
  simp only at h1 h2 h3
  refine List.mem_flatMap.2 ⟨x.toNat, List.mem_range.2 (by omega), List.mem_flatMap.2 ⟨(y - x).toNat, List.mem_range.2 (by omega), mem_cellK.2 ⟨?_, ha⟩⟩⟩
  rw [Prod.mk.injEq]; omega
theorem cntK_ct {Z : Zz} {l : List SV} (hS : ∀ s ∈ l, s.Shp Z) (a : Int × Int) : cntK l a = (dcL l).ct a := by
 have e : l.map SV.key = (List.range l.length).map fun t => (((dcL l).fr t : Int), ((dcL l).to t : Int)) := by
  refine List.ext_getElem (by simp) fun t h1 h2 => ?_
  have ht : t < l.length := by simpa using h1
  have hsh := hS _ (List.getElem_mem ht)
  have q1 := hsh.1
  have q2 := hsh.2.1
  rw [List.getElem_map, List.getElem_map, List.getElem_range]
  show (l[t].e.fr, l[t].e.to) = ((((l.getD t default).e.fr.toNat : Nat) : Int), (((l.getD t default).e.to.toNat : Nat) : Int))
  rw [sv_getD ht, Prod.mk.injEq]
  omega
 unfold cntK
 rw [e]
 exact ct_count (D := dcL l) (L := List.range l.length) (List.Perm.refl _) (fun _ _ => rfl) a
theorem cntK_bd {Z : Zz} (hRt : Z.Rt) {l : List SV} (hS : ∀ s ∈ l, s.Shp Z) (a : Int × Int) (h : 0 < cntK l a) : 0 ≤ a.1 ∧ a.1 ≤ a.2 ∧ a.2 < 100 := by
 obtain ⟨s, hs, rfl⟩ := List.mem_map.1 (List.count_pos_iff.1 h)
 have q := hS s hs
 have n1 := hRt.2.1
 exact ⟨q.1, q.2.1, by have := q.2.2.1; show s.e.to < 100; omega⟩
theorem cntK_take {l : List SV} {k : Nat} (hk : k < l.length) (a : Int × Int) : cntK (l.take (k + 1)) a = cntK (l.take k) a + if l[k].key = a then 1 else 0 := by
 unfold cntK
 rw [List.take_succ_eq_append_getElem hk, List.map_append, List.count_append]
 simp [List.count_cons]
theorem ivs_app (c : Int × Int → Nat) (a b : List (Int × Int)) : ivs c (a ++ b) = ivs c a ++ ivs c b := List.map_append
theorem counted_ok (l : List SV) (vl : Value) (h : Hp) (hL : RdSs h vl l) (hN : l.length ≤ 1000000) : FnT Tryz.prog 33 #[vl] h [] (fun r h' ms' => h = h' ∧ ∃ m, ms' = [m] ∧ OwnL cIv 3 37 m r (ivs (cntK l) (allK (cntK l) 100))) := by
 refine fn_enter func33 ntmps33 rfl rfl (fun w0 hw0 => ?_)
 simp only [argS]
 refine RsQ (Qm rfl (RtQ (Qm rfl (RnQ (ws_seq (RsQ (Qm rfl (RnQ (ws_block (ws_emp ?_))))))))))
 refine ws_loop (fun q sl hh ms' => ∃ (i : Nat) (vo : Value) (mo : Hp), q = 100 - i ∧ sl = [(0, vl), (3, vo), (4, .int .i64 i)] ∧ h = hh ∧ ms' = [mo] ∧ i ≤ 100 ∧ OwnL cIv 3 37 mo vo (ivs (cntK l) (allK (cntK l) i)))
  (100 - 0) _ ⟨0, _, _, rfl, rfl, rfl, rfl, by omega, OwnL.nil cIv_len⟩ Qs ?_
 rintro q sl hh ms' ⟨i, vo, mo, rfl, rfl, rfl, rfl, hi, hO⟩
 refine ws_seq (RsQ (Qm rfl (Qx (ox_lss rfl rfl rfl) rfl (RnQ ?_))))
 refine ws_if rfl (fun hlt => ?_) (fun hlt => ?_)
 ·have hil : i < 100 := by omega
  have hal := allK_len (cntK l) i
  refine ws_skip (nx_then ?_)
  refine ws_cut (fun sl hh ms' => ∃ (vo : Value) (mo : Hp), sl = [(0, vl), (3, vo), (4, .int .i64 i)] ∧ h = hh ∧ ms' = [mo] ∧ OwnL cIv 3 37 mo vo (ivs (cntK l) (allK (cntK l) (i + 1)))) ?_ (fun s h ms hI => ?_)
  ·refine ws_block (RsQ (Qm rfl (Qm rfl (RnQ (ws_block ?_)))))
   refine ws_loop (fun q sl hh ms' => ∃ (t : Nat) (vo : Value) (mo : Hp), q = 100 - i - t ∧ sl = [(0, vl), (3, vo), (4, .int .i64 i), (5, .int .i64 ((i + t : Nat) : Int))] ∧ h = hh ∧ ms' = [mo] ∧ t ≤ 100 - i ∧ OwnL cIv 3 37 mo vo (ivs (cntK l) (allK (cntK l) i ++ rowK (cntK l) i t)))
    (100 - i - 0) _ ⟨0, _, _, rfl, rfl, rfl, rfl, by omega, by rw [show rowK (cntK l) i 0 = [] by simp [rowK], List.append_nil]; exact hO⟩ Qs ?_
   rintro q sl hh ms' ⟨t, vo, mo, rfl, rfl, rfl, rfl, ht, hO⟩
   have hrl := rowK_len (cntK l) i t
   have hivl : (ivs (cntK l) (allK (cntK l) i ++ rowK (cntK l) i t)).length ≤ 20000 := by unfold ivs; rw [List.length_map, List.length_append]; omega
   refine ws_seq (RsQ (Qm rfl (Qx (ox_lss rfl rfl rfl) rfl (Qm rfl ?_))))
   refine wl_split (t := 15) rfl (fun hs1 => ?_) (fun hs1 => ?_)
   ·refine Qg (ox_move rfl rfl) rfl (Qg (ox_lenR hL.q.rd.any rfl underlying60 rfl) rfl (Qg (ox_gtr rfl rfl rfl) rfl (Qx (ox_pick_t rfl rfl rfl) rfl (RnQ ?_))))
    refine ws_if rfl (fun hs2 => ?_) (fun hs2 => ?_)
    ·have hjl : i + t < 100 := by omega
     refine ws_skip (nx_then ?_)
     refine ws_cut (fun sl hh ms' => ∃ (vo : Value) (mo : Hp), sl = [(0, vl), (3, vo), (4, .int .i64 i), (5, .int .i64 ((i + t : Nat) : Int))] ∧ h = hh ∧ ms' = [mo] ∧ OwnL cIv 3 37 mo vo (ivs (cntK l) (allK (cntK l) i ++ rowK (cntK l) i (t + 1)))) ?_ (fun s h ms hI => ?_)
     ·refine ws_block (RsQ (Qm rfl (RnQ (ws_seq (RsQ (Qm rfl (RnQ (ws_block ?_))))))))
      refine ws_loop (fun q sl hh ms' => ∃ (k : Nat), q = l.length - k ∧ sl = [(0, vl), (3, vo), (4, .int .i64 i), (5, .int .i64 ((i + t : Nat) : Int)), (6, .int .i64 (cntK (l.take k) (i, ((i + t : Nat) : Int)))), (7, .int .i64 k)] ∧ h = hh ∧ ms' = [mo] ∧ k ≤ l.length ∧ cntK (l.take k) (i, ((i + t : Nat) : Int)) ≤ k)
       (l.length - 0) _ ⟨0, rfl, rfl, rfl, rfl, by omega, by simp [cntK]⟩ Qs ?_
      rintro q sl hh ms' ⟨k, rfl, rfl, rfl, rfl, hk, hck⟩
      refine ws_seq (RsQ (Qm rfl (Qm rfl (Qx (ox_lenR hL.q.rd.any rfl underlying60 rfl) rfl (Qx (ox_lss rfl rfl rfl) rfl (RnQ ?_))))))
      refine ws_if rfl (fun hlt3 => ?_) (fun hlt3 => ?_)
      ·have hkl : k < l.length := nat_lt_of hlt3
       have hstep := cntK_take hkl (i, ((i + t : Nat) : Int))
       refine ws_skip (nx_then (ws_seq (ws_block (RsQ (Qm rfl (Qm rfl (Qx (ox_indexR (k) hL.q.rd.any rfl underlying60 el64 rfl rfl (by omega) (by omega)) rfl (Qx (ox_fieldF fd64_0 rfl rfl) rfl (Qx (ox_load rfl underlying3 rfl rfl (hL.q.any.cell hkl (f := 0) rfl)) rfl (Qm rfl (Qx (ox_eqi rfl rfl rfl) rfl (Qm rfl ?_))))))))))))
       refine wl_split (t := 35) rfl (fun hq1 => ?_) (fun hq1 => ?_)
       ·refine Qg (ox_move rfl rfl) rfl (Qg (ox_move rfl rfl) rfl (Qg (ox_indexR (k) hL.q.rd.any rfl underlying60 el64 rfl rfl (by omega) (by omega)) rfl (Qg (ox_fieldF fd64_1 rfl rfl) rfl (Qg (ox_load rfl underlying3 rfl rfl (hL.q.any.cell hkl (f := 1) rfl)) rfl (Qg (ox_move rfl rfl) rfl (Qg (ox_eqi rfl rfl rfl) rfl (Qx (ox_pick_t rfl rfl rfl) rfl (RnQ ?_))))))))
        refine ws_if rfl (fun hq2 => ?_) (fun hq2 => ?_)
        ·rw [if_pos (Prod.ext hq1 hq2)] at hstep
         refine ws_region (Qm rfl (Qx (ox_add rfl rfl rfl (by omega)) rfl (Qm rfl (wl_nil (nx_block (nx_then (ws_region (Qm rfl (Qx (ox_add rfl rfl rfl (by omega)) rfl (Qm rfl (wl_nil ?_)))))))))))
         refine nx_round (l.length - (k + 1)) _ (by omega) ⟨k + 1, rfl, by rw [hstep], rfl, rfl, by omega, by omega⟩ Qs
        ·rw [if_neg (fun e => hq2 (congrArg Prod.snd e))] at hstep
         refine ws_skip (nx_block (nx_then (ws_region (Qm rfl (Qx (ox_add rfl rfl rfl (by omega)) rfl (Qm rfl (wl_nil ?_)))))))
         refine nx_round (l.length - (k + 1)) _ (by omega) ⟨k + 1, rfl, by rw [hstep], rfl, rfl, by omega, by omega⟩ Qs
       ·rw [if_neg (fun e => hq1 (congrArg Prod.fst e))] at hstep
        refine Qk rfl (Qk rfl (Qk rfl (Qk rfl (Qk rfl (Qk rfl (Qk rfl (Qx (ox_pick_f rfl rfl rfl) rfl (RnQ (ws_cond_f rfl (ws_skip (nx_block (nx_then (ws_region (Qm rfl (Qx (ox_add rfl rfl rfl (by omega)) rfl (Qm rfl (wl_nil ?_)))))))))))))))))
        refine nx_round (l.length - (k + 1)) _ (by omega) ⟨k + 1, rfl, by rw [hstep], rfl, rfl, by omega, by omega⟩ Qs
      ·obtain rfl : k = l.length := by omega
       rw [List.take_length] at hck
       rw [List.take_length]
       refine ws_exit (nx_then_exit (nx_then_exit (nx_block_exit (nx_then (RsQ (Qm rfl (Qx (ox_gtr rfl rfl rfl) rfl (RnQ ?_))))))))
       refine ws_if rfl (fun hpos => ?_) (fun hpos => ?_)
       ·have hp : 0 < cntK l (i, ((i + t : Nat) : Int)) := by omega
        refine ws_region (Qm rfl (Qm rfl (Qm rfl (Qm rfl ?_))))
        refine Qx (ox_buildS st37 [.int .i64 0, .int .i64 0, .int .i64 0] [(0, _), (1, _), (2, _)] [_, _, _] rfl el37 rfl rfl (by repeat (first | exact trivial | refine ⟨⟨rfl, rfl, rfl⟩, ?_⟩)) rfl) rfl ?_
        refine wl_buildSlice1 [_, _, _] rfl underlying33 el37 rfl (by rfl) rfl rfl (by omega) rfl rfl rfl (fun g53 => ?_)
        refine wl_appendL 1 hO (RdL.one cIv_len (x := ⟨i, ((i + t : Nat) : Int), (cntK l (i, ((i + t : Nat) : Int)) : Nat)⟩) (List.Mem.head _) rfl) rfl underlying33 el37 rfl (by omega) rfl rfl rfl cIv_one (by simp only [List.length_singleton]; omega) (by simp only [List.length_singleton]; omega) rfl rfl rfl (fun vo2 mo2 hO2 => ?_)
        refine Qm rfl (wl_nil (nx_block (nx_drop ?_)))
        exact nx_meet _ ⟨vo2, mo2, rfl, rfl, rfl, by rw [rowK_succ, ← List.append_assoc, ivs_app, show cellK (cntK l) i (i + t) = [((i : Int), ((i + t : Nat) : Int))] from if_pos hp]; exact hO2⟩ Qs
       ·have hp : ¬ 0 < cntK l (i, ((i + t : Nat) : Int)) := by omega
        refine ws_skip (nx_block ?_)
        exact nx_meet _ ⟨vo, mo, rfl, rfl, rfl, by rw [rowK_succ, show cellK (cntK l) i (i + t) = [] from if_neg hp, List.append_nil]; exact hO⟩ Qs
     ·obtain ⟨vo2, mo2, rfl, rfl, rfl, hO2⟩ := hI
      refine ws_region (Qm rfl (Qx (ox_add rfl rfl rfl (by omega)) rfl (Qm rfl (wl_nil ?_))))
      exact nx_round (100 - i - (t + 1)) _ (by omega) ⟨t + 1, vo2, mo2, rfl, rfl, rfl, rfl, by omega, hO2⟩ Qs
    ·have hl0 : l = [] := List.length_eq_zero_iff.1 (by omega)
     have hr0 : ∀ n, rowK (cntK l) i n = [] := fun n => by
      induction n with
      | zero => simp [rowK]
      | succ n ih => rw [rowK_succ, ih]; subst hl0; rfl
     refine ws_exit (nx_then_exit (nx_then_exit (nx_block_exit (nx_block ?_))))
     exact nx_meet _ ⟨vo, mo, rfl, rfl, rfl, by rw [allK_succ, hr0]; rw [hr0] at hO; exact hO⟩ Qs
   ·obtain rfl : t = 100 - i := by omega
    refine Qk rfl (Qk rfl (Qk rfl (Qx (ox_pick_f rfl rfl rfl) rfl (RnQ (ws_cond_f rfl (ws_exit (nx_then_exit (nx_then_exit (nx_block_exit (nx_block ?_))))))))))
    exact nx_meet _ ⟨vo, mo, rfl, rfl, rfl, by rw [allK_succ]; exact hO⟩ Qs
  ·obtain ⟨vo2, mo2, rfl, rfl, rfl, hO2⟩ := hI
   refine ws_region (Qm rfl (Qx (ox_add rfl rfl rfl (by omega)) rfl (Qm rfl (wl_nil ?_))))
   exact nx_round (100 - (i + 1)) _ (by omega) ⟨i + 1, vo2, mo2, rfl, rfl, rfl, rfl, by omega, hO2⟩ Qs
 ·obtain rfl : i = 100 := by omega
  refine ws_exit (nx_then_exit (nx_then_exit (nx_block_exit (nx_then (RsQ (Qm rfl (Qm rfl (RnQ (ws_ret ?_)))))))))
  exact nx_ret1 rfl rfl (⟨rfl, mo, rfl, hO⟩)
end Go.Proofs.YtdnelknieikbaaaGreat
namespace Go.Proofs.YtdnelknieikbaaaGreat
open Go.Eng Go.RowKit Go.Lin Go.Sort Go.Srt
structure Pl where
 p : Nat
 ds : List Nat
 back : Nat
 seed : List Int
 thin : Bool
def cB (x : Nat) : List Value := [.int .u8 x]
theorem cB_len : ∀ x, (cB x).length = 1 := fun _ => rfl
structure Pl.Ok (x : Pl) : Prop where
 p : x.p < 256
 ds : ∀ d ∈ x.ds, d < 256
 back : x.back < 65536
 seed : ∀ s ∈ x.seed, I64 s
 len : x.seed.length ≤ 9223372036854775807
structure RdP (h : Hp) (vd vs : Value) (x : Pl) : Prop where
 d : RdL cB 1 h [] vd x.ds
 s : RdL cI 1 h [] vs x.seed
theorem RdP.up {h h' : Hp} {vd vs : Value} {x : Pl} (R : RdP h vd vs x) (hl : h.le h') : RdP h' vd vs x := ⟨R.d.up hl, R.s.up hl⟩
def Pl.P (x : Pl) : Int := ([2, 3, 5, 7] : List Int).getD (x.p % 4) 0
def Pl.pre (x : Pl) : List Int := (x.ds.take 8).map fun d => ((d % 5 : Nat) : Int)
def Pl.dims (x : Pl) : List Int := if x.pre = [] then [2] else x.pre
def Pl.d (x : Pl) (k : Nat) : Nat := (x.dims.getD k 0).toNat
def Pl.bk (x : Pl) (k : Nat) : Bool := decide (x.back / 2 ^ k % 2 = 1)
def Pl.rows (x : Pl) (k : Nat) : Nat := if x.bk k then x.d k else x.d (k + 1)
def Pl.cols (x : Pl) (k : Nat) : Nat := if x.bk k then x.d (k + 1) else x.d k
def Pl.at_ (x : Pl) : Nat → Nat
 | 0 => 0
 | k + 1 => x.at_ k + x.rows k * x.cols k
def Pl.raw (x : Pl) (a : Nat) : Int := IntKind.i64.wrap (x.seed.getD (a % x.seed.length) 0 + 3 * ((a / x.seed.length : Nat) : Int))
def Pl.ent (x : Pl) (a : Nat) : Int := if x.seed = [] then 0 else if x.thin = false ∨ x.raw a % 3 = 0 then IntKind.i64.wrap ((x.raw a).tdiv 3 + x.raw a) % x.P else 0
def Pl.mat (x : Pl) (k : Nat) : FM := ⟨x.P, x.rows k, x.cols k, (List.range (x.rows k * x.cols k)).map fun j => x.ent (x.at_ k + j)⟩
def Pl.core (x : Pl) : List (Bool × FM) := (List.range (x.dims.length - 1)).map fun k => (x.bk k, x.mat k)
section
variable (x : Pl)
theorem Pl.P_is : IsP x.P := by
 unfold Pl.P
 have h : x.p % 4 < 4 := Nat.mod_lt _ (by decide)
 rcases (by omega : x.p % 4 = 0 ∨ x.p % 4 = 1 ∨ x.p % 4 = 2 ∨ x.p % 4 = 3) with e | e | e | e <;> rw [e]
 ·exact (by decide : IsP 2)
 ·exact (by decide : IsP 3)
 ·exact (by decide : IsP 5)
 ·exact (by decide : IsP 7)
theorem Pl.P_bd : 2 ≤ x.P ∧ x.P ≤ 7 := by
 unfold Pl.P
 have h : x.p % 4 < 4 := Nat.mod_lt _ (by decide)
 rcases (by omega : x.p % 4 = 0 ∨ x.p % 4 = 1 ∨ x.p % 4 = 2 ∨ x.p % 4 = 3) with e | e | e | e <;> rw [e] <;> decide
theorem Pl.dims_bd : ∀ y ∈ x.dims, 0 ≤ y ∧ y ≤ 4 := fun y hy => by
 unfold Pl.dims at hy
 split at hy
 ·rw [List.mem_singleton.1 hy]; decide
 ·unfold Pl.pre at hy
  obtain ⟨d, _, rfl⟩ := List.mem_map.1 hy
  omega
theorem Pl.pre_len : x.pre.length ≤ 8 := by unfold Pl.pre; rw [List.length_map, List.length_take]; omega
theorem Pl.dims_len : 1 ≤ x.dims.length ∧ x.dims.length ≤ 8 := by
 unfold Pl.dims
 split
 ·simp
 ·rename_i h
  have := x.pre_len
  have := List.length_pos_iff.2 h
  omega
theorem Pl.d_eq (k : Nat) : ((x.d k : Nat) : Int) = x.dims.getD k 0 := by
 unfold Pl.d
 rcases Nat.lt_or_ge k x.dims.length with h | h
 ·have e : x.dims.getD k 0 = x.dims[k] := by simp [List.getD, h]
  have := x.dims_bd _ (List.getElem_mem h)
  rw [e]; omega
 ·have e : x.dims.getD k 0 = 0 := by simp [List.getD, h]
  rw [e]; rfl
theorem Pl.d_le (k : Nat) : x.d k ≤ 4 := by
 unfold Pl.d
 rcases Nat.lt_or_ge k x.dims.length with h | h
 ·have e : x.dims.getD k 0 = x.dims[k] := by simp [List.getD, h]
  have := x.dims_bd _ (List.getElem_mem h)
  rw [e]; omega
 ·have e : x.dims.getD k 0 = 0 := by simp [List.getD, h]
  rw [e]; decide
theorem Pl.rc_le (k : Nat) : x.rows k ≤ 4 ∧ x.cols k ≤ 4 := by
 have h1 := x.d_le k
 have h2 := x.d_le (k + 1)
 unfold Pl.rows Pl.cols
 split <;> exact ⟨by assumption, by assumption⟩
theorem Pl.sz_le (k : Nat) : x.rows k * x.cols k ≤ 16 := by
 have := x.rc_le k
 exact Nat.mul_le_mul this.1 this.2
theorem Pl.at_le (k : Nat) : x.at_ k ≤ 16 * k := by
 induction k with
 | zero => exact Nat.le_refl _
 | succ k ih => have := x.sz_le k; unfold Pl.at_; omega
theorem Pl.ent_bd (a : Nat) : 0 ≤ x.ent a ∧ x.ent a < x.P := by
 have hp := x.P_bd
 unfold Pl.ent
 split
 ·omega
 ·split
  ·exact ⟨Int.emod_nonneg _ (by omega), Int.emod_lt_of_pos _ (by omega)⟩
  ·omega
theorem Pl.core_len : x.core.length = x.dims.length - 1 := by simp [Pl.core]
theorem Pl.rt {Z : Zz} (h1 : Z.p = x.P) (h2 : Z.dims = x.dims) (h3 : Z.ars.map Ar.core = x.core) : Z.Rt := by
 rw [rt_core h3, h1, h2]
 have hd := x.dims_len
 have hb := x.dims_bd
 refine ⟨hd.1, by show x.dims.length ≤ 100; omega, ?_, x.P_is, fun y hy => ?_, fun k hk => ?_⟩
 ·show (((x.core.map _).length : Nat) : Int) = (x.dims.length : Int) - 1
  rw [List.length_map, x.core_len]; omega
 ·have := hb y hy; omega
 ·have hk' : k < x.dims.length - 1 := by have : k < (x.core.map _).length := hk; rwa [List.length_map, x.core_len] at this
  have e : (mkZz x.P x.dims x.core).ars[k] = ⟨x.bk k, x.mat k, .slice none 0 0⟩ := by
   have e2 : (mkZz x.P x.dims x.core).ars[k]? = some ⟨x.bk k, x.mat k, .slice none 0 0⟩ := by
    show (x.core.map _)[k]? = _
    rw [List.getElem?_map, Pl.core, List.getElem?_map, List.getElem?_range hk']; rfl
   rw [List.getElem?_eq_getElem hk] at e2
   exact Option.some.inj e2
  rw [e]
  have h4 := x.rc_le k
  refine ⟨⟨x.P_is, ⟨?_, ?_, ?_, ?_⟩, ?_, fun y hy => ?_⟩, rfl, ?_, ?_⟩
  ·show (0 : Int) ≤ (x.rows k : Int); omega
  ·show (0 : Int) ≤ (x.cols k : Int); omega
  ·show (x.rows k : Int) ≤ 400; omega
  ·show (x.cols k : Int) ≤ 400; omega
  ·show ((((List.range (x.rows k * x.cols k)).map _).length : Nat) : Int) = (x.rows k : Int) * (x.cols k : Int)
   rw [List.length_map, List.length_range]; exact Int.natCast_mul _ _
  ·obtain ⟨j, _, rfl⟩ := List.mem_map.1 hy
   exact x.ent_bd _
  ·show (x.cols k : Int) = x.dims.getD (if x.bk k then k + 1 else k) 0
   rw [← x.d_eq]
   unfold Pl.cols
   split <;> rfl
  ·show (x.rows k : Int) = x.dims.getD (if x.bk k then k else k + 1) 0
   rw [← x.d_eq]
   unfold Pl.rows
   split <;> rfl
end
end Go.Proofs.YtdnelknieikbaaaGreat
set_option maxHeartbeats 800000
namespace Go.Proofs.YtdnelknieikbaaaGreat
open Go.Proofs.Tryz
open Go.Eng Go.RowKit Go.Lin Go.Sort Go.Srt
instance : Inhabited Ar := ⟨⟨false, ⟨0, 0, 0, []⟩, .slice none 0 0⟩⟩
def BagE (A : List Ar) (m : Hp) : Prop := Bag A.length (fun k y => OwnL cI 1 3 y (A.getD k default).v (A.getD k default).M.e) m
theorem BagE.nil : BagE [] Hp.emp := Bag.zero _
theorem BagE.snoc {A : List Ar} {m y : Hp} {a : Ar} (B : BagE A m) (O : OwnL cI 1 3 y a.v a.M.e) (hd : m.disj y) : BagE (A ++ [a]) (m.join y) := by
 unfold BagE at *
 rw [List.length_append, List.length_singleton]
 refine Bag.snoc (B.mono fun k hk z O' => ?_) ?_ hd
 ·have e : (A ++ [a]).getD k default = A.getD k default := by simp [List.getD, List.getElem?_append_left hk]
  rw [e]; exact O'
 ·have e : (A ++ [a]).getD A.length default = a := by simp [List.getD]
  rw [e]; exact O
theorem rdl_up8 {x : Pl} (hx : x.Ok) {i : Nat} (hi : i < x.ds.length) : x.ds[i] < 256 := hx.ds _ (List.getElem_mem hi)
def Pl.vals (x : Pl) (k j : Nat) : List Int := (List.range (x.rows k * x.cols k)).map fun t => if t < j then x.ent (x.at_ k + t) else 0
theorem vals_len (x : Pl) (k j : Nat) : (x.vals k j).length = x.rows k * x.cols k := by simp [Pl.vals]
theorem vals_set (x : Pl) (k : Nat) {j : Nat} (hj : j < x.rows k * x.cols k) : (x.vals k j).set j (x.ent (x.at_ k + j)) = x.vals k (j + 1) := by
 refine List.ext_getElem (by simp [Pl.vals]) fun t h1 h2 => ?_
 rw [List.getElem_set]
 by_cases he : j = t
 ·subst he; simp [Pl.vals]
 ·rw [if_neg he]
  simp only [Pl.vals, List.getElem_map, List.getElem_range]
  by_cases ht : t < j
  ·rw [if_pos ht, if_pos (by omega)]
  ·rw [if_neg ht, if_neg (by omega)]
theorem vals_skip (x : Pl) (k : Nat) {j : Nat} (hj : j < x.rows k * x.cols k) (h0 : x.ent (x.at_ k + j) = 0) : x.vals k j = x.vals k (j + 1) := by
 rw [← vals_set x k hj, h0]
 refine List.ext_getElem (by simp) fun t h1 h2 => ?_
 rw [List.getElem_set]
 by_cases he : j = t
 ·subst he; simp [Pl.vals]
 ·rw [if_neg he]
theorem vals_all (x : Pl) (k : Nat) : x.vals k (x.rows k * x.cols k) = (x.mat k).e := by
 unfold Pl.vals Pl.mat
 exact List.map_congr_left fun t ht => if_pos (List.mem_range.1 ht)
theorem vals_none (x : Pl) (k j : Nat) (h : x.seed = []) : x.vals k j = (x.mat k).e := by
 unfold Pl.vals Pl.mat
 refine List.map_congr_left fun t ht => ?_
 have : x.ent (x.at_ k + t) = 0 := by unfold Pl.ent; rw [if_pos h]
 rw [this, ite_self]
theorem vals_zero (x : Pl) (k : Nat) : (mkM x.P (x.rows k) (x.cols k) fun _ _ => 0).e = x.vals k 0 := by
 unfold Pl.vals mkM Lin.mat
 exact List.map_congr_left fun t _ => (if_neg (by omega)).symm
theorem ox_val {P : Program} {o : Oper} {s : Slots} {h : Hp} {ms : List Hp} {v v' : Value} (H : OX P o s h ms v) (e : v = v') : OX P o s h ms v' := e ▸ H
theorem zig_ok (x : Pl) (vd vs : Value) (h : Hp) (hx : x.Ok) (hR : RdP h vd vs x) : FnT Tryz.prog 15 #[.agg #[.int .u8 x.p, vd, .int .u16 x.back, vs, .bool x.thin]] h [] (fun r h' ms' => h.le h' ∧ ∃ (vdo vao : Value) (md ma mB : Hp) (A : List Ar), ms' = [ma, md, mB] ∧ r = .agg #[.int .i64 x.P, vdo, vao] ∧ OwnL cI 1 3 md vdo x.dims ∧ OwnL cA 5 45 ma vao A ∧ A.map Ar.core = x.core ∧ BagE A mB) := by
 have o1 := hR.d.rd.one
 have o2 := hR.s.rd.one
 have hxp := hx.p
 have hdl := hR.d.len_le
 have hsl := hR.s.len_le
 refine fn_enter func15 ntmps15 rfl rfl (fun w0 hw0 => ?_)
 simp only [argS]
 refine RsQ ?_
 refine wl_box [_, _, _, _, _] rfl rfl (by rfl) rfl rfl rfl (fun g1 => ?_)
 refine AlQ [.int .i64 0, .slice none 0 0, .slice none 0 0] rfl el30 rfl rfl (fun g2 => RnQ (ws_freezeBi 1 rfl fun h1 l1 hS1 => ?_))
 have hR := hR.up l1
 have hA := Seg.all hS1
 have hA0 := hA 0 _ rfl
 have hpl : x.p % 4 < 4 := Nat.mod_lt _ (by decide)
 refine RsQ ?_
 refine wl_buildSlice [(0, _), (1, _), (2, _), (3, _)] [.int .i64 0, .int .i64 0, .int .i64 0, .int .i64 0] [_, _, _, _] rfl underlying24 el3 rfl (by omega) (by kernel_rfl) (by repeat (first | exact trivial | refine ⟨⟨by rfl, rfl, rfl⟩, ?_⟩)) rfl rfl rfl rfl (fun g13 => ?_)
 refine wl_freezeL (OwnL.blk (g := g13) (el := 3) (F := cI) (l := [2, 3, 5, 7]) 4 cI_len rfl (by omega)) fun h2 l2 hR13 => ?_
 have hS1 := hS1.le l2
 have hR := hR.up l2
 have hA := Seg.all hS1
 have hA0 := hA 0 _ rfl
 have hcp : ∀ ms, Cell h2 ms ((vbase (.slice (some ⟨g13, 0, none⟩) 4 4)).add (x.p % 4 * 1)) (.int .i64 x.P) := fun ms => by
  have := (hR13.any (ms := ms)).cell0 (j := x.p % 4) hpl rfl
  have e : ([2, 3, 5, 7] : List Int)[x.p % 4] = x.P := by unfold Pl.P; simp [List.getD, hpl]
  rw [e] at this
  exact this
 refine Qx (ox_fieldF fd26_0 rfl rfl) rfl (Qx (ox_load rfl underlying5 rfl rfl (hA0 _)) rfl (Qx (ox_remP rfl rfl rfl (by omega) (by omega)) rfl (Qx (ox_index (x.p % 4) rfl underlying24 el3 rfl rfl (by omega) (by omega)) rfl (Qx (ox_load rfl underlying3 rfl rfl (hcp _)) rfl ?_))))
 refine Qx (ox_buildS st30 [.int .i64 0, .slice none 0 0, .slice none 0 0] [(0, _)] [_, _, _] rfl el30 rfl rfl (by repeat (first | exact trivial | refine ⟨⟨rfl, rfl, rfl⟩, ?_⟩)) rfl) rfl ?_
 refine AlQ [.int .i64 0, .slice none 0 0, .slice none 0 0] rfl el30 rfl rfl (fun g3 => ?_)
 refine wl_storeAll 0 [_, _, _] rfl el30 rfl rfl rfl (by (simp [Value.oneCell']; done)) rfl rfl rfl rfl rfl ?_
 refine RnQ ?_
 refine ws_cut (fun sl hh ms' => ∃ (vo : Value) (md : Hp), sl = [(1, .pointer (some ⟨g1, 0, none⟩)), (2, .pointer (some ⟨g2, 0, none⟩)), (3, .pointer (some ⟨g3, 0, none⟩))] ∧ h2 = hh ∧ ms' = [Blk g3 30 [.int .i64 x.P, vo, .slice none 0 0], md, Blk g2 30 [.int .i64 0, .slice none 0 0, .slice none 0 0]] ∧ OwnL cI 1 3 md vo x.pre) ?_ (fun s h ms hI => ?_)
 ·refine ws_seq (ws_region (Qm rfl (RnQ (ws_block (ws_emp (ws_top 1 rfl ?_))))))
  refine ws_loop (fun q sl hh ms' => ∃ (i : Nat) (vo : Value) (md : Hp), q = x.ds.length - i ∧ sl = [(1, .pointer (some ⟨g1, 0, none⟩)), (2, .pointer (some ⟨g2, 0, none⟩)), (3, .pointer (some ⟨g3, 0, none⟩)), (4, .int .i64 i)] ∧ h2 = hh ∧ ms' = [Blk g3 30 [.int .i64 x.P, vo, .slice none 0 0], md, Blk g2 30 [.int .i64 0, .slice none 0 0, .slice none 0 0]] ∧ i ≤ x.ds.length ∧ i ≤ 8 ∧ OwnL cI 1 3 md vo ((x.ds.take i).map fun d => ((d % 5 : Nat) : Int)))
   (x.ds.length - 0) _ ⟨0, _, _, rfl, rfl, rfl, rfl, by omega, by omega, OwnL.nil cI_len⟩ Qs ?_
  rintro q sl hh ms' ⟨i, vo, md, rfl, rfl, rfl, rfl, hi, hi8, hO⟩
  have olen : ((x.ds.take i).map fun d => ((d % 5 : Nat) : Int)).length ≤ 8 := by rw [List.length_map, List.length_take]; omega
  refine ws_seq (RsQ (Qm rfl (Qx (ox_fieldF fd26_1 rfl rfl) rfl (Qx (ox_load rfl underlying22 rfl rfl (hA _ _ rfl _)) rfl (Qx (ox_lenR hR.d.rd.any rfl underlying22 rfl) rfl (Qx (ox_lss rfl rfl rfl) rfl (Qm rfl ?_)))))))
  refine wl_split (t := 25) rfl (fun hs1 => ?_) (fun hs1 => ?_)
  ·have hil : i < x.ds.length := by omega
   refine Qg (ox_move rfl rfl) rfl (Qg (ox_lss rfl rfl rfl) rfl (Qx (ox_pick_t rfl rfl rfl) rfl (RnQ ?_)))
   refine ws_if rfl (fun hs2 => ?_) (fun hs2 => ?_)
   ·have hdb := rdl_up8 hx hil
    refine ws_skip (nx_then (ws_seq (ws_block (ws_draw 10 fol (by kernel_rfl) rfl (wr_x (ox_fieldF fd30_1 rfl rfl) rfl rfl (wr_x (ox_load rfl underlying24 rfl rfl (Cell.blk 0 rfl rfl)) rfl rfl (wr_x (ox_fieldF fd26_1 rfl rfl) rfl rfl (wr_x (ox_load rfl underlying22 rfl rfl (hA _ _ rfl _)) rfl rfl (wr_x (ox_move rfl rfl) rfl rfl (wr_x (ox_indexR (i) hR.d.rd.any rfl underlying22 el5 rfl rfl (by omega) (by omega)) rfl rfl (wr_x (ox_load rfl underlying5 rfl rfl (hR.d.any.cell0 hil rfl)) rfl rfl (wr_x (ox_remP rfl rfl rfl (by omega) (by omega)) rfl rfl (wr_x (ox_conv rfl underlying5 underlying3 rfl (wrap_i64 (by omega))) rfl rfl ?_)))))))))))))
    refine wr_b (onb_buildSlice1 [_] rfl underlying24 el3 rfl (by rfl) rfl rfl (by omega)) rfl rfl ?_
    refine wr_nil1 (fun g40 => ?_)
    refine wl_appendL 2 hO (RdL.one cI_len (x := ((x.ds[i] % 5 : Nat) : Int)) (List.Mem.head _) rfl) rfl underlying24 el3 rfl (by omega) rfl rfl rfl cI_one (by simp only [List.length_singleton]; omega) (by simp only [List.length_singleton]; omega) rfl rfl rfl (fun vo2 md2 hO2 => ?_)
    have ov2 : vo2.oneCell' = true := (hO2.rd (h := h) (ms := [md2]) (List.Mem.head _)).rd.one
    refine Qx (ox_fieldF fd30_1 rfl rfl) rfl ?_
    refine wl_storeAt 1 _ rfl el24 rfl rfl (by assumption) rfl rfl (by (simp; done)) rfl rfl ?_
    refine wl_nil (nx_block (nx_then (ws_region (Qm rfl (Qx (ox_add rfl rfl rfl (by omega)) rfl (Qm rfl (wl_nil (nx_drop ?_))))))))
    refine nx_round (x.ds.length - (i + 1)) _ (by omega) ⟨i + 1, vo2, md2, rfl, rfl, rfl, rfl, by omega, by omega, by rw [List.take_succ_eq_append_getElem hil, List.map_append]; exact hO2⟩ Qs
   ·obtain rfl : i = 8 := by omega
    refine ws_exit (nx_then_exit (nx_then_exit (nx_block_exit ?_)))
    exact nx_meet _ ⟨vo, md, rfl, rfl, rfl, hO⟩ Qs
  ·obtain rfl : i = x.ds.length := by omega
   refine Qk rfl (Qk rfl (Qx (ox_pick_f rfl rfl rfl) rfl (RnQ (ws_cond_f rfl (ws_exit (nx_then_exit (nx_then_exit (nx_block_exit ?_))))))))
   exact nx_meet _ ⟨vo, md, rfl, rfl, rfl, by unfold Pl.pre; rw [List.take_of_length_le (by omega)] at hO ⊢; exact hO⟩ Qs
 ·obtain ⟨vo, md, rfl, rfl, rfl, hO⟩ := hI
  have hpn := x.pre_len
  refine ws_cut (fun sl hh ms' => ∃ (vo : Value) (md : Hp), sl = [(1, .pointer (some ⟨g1, 0, none⟩)), (2, .pointer (some ⟨g2, 0, none⟩)), (3, .pointer (some ⟨g3, 0, none⟩))] ∧ h2 = hh ∧ ms' = [Blk g3 30 [.int .i64 x.P, vo, .slice none 0 0], md, Blk g2 30 [.int .i64 0, .slice none 0 0, .slice none 0 0]] ∧ OwnL cI 1 3 md vo x.dims) ?_ (fun s h ms hI => ?_)
  ·refine ws_seq (ws_region (Qx (ox_fieldF fd30_1 rfl rfl) rfl (Qx (ox_load rfl underlying24 rfl rfl (Cell.blk 0 (k := 1) rfl rfl)) rfl (Qx (ox_lenS (hO.rd (h := h2) (ms := [md]) (List.Mem.head _)).rd rfl underlying24 rfl) rfl (Qx (ox_eqi rfl rfl rfl) rfl (RnQ ?_))))))
   refine ws_if rfl (fun hz => ?_) (fun hz => ?_)
   ·refine ws_region ?_
    refine wl_buildSlice1 [_] rfl underlying24 el3 rfl (by rfl) rfl rfl (by omega) rfl rfl rfl (fun g47 => ?_)
    refine Qx (ox_fieldF fd30_1 rfl rfl) rfl ?_
    refine wl_storeAt 1 _ rfl el24 rfl rfl (by rfl) rfl rfl (by (simp; done)) rfl rfl ?_
    refine wl_nil (nx_dropAt 2 rfl (nx_swap ?_))
    exact nx_meet _ ⟨_, _, rfl, rfl, rfl, by unfold Pl.dims; rw [if_pos (List.length_eq_zero_iff.1 (by omega))]; exact OwnL.blk (F := cI) (l := [2]) 1 cI_len rfl (by omega)⟩ Qs
   ·refine ws_skip ?_
    exact nx_meet _ ⟨vo, md, rfl, rfl, rfl, by unfold Pl.dims; rw [if_neg (fun e => hz (by rw [e]; rfl))]; exact hO⟩ Qs
  ·obtain ⟨vo, md, rfl, rfl, rfl, hO⟩ := hI
   have hdn := x.dims_len
   refine RsQ (Qm rfl (RnQ (ws_seq (RsQ (Qm rfl (RnQ (ws_block (ws_emp (ws_emp ?_)))))))))
   refine ws_loop (fun q sl hh ms' => ∃ (k a : Nat) (va : Value) (ma mB : Hp) (A : List Ar), q = x.dims.length - k ∧ sl = [(1, .pointer (some ⟨g1, 0, none⟩)), (2, .pointer (some ⟨g2, 0, none⟩)), (3, .pointer (some ⟨g3, 0, none⟩)), (5, .int .i64 a), (6, .int .i64 k)] ∧ h2.le hh ∧ ms' = [ma, mB, Blk g3 30 [.int .i64 x.P, vo, va], md, Blk g2 30 [.int .i64 0, .slice none 0 0, .slice none 0 0]] ∧ k + 1 ≤ x.dims.length ∧ OwnL cA 5 45 ma va A ∧ A.map Ar.core = x.core.take k ∧ BagE A mB ∧ (x.seed = [] → a = 0) ∧ (x.seed ≠ [] → a = x.at_ k))
    (x.dims.length - 0) _ ⟨0, 0, _, _, _, [], rfl, rfl, Hp.le_refl _, rfl, by omega, OwnL.nil cA_len, by simp, BagE.nil, fun _ => rfl, fun _ => rfl⟩ Qs ?_
   rintro q sl hh ms' ⟨k, a, va, ma, mB, A, rfl, rfl, lh, rfl, hk, hOa, hAc, hB, ha0, ha1⟩
   have hR := hR.up lh
   have hA := Seg.all (hS1.le lh)
   have hA0 := hA 0 _ rfl
   have hal := x.at_le k
   have hale : a ≤ 128 := by
    by_cases hse : x.seed = []
    ·rw [ha0 hse]; omega
    ·rw [ha1 hse]; omega
   refine ws_seq (RsQ (Qm rfl (Qx (ox_add rfl rfl rfl (by omega)) rfl (Qx (ox_fieldF fd30_1 rfl rfl) rfl (Qx (ox_load rfl underlying24 rfl rfl (Cell.blk 2 (k := 1) rfl rfl)) rfl (Qx (ox_lenS (hO.rd (h := h2) (ms := [md]) (List.Mem.head _)).rd rfl underlying24 rfl) rfl (Qx (ox_lss rfl rfl rfl) rfl (RnQ ?_))))))))
   refine ws_if rfl (fun hlt => ?_) (fun hlt => ?_)
   ·have hk1 : k + 1 < x.dims.length := by omega
    have hbk : x.back / 2 ^ k < 65536 := Nat.lt_of_le_of_lt (Nat.div_le_self _ _) hx.back
    have hd0 : ∀ ms, md ∈ ms → Cell hh ms ((vbase vo).add (k * 1)) (.int .i64 (x.d k)) := fun ms hm => by
     have h1 : k < x.dims.length := by omega
     have := (hO.rd (h := hh) hm).cell0 h1 rfl
     have e : x.dims[k] = x.d k := by rw [x.d_eq]; simp [List.getD, h1]
     rw [e] at this; exact this
    have hd1 : ∀ ms, md ∈ ms → Cell hh ms ((vbase vo).add ((k + 1) * 1)) (.int .i64 (x.d (k + 1))) := fun ms hm => by
     have := (hO.rd (h := hh) hm).cell0 hk1 rfl
     have e : x.dims[k + 1] = x.d (k + 1) := by rw [x.d_eq]; simp [List.getD, hk1]
     rw [e] at this; exact this
    have hbq : decide (((x.back / 2 ^ k % 2 : Nat) : Int) = 1) = x.bk k := by unfold Pl.bk; exact decide_eq_decide.2 (by omega)
    refine ws_skip (nx_then (ws_seq (ws_block (RsQ (Qx (ox_fieldF fd26_2 rfl rfl) rfl (Qx (ox_load rfl underlying23 rfl rfl (hA _ _ rfl _)) rfl (Qm rfl (Qx (ox_shr16 rfl rfl rfl (by omega)) rfl (Qx (ox_odd16 rfl rfl rfl (by omega)) rfl (Qx (ox_eqi rfl rfl rfl) rfl (Qm rfl (RtQ (Qx (ox_fieldF fd30_1 rfl rfl) rfl (Qx (ox_load rfl underlying24 rfl rfl (Cell.blk 2 (k := 1) rfl rfl)) rfl (Qm rfl (Qx (ox_add rfl rfl rfl (by omega)) rfl (Qx (ox_indexS (k + 1) (hO.rd (h := h2) (ms := [md]) (List.Mem.head _)).rd rfl underlying24 el3 rfl rfl (by omega) (by omega)) rfl (Qx (ox_load rfl underlying3 rfl rfl (hd1 _ (List.Mem.tail _ (List.Mem.tail _ (List.Mem.tail _ (List.Mem.head _)))))) rfl (Qm rfl (RtQ (Qx (ox_fieldF fd30_1 rfl rfl) rfl (Qx (ox_load rfl underlying24 rfl rfl (Cell.blk 2 (k := 1) rfl rfl)) rfl (Qm rfl (Qx (ox_indexS (k) (hO.rd (h := h2) (ms := [md]) (List.Mem.head _)).rd rfl underlying24 el3 rfl rfl (by omega) (by omega)) rfl (Qx (ox_load rfl underlying3 rfl rfl (hd0 _ (List.Mem.tail _ (List.Mem.tail _ (List.Mem.tail _ (List.Mem.head _)))))) rfl (Qm rfl (RnQ ?_)))))))))))))))))))))))))))
    refine ws_cut (fun sl h3 ms' => ∃ b : Bool, sl = [(1, .pointer (some ⟨g1, 0, none⟩)), (2, .pointer (some ⟨g2, 0, none⟩)), (3, .pointer (some ⟨g3, 0, none⟩)), (5, .int .i64 a), (6, .int .i64 k), (7, .bool b), (8, .int .i64 (x.rows k)), (9, .int .i64 (x.cols k))] ∧ hh = h3 ∧ ms' = [ma, mB, Blk g3 30 [.int .i64 x.P, vo, va], md, Blk g2 30 [.int .i64 0, .slice none 0 0, .slice none 0 0]] ∧ b = x.bk k) ?_ (fun s h ms hI => ?_)
    ·refine ws_seq (ws_region (Qm rfl (RnQ ?_)))
     refine ws_cond rfl (fun hbt => ?_) (fun hbt => ?_)
     ·have hbt : x.bk k = true := hbq ▸ hbt
      have e1 : x.rows k = x.d k := if_pos hbt
      have e2 : x.cols k = x.d (k + 1) := if_pos hbt
      rw [e1, e2]
      refine RsQ (Qx (ox_fieldF fd30_1 rfl rfl) rfl (Qx (ox_load rfl underlying24 rfl rfl (Cell.blk 2 (k := 1) rfl rfl)) rfl (Qm rfl (Qx (ox_indexS (k) (hO.rd (h := h2) (ms := [md]) (List.Mem.head _)).rd rfl underlying24 el3 rfl rfl (by omega) (by omega)) rfl (Qx (ox_load rfl underlying3 rfl rfl (hd0 _ (List.Mem.tail _ (List.Mem.tail _ (List.Mem.tail _ (List.Mem.head _)))))) rfl (Qm rfl (RrQ (Qx (ox_fieldF fd30_1 rfl rfl) rfl (Qx (ox_load rfl underlying24 rfl rfl (Cell.blk 2 (k := 1) rfl rfl)) rfl (Qm rfl (Qx (ox_add rfl rfl rfl (by omega)) rfl (Qx (ox_indexS (k + 1) (hO.rd (h := h2) (ms := [md]) (List.Mem.head _)).rd rfl underlying24 el3 rfl rfl (by omega) (by omega)) rfl (Qx (ox_load rfl underlying3 rfl rfl (hd1 _ (List.Mem.tail _ (List.Mem.tail _ (List.Mem.tail _ (List.Mem.head _)))))) rfl (Qm rfl (wl_nil ?_)))))))))))))))
      exact nx_meet _ ⟨_, rfl, rfl, rfl, hbq⟩ Qs
     ·have hbt : ¬ x.bk k = true := by rw [← hbq, hbt]; decide
      have e1 : x.rows k = x.d (k + 1) := if_neg hbt
      have e2 : x.cols k = x.d k := if_neg hbt
      rw [e1, e2]
      refine ws_skip ?_
      exact nx_meet _ ⟨_, rfl, rfl, rfl, hbq⟩ Qs
    ·obtain ⟨b, rfl, rfl, rfl, rfl⟩ := hI
     have hrc := x.rc_le k
     have hpb := x.P_bd
     refine RsQ (Qx (ox_fieldF fd30_0 rfl rfl) rfl (Qx (ox_load rfl underlying3 rfl rfl (Cell.blk 2 (k := 0) rfl rfl)) rfl (Qm rfl (Qm rfl ?_))))
     refine wl_call rfl call23 rfl (rzero_ok x.P (x.rows k) (x.cols k) hh ⟨by omega, by omega⟩) rfl rfl rfl (fun xm h4 ms4 l4 hF => ?_)
     rw [mkZ_nat x.P_is (show x.rows k ≤ 400 by omega) (show x.cols k ≤ 400 by omega)] at hF
     obtain ⟨rfl, xe, mx, rfl, rfl, hOx⟩ := hF
     have ox : xe.oneCell' = true := (hOx.rd (h := h) (ms := [mx]) (List.Mem.head _)).rd.one
     refine AlQ [.int .i64 0, .int .i64 0, .int .i64 0, .slice none 0 0] rfl el42 rfl rfl (fun g10 => ?_)
     refine wl_storeAll 0 [_, _, _, _] rfl el42 rfl rfl rfl (by (simp [ox]; done)) rfl rfl rfl rfl rfl ?_
     refine RnQ (ws_freezeB fun h5 l5 hS10 => ?_)
     have hR := hR.up l5
     have hA := Seg.all (hS1.le (Hp.le_trans lh l5))
     have hA0 := hA 0 _ rfl
     have hC := Seg.all hS10
     have hvl := vals_len x k
     have hsz := x.sz_le k
     refine ws_cut (fun sl h6 ms' => ∃ (a' : Nat) (mx : Hp), sl = [(1, .pointer (some ⟨g1, 0, none⟩)), (2, .pointer (some ⟨g2, 0, none⟩)), (3, .pointer (some ⟨g3, 0, none⟩)), (5, .int .i64 a'), (6, .int .i64 k), (7, .bool (x.bk k)), (10, .pointer (some ⟨g10, 0, none⟩))] ∧ h5 = h6 ∧ ms' = [mx, ma, mB, Blk g3 30 [.int .i64 x.P, vo, va], md, Blk g2 30 [.int .i64 0, .slice none 0 0, .slice none 0 0]] ∧ OwnL cI 1 3 mx xe (x.mat k).e ∧ (x.seed = [] → a' = 0) ∧ (x.seed ≠ [] → a' = x.at_ (k + 1))) ?_ (fun s h ms hI => ?_)
     ·refine ws_seq (ws_region (Qm rfl (RnQ (ws_block ?_))))
      refine ws_loop (fun q sl h6 ms' => ∃ (j : Nat) (mx : Hp), q = x.rows k * x.cols k - j ∧ sl = [(1, .pointer (some ⟨g1, 0, none⟩)), (2, .pointer (some ⟨g2, 0, none⟩)), (3, .pointer (some ⟨g3, 0, none⟩)), (5, .int .i64 ((a + j : Nat) : Int)), (6, .int .i64 k), (7, .bool (x.bk k)), (10, .pointer (some ⟨g10, 0, none⟩)), (11, .int .i64 j)] ∧ h5 = h6 ∧ ms' = [mx, ma, mB, Blk g3 30 [.int .i64 x.P, vo, va], md, Blk g2 30 [.int .i64 0, .slice none 0 0, .slice none 0 0]] ∧ j ≤ x.rows k * x.cols k ∧ OwnL cI 1 3 mx xe (x.vals k j) ∧ (x.seed = [] → j = 0))
       (x.rows k * x.cols k - 0) _ ⟨0, mx, rfl, rfl, rfl, rfl, by omega, vals_zero x k ▸ hOx, fun _ => rfl⟩ Qs ?_
      rintro q sl h6 ms' ⟨j, mx, rfl, rfl, rfl, rfl, hj, hOx, hj0⟩
      have hvj := hvl j
      refine ws_seq (RsQ (Qm rfl (Qx (ox_fieldF fd42_3 rfl rfl) rfl (Qx (ox_load rfl underlying24 rfl rfl (hC _ _ rfl _)) rfl (Qx (ox_lenS (hOx.rd (h := h2) (ms := [mx]) (List.Mem.head _)).rd rfl underlying24 rfl) rfl (Qx (ox_lss rfl rfl rfl) rfl (Qm rfl ?_)))))))
      refine wl_split (t := 96) rfl (fun hs1 => ?_) (fun hs1 => ?_)
      ·have hjl : j < x.rows k * x.cols k := by omega
       refine Qg (ox_fieldF fd26_3 rfl rfl) rfl (Qg (ox_load rfl underlying24 rfl rfl (hA _ _ rfl _)) rfl (Qg (ox_lenR hR.s.rd.any rfl underlying24 rfl) rfl (Qg (ox_gtr rfl rfl rfl) rfl (Qx (ox_pick_t rfl rfl rfl) rfl (RnQ ?_)))))
       refine ws_if rfl (fun hs2 => ?_) (fun hs2 => ?_)
       ·have hsl0 : 0 < x.seed.length := by omega
        have hse : x.seed ≠ [] := fun e => by rw [e] at hsl0; exact absurd hsl0 (by decide)
        have hak := ha1 hse
        have q1 : (((a + j : Nat) : Int)) % (x.seed.length : Int) = (((a + j) % x.seed.length : Nat) : Int) := (Int.natCast_emod _ _).symm
        have q2 : (((a + j : Nat) : Int)) / (x.seed.length : Int) = (((a + j) / x.seed.length : Nat) : Int) := (Int.natCast_ediv _ _).symm
        have q3 : (a + j) / x.seed.length ≤ a + j := Nat.div_le_self _ _
        have q4 : 0 ≤ (((a + j : Nat) : Int)) / (x.seed.length : Int) := Int.ediv_nonneg (by omega) (by omega)
        have hml : (a + j) % x.seed.length < x.seed.length := Nat.mod_lt _ hsl0
        have hraw : Value.int .i64 (IntKind.i64.wrap (x.seed[(a + j) % x.seed.length] + 3 * ((((a + j : Nat) : Int)) / (x.seed.length : Int)))) = Value.int .i64 (x.raw (a + j)) := by
         unfold Pl.raw
         rw [q2, getD_I hml]
        have hrb : I64 (x.raw (a + j)) := wrap_bd _
        have hrb1 := hrb.1
        have hrb2 := hrb.2
        have hent : x.ent (x.at_ k + j) = if x.thin = false ∨ x.raw (a + j) % 3 = 0 then IntKind.i64.wrap ((x.raw (a + j)).tdiv 3 + x.raw (a + j)) % x.P else 0 := by
         unfold Pl.ent; rw [if_neg hse, hak]
        refine ws_skip (nx_then ?_)
        refine ws_cut (fun sl h6 ms' => ∃ (mx : Hp), sl = [(1, .pointer (some ⟨g1, 0, none⟩)), (2, .pointer (some ⟨g2, 0, none⟩)), (3, .pointer (some ⟨g3, 0, none⟩)), (5, .int .i64 ((a + (j + 1) : Nat) : Int)), (6, .int .i64 k), (7, .bool (x.bk k)), (10, .pointer (some ⟨g10, 0, none⟩)), (11, .int .i64 j)] ∧ h5 = h6 ∧ ms' = [mx, ma, mB, Blk g3 30 [.int .i64 x.P, vo, va], md, Blk g2 30 [.int .i64 0, .slice none 0 0, .slice none 0 0]] ∧ OwnL cI 1 3 mx xe (x.vals k (j + 1))) ?_ (fun s h ms hI => ?_)
        ·refine ws_block (ws_seq (ws_draw 15 fol (by kernel_rfl) rfl (wr_x (ox_fieldF fd26_3 rfl rfl) rfl rfl (wr_x (ox_load rfl underlying24 rfl rfl (hA _ _ rfl _)) rfl rfl (wr_x (ox_move rfl rfl) rfl rfl (wr_x (ox_fieldF fd26_3 rfl rfl) rfl rfl (wr_x (ox_load rfl underlying24 rfl rfl (hA _ _ rfl _)) rfl rfl (wr_x (ox_lenR hR.s.rd.any rfl underlying24 rfl) rfl rfl (wr_x (ox_remP rfl rfl rfl (by omega) (by omega)) rfl rfl (wr_x (ox_indexR ((a + j) % x.seed.length) hR.s.rd.any rfl underlying24 el3 rfl rfl (by omega) (by omega)) rfl rfl (wr_x (ox_load rfl underlying3 rfl rfl (hR.s.any.cell0 hml rfl)) rfl rfl (wr_x (ox_move rfl rfl) rfl rfl (wr_x (ox_fieldF fd26_3 rfl rfl) rfl rfl (wr_x (ox_load rfl underlying24 rfl rfl (hA _ _ rfl _)) rfl rfl (wr_x (ox_lenR hR.s.rd.any rfl underlying24 rfl) rfl rfl (wr_x (ox_quoP rfl rfl rfl (by omega) (by omega)) rfl rfl (wr_x (ox_mul rfl rfl rfl (by omega)) rfl rfl (wr_nil (Qx (ox_val (ox_addW rfl rfl rfl) hraw) rfl (Qm rfl (RtQ (Qm rfl (Qx (ox_add rfl rfl rfl (by omega)) rfl (Qm rfl (RtQ (Qx (ox_fieldF fd26_4 rfl rfl) rfl (Qx (ox_load rfl underlying4 rfl rfl (hA _ _ rfl _)) rfl (Qx (ox_not rfl rfl) rfl (Qm rfl ?_)))))))))))))))))))))))))))))
         refine wl_splitb (t := 125) rfl (fun ht => ?_) (fun ht => ?_)
         ·have ht : x.thin = false := by simpa using ht
          rw [if_pos (.inl ht)] at hent
          refine Qk rfl (Qk rfl (Qk rfl (Qx (ox_pick_t rfl rfl rfl) rfl (RnQ (ws_cond_t rfl (ws_draw 10 fol (by kernel_rfl) rfl (wr_x (ox_fieldF fd42_3 rfl rfl) rfl rfl (wr_x (ox_load rfl underlying24 rfl rfl (hC _ _ rfl _)) rfl rfl (wr_x (ox_move rfl rfl) rfl rfl (wr_x (ox_move rfl rfl) rfl rfl (wr_x (ox_quo rfl rfl rfl (by omega) (by omega)) rfl rfl (wr_x (ox_move rfl rfl) rfl rfl (wr_x (ox_addW rfl rfl rfl) rfl rfl (wr_x (ox_fieldF fd30_0 rfl rfl) rfl rfl (wr_x (ox_load rfl underlying3 rfl rfl (Cell.blk 3 (k := 0) rfl rfl)) rfl rfl ?_)))))))))))))))
          refine wr_x (ox_call rfl call34 rfl (mod22_v _ x.P (wrap_bd _) ⟨by omega, by omega⟩ _ _)) rfl rfl ?_
          refine wr_nil (Qx (ox_indexS (j) (hOx.rd (h := h2) (ms := [mx]) (List.Mem.head _)).rd rfl underlying24 el3 rfl rfl (by omega) (by omega)) rfl (wl_storeN 0 j hOx rfl el3 rfl rfl rfl (by omega) rfl rfl (fun m' hO' => wl_nil (nx_block ?_))))
          exact nx_meet _ ⟨m', rfl, rfl, rfl, by rw [← vals_set x k hjl, hent]; exact hO'⟩ Qs
         ·have ht : ¬ x.thin = false := by simpa using ht
          refine Qg (ox_move rfl rfl) rfl ?_
          refine Qg (ox_call rfl call34 rfl (mod22_v (x.raw (a + j)) 3 hrb ⟨by omega, by omega⟩ _ _)) rfl ?_
          refine Qg (ox_eqi rfl rfl rfl) rfl (Qx (ox_pick_f rfl rfl rfl) rfl (RnQ ?_))
          refine ws_if rfl (fun hm => ?_) (fun hm => ?_)
          ·rw [if_pos (.inr hm)] at hent
           refine ws_draw 10 fol (by kernel_rfl) rfl (wr_x (ox_fieldF fd42_3 rfl rfl) rfl rfl (wr_x (ox_load rfl underlying24 rfl rfl (hC _ _ rfl _)) rfl rfl (wr_x (ox_move rfl rfl) rfl rfl (wr_x (ox_move rfl rfl) rfl rfl (wr_x (ox_quo rfl rfl rfl (by omega) (by omega)) rfl rfl (wr_x (ox_move rfl rfl) rfl rfl (wr_x (ox_addW rfl rfl rfl) rfl rfl (wr_x (ox_fieldF fd30_0 rfl rfl) rfl rfl (wr_x (ox_load rfl underlying3 rfl rfl (Cell.blk 3 (k := 0) rfl rfl)) rfl rfl ?_)))))))))
           refine wr_x (ox_call rfl call34 rfl (mod22_v _ x.P (wrap_bd _) ⟨by omega, by omega⟩ _ _)) rfl rfl ?_
           refine wr_nil (Qx (ox_indexS (j) (hOx.rd (h := h2) (ms := [mx]) (List.Mem.head _)).rd rfl underlying24 el3 rfl rfl (by omega) (by omega)) rfl (wl_storeN 0 j hOx rfl el3 rfl rfl rfl (by omega) rfl rfl (fun m' hO' => wl_nil (nx_block ?_))))
           exact nx_meet _ ⟨m', rfl, rfl, rfl, by rw [← vals_set x k hjl, hent]; exact hO'⟩ Qs
          ·rw [if_neg (fun h => h.elim ht hm)] at hent
           refine ws_skip (nx_block ?_)
           exact nx_meet _ ⟨mx, rfl, rfl, rfl, by rw [← vals_skip x k hjl hent]; exact hOx⟩ Qs
        ·obtain ⟨mx, rfl, rfl, rfl, hOx⟩ := hI
         refine ws_region (Qm rfl (Qx (ox_add rfl rfl rfl (by omega)) rfl (Qm rfl (wl_nil ?_))))
         refine nx_round (x.rows k * x.cols k - (j + 1)) _ (by omega) ⟨j + 1, mx, rfl, rfl, rfl, rfl, by omega, hOx, fun e => absurd e hse⟩ Qs
       ·have hse : x.seed = [] := List.length_eq_zero_iff.1 (by omega)
        have hj1 := hj0 hse
        have ha2 := ha0 hse
        refine ws_exit (nx_then_exit (nx_then_exit (nx_block_exit ?_)))
        exact nx_meet _ ⟨a + j, mx, rfl, rfl, rfl, by rw [← vals_none x k j hse]; exact hOx, fun _ => by omega, fun e => absurd hse e⟩ Qs
      ·obtain rfl : j = x.rows k * x.cols k := by omega
       refine Qk rfl (Qk rfl (Qk rfl (Qk rfl (Qx (ox_pick_f rfl rfl rfl) rfl (RnQ (ws_cond_f rfl (ws_exit (nx_then_exit (nx_then_exit (nx_block_exit ?_))))))))))
       exact nx_meet _ ⟨a + x.rows k * x.cols k, mx, rfl, rfl, rfl, by rw [← vals_all x k]; exact hOx, fun e => by rw [ha0 e, hj0 e], fun e => by rw [ha1 e]; rfl⟩ Qs
     ·obtain ⟨a', mx, rfl, rfl, rfl, hOx, hb0, hb1⟩ := hI
      have ova : va.oneCell' = true := (hOa.rd (h := h) (ms := [ma]) (List.Mem.head _)).rd.one
      have hAl : A.length = k := by
       have h1 := congrArg List.length hAc
       rw [List.length_map, List.length_take, x.core_len] at h1; omega
      refine ws_region (Qx (ox_fieldF fd30_2 rfl rfl) rfl (Qx (ox_load rfl underlying28 rfl rfl (Cell.blk 3 (k := 2) rfl rfl)) rfl (Qm rfl (Qx (ox_loadG rfl underlying42 rfl el42 rfl rfl (Seg.any hS10)) rfl ?_))))
      refine Qx (ox_buildS st45 [.bool false, .int .i64 0, .int .i64 0, .int .i64 0, .slice none 0 0] [(0, _), (1, _)] [_, _, _, _, _] rfl el45 rfl rfl (by repeat (first | exact trivial | refine ⟨⟨rfl, rfl, rfl⟩, ?_⟩)) rfl) rfl ?_
      refine wl_buildSlice1 [_, _, _, _, _] rfl underlying28 el45 rfl (by rfl) rfl rfl (by omega) rfl rfl rfl (fun g146 => ?_)
      refine wl_appendV 2 hOa (RdL.one cA_len (x := ⟨x.bk k, x.mat k, xe⟩) (List.Mem.head _) rfl) rfl underlying28 el45 rfl (by omega) rfl rfl rfl (one_ar ox) (by simp only [List.length_singleton]; omega) (by simp only [List.length_singleton]; omega) rfl rfl rfl (fun va2 ma2 hOa2 => ?_)
      have ova2 : va2.oneCell' = true := (hOa2.rd (h := h) (ms := [ma2]) (List.Mem.head _)).rd.one
      refine Qx (ox_fieldF fd30_2 rfl rfl) rfl ?_
      refine wl_storeAt 4 _ rfl el28 rfl rfl (by assumption) rfl rfl (by (simp; done)) rfl rfl ?_
      refine wl_nil (nx_block (nx_then (ws_region (Qm rfl (Qx (ox_add rfl rfl rfl (by omega)) rfl (Qm rfl (wl_nil (nx_drop (nx_perm (ms' := [mB, mx, ma2, Blk g3 30 [.int .i64 x.P, vo, va2], md, Blk g2 30 [.int .i64 0, .slice none 0 0, .slice none 0 0]]) (perm3 _ _ _ |>.trans (List.Perm.refl _) |> fun p => (p.append_right [Blk g3 30 [.int .i64 x.P, vo, va2], md, Blk g2 30 [.int .i64 0, .slice none 0 0, .slice none 0 0]])) (nx_apart fun hap => ?_))))))))))
      have hd12 : mB.disj mx := (List.pairwise_cons.1 hap).1 _ List.mem_cons_self
      refine nx_join (nx_swap ?_)
      refine nx_round (x.dims.length - (k + 1)) _ (by omega) ⟨k + 1, a', va2, ma2, mB.join mx, A ++ [⟨x.bk k, x.mat k, xe⟩], rfl, rfl, Hp.le_trans lh l5, rfl, by omega, hOa2, ?_, hB.snoc hOx hd12, hb0, hb1⟩ Qs
      rw [List.map_append, hAc, Pl.core, ← List.map_take, ← List.map_take, List.take_range, List.take_range, show min (k + 1) (x.dims.length - 1) = min k (x.dims.length - 1) + 1 by omega, List.range_succ, List.map_append, show min k (x.dims.length - 1) = k by omega]
      rfl
   ·have hke : k = x.core.length := by rw [x.core_len]; omega
    rw [hke, List.take_length] at hAc
    have ovo : vo.oneCell' = true := (hO.rd (h := h) (ms := [md]) (List.Mem.head _)).rd.one
    have ova : va.oneCell' = true := (hOa.rd (h := h) (ms := [ma]) (List.Mem.head _)).rd.one
    refine ws_exit (nx_then_exit (nx_then_exit (nx_block_exit (nx_then (RsQ (Qx (ox_loadG rfl underlying30 rfl el30 rfl rfl (Seg.blk 2 rfl)) rfl ?_))))))
    refine wl_storeAll 4 [_, _, _] rfl el30 rfl rfl rfl (by (simp [ovo, ova]; done)) rfl rfl rfl rfl rfl ?_
    refine RnQ (ws_ret (nx_dropAt 2 rfl (nx_perm (ms' := [ma, md, mB, Blk g2 30 [.int .i64 x.P, vo, va]]) (List.Perm.cons _ (List.Perm.swap _ _ _)) ?_)))
    exact nx_retD (vs := [_, _, _]) 3 rfl rfl underlying30 rfl el30 rfl rfl (⟨Hp.le_trans l1 (Hp.le_trans l2 lh), vo, va, md, ma, mB, A, rfl, rfl, hO, hOa, hAc, hB⟩)
end Go.Proofs.YtdnelknieikbaaaGreat
set_option maxHeartbeats 2000000
namespace Go.Proofs.YtdnelknieikbaaaGreat
open Go.Proofs.Tryz
open Go.Eng Go.RowKit Go.Lin Go.Sort Go.Srt
theorem zig_rdz {x : Pl} {A : List Ar} {vdo vao : Value} {md ma mB h : Hp} (hOd : OwnL cI 1 3 md vdo x.dims) (kd : md.le h) (hOa : OwnL cA 5 45 ma vao A) (ka : ma.le h) (B : BagE A mB) (kB : mB.le h) : RdZ h vdo vao ⟨x.P, x.dims, A⟩ := by
 refine ⟨hOd.rdh kd, hOa.rdh ka, fun a ha => ?_⟩
 obtain ⟨k, hk, rfl⟩ := List.mem_iff_getElem.1 ha
 obtain ⟨y, hy, O⟩ := B.all k hk
 have e : A.getD k default = A[k] := by simp [List.getD, hk]
 rw [e] at O
 exact O.rdh (Hp.le_trans hy kB)
theorem zcheck_t {Z : Zz} {vd va vl : Value} {l : List SV} {h : Hp} (hR : RdZ h vd va Z) (hL : RdSs h vl l) (hN : l.length ≤ 1000000) (hC : ChkP Z l) (ms : List Hp) : FnV Tryz.prog 32 #[.agg #[.int .i64 Z.p, vd, va], vl] h ms (.bool true) := by
 have := fnv (zcheck_ok Z vd va l vl h hC.1.ok hR hL hN) ms
 rwa [bl_t hC] at this
theorem counted_bars {Z : Zz} {l : List SV} (hC : ChkP Z l) {bl : List Iv} (h : IsBars Z bl) : ivs (cntK l) (allK (cntK l) 100) = bl := by
 have h1 := allK_bars (cntK l) (cntK_bd hC.1 hC.2.1)
 have e : cntK l = (dcL l).ct := funext (cntK_ct hC.2.1)
 rw [e] at h1 ⊢
 exact (is_bars_uniq hC.1 hC.2.2 h h1).symm
theorem key_le {l : List SV} (hs : (l.map fun s => s.e.key).Pairwise fun a b => ¬ cmp2 b a < 0) {k : Nat} (h0 : 1 ≤ k) (hk : k < l.length) : (l[k - 1]'(by omega)).e.fr ≤ l[k].e.fr ∧ ((l[k - 1]'(by omega)).e.fr = l[k].e.fr → (l[k - 1]'(by omega)).e.to ≤ l[k].e.to) := by
 have h := List.pairwise_iff_getElem.1 hs (k - 1) k (by rw [List.length_map]; omega) (by rw [List.length_map]; exact hk) (by omega)
 rw [List.getElem_map, List.getElem_map, cmp2_lt] at h
 have h : ¬ (l[k].e.fr < (l[k - 1]'(by omega)).e.fr ∨ (l[k].e.fr = (l[k - 1]'(by omega)).e.fr ∧ l[k].e.to < (l[k - 1]'(by omega)).e.to)) := h
 omega
theorem lstrands_ok (x : Pl) (vd vs : Value) (h : Hp) (hx : x.Ok) (hR : RdP h vd vs x) : FnT Tryz.prog 10 #[.agg #[.int .u8 x.p, vd, .int .u16 x.back, vs, .bool x.thin]] h [] (fun r _ _ => r = .bool true) := by
 have o1 := hR.d.rd.one
 have o2 := hR.s.rd.one
 refine fn_enter func10 ntmps10 rfl rfl (fun w0 hw0 => ?_)
 simp only [argS]
 refine RsQ ?_
 refine wl_box [_, _, _, _, _] rfl rfl (by rfl) rfl rfl rfl (fun g1 => ?_)
 refine Qm rfl (RtQ (Qx (ox_call rfl call14 rfl (sanity_v _ _)) rfl (Qm rfl (RnQ (ws_freezeB fun h1 l1 hS1 => ?_)))))
 have hR := hR.up l1
 refine RsQ (Qx (ox_loadG rfl underlying26 rfl el26 rfl rfl (Seg.any hS1)) rfl (wl_call rfl call15 rfl (zig_ok x vd vs h1 hx hR) rfl rfl rfl (fun rz h2 ms2 l2 hF => ?_)))
 obtain ⟨l2', vdo, vao, md, ma, mB, A, rfl, rfl, hOd, hOa, hAc, hB⟩ := hF
 refine wl_freezeM fun h3 l3 k3 => (wl_freezeM fun h4 l4 k4 => (wl_freezeM fun h5 l5 k5 => ?_))
 have hRZ := zig_rdz (h := h5) hOd (Hp.le_trans k4 l5) hOa (Hp.le_trans k3 (Hp.le_trans l4 l5)) hB k5
 have hRt : (⟨x.P, x.dims, A⟩ : Zz).Rt := x.rt rfl rfl hAc
 generalize hZ : (⟨x.P, x.dims, A⟩ : Zz) = Z at hRZ hRt
 have hZp : x.P = Z.p := by rw [← hZ]
 rw [hZp]
 have o3 := hRZ.d.rd.one
 have o4 := hRZ.a.rd.one
 refine AlQ [.int .i64 0, .slice none 0 0, .slice none 0 0] rfl el30 rfl rfl (fun g4 => ?_)
 refine wl_storeAll 0 [_, _, _] rfl el30 rfl rfl rfl (by (simp [o3, o4]; done)) rfl rfl rfl rfl rfl ?_
 refine RnQ (ws_freezeB fun h6 l6 hS4 => ?_)
 have hRZ := hRZ.up l6
 refine RsQ (Qx (ox_loadG rfl underlying30 rfl el30 rfl rfl (Seg.any hS4)) rfl (wl_call rfl call30 rfl (strands_ok Z vdo vao h6 hRt.ok hRt hRZ) rfl rfl rfl (fun rs h7 ms7 l7 hF => ?_)))
 obtain ⟨l7', N, S, e, L, ml, mL, rfl, hN, hOl, hBg, hp, hV, hbd, hsrt⟩ := hF
 refine wl_freezeM fun h8 l8 k8 => (wl_freezeM fun h9 l9 k9 => ?_)
 have l69 := Hp.le_trans l7 (Hp.le_trans l8 l9)
 have hRZ := hRZ.up l69
 have hS4 := hS4.le l69
 obtain ⟨ls, hle, hRs, hCk⟩ := strands_sv hRt hOl (Hp.le_trans k8 l9) hBg k9 hp hV hbd
 have hlen : ls.length ≤ 1000000 := by
  have h1 := congrArg List.length hle
  have h2 := hp.length_eq
  simp only [List.length_map, List.length_range] at h1 h2
  omega
 have hsrt : (ls.map fun s => s.e.key).Pairwise fun a b => ¬ cmp2 b a < 0 := by
  have e1 : (ls.map fun s => s.e.key) = L.map fun l => (e l).key := by
   have := congrArg (List.map StE.key) hle
   rwa [List.map_map, List.map_map] at this
  rw [e1]; exact hsrt
 refine Qm rfl (RnQ (ws_seq (RsQ (Qm rfl (RnQ (ws_block ?_))))))
 refine ws_loop (fun q sl hh ms' => ∃ (k : Nat), q = ls.length + 1 - k ∧ sl = [(3, .bool true), (4, .pointer (some ⟨g4, 0, none⟩)), (5, rs), (6, .int .i64 k)] ∧ h9 = hh ∧ ms' = [] ∧ 1 ≤ k ∧ k ≤ ls.length + 1)
  (ls.length + 1 - 1) _ ⟨1, rfl, rfl, rfl, rfl, by omega, by omega⟩ Qs ?_
 rintro q sl hh ms' ⟨k, rfl, rfl, rfl, rfl, hk1, hk⟩
 refine ws_seq (RsQ (Qm rfl (Qm rfl (Qx (ox_lenR hRs.q.rd.any rfl underlying60 rfl) rfl (Qx (ox_lss rfl rfl rfl) rfl (RnQ ?_))))))
 refine ws_if rfl (fun hlt => ?_) (fun hlt => ?_)
 ·have hkl : k < ls.length := nat_lt_of hlt
  have hkp : k - 1 < ls.length := by omega
  have hord := key_le hsrt hk1 hkl
  refine ws_skip (nx_then (ws_seq (ws_block (ws_seq (ws_draw 37 fol (by kernel_rfl) rfl (wr_x (ox_move rfl rfl) rfl rfl (wr_x (ox_move rfl rfl) rfl rfl (wr_x (ox_sub rfl rfl rfl (by omega)) rfl rfl (wr_x (ox_indexR (k - 1) hRs.q.rd.any rfl underlying60 el64 rfl rfl (by omega) (by omega)) rfl rfl (wr_x (ox_fieldF fd64_0 rfl rfl) rfl rfl (wr_x (ox_load rfl underlying3 rfl rfl (hRs.q.any.cell hkp (f := 0) rfl)) rfl rfl (wr_x (ox_move rfl rfl) rfl rfl (wr_x (ox_move rfl rfl) rfl rfl (wr_x (ox_indexR (k) hRs.q.rd.any rfl underlying60 el64 rfl rfl (by omega) (by omega)) rfl rfl (wr_x (ox_fieldF fd64_0 rfl rfl) rfl rfl (wr_x (ox_load rfl underlying3 rfl rfl (hRs.q.any.cell hkl (f := 0) rfl)) rfl rfl (wr_x (ox_gtr rfl rfl rfl) rfl rfl (wr_x (ox_move rfl rfl) rfl rfl ?_))))))))))))))))))
  refine wr_split (t := 30) rfl (fun hs1 => ?_) (fun hs1 => ?_)
  ·exact absurd hs1 (by omega)
  ·refine wr_gx (ox_move rfl rfl) rfl rfl rfl rfl (wr_gx (ox_move rfl rfl) rfl rfl rfl rfl (wr_gx (ox_sub rfl rfl rfl (by omega)) rfl rfl rfl rfl (wr_gx (ox_indexR (k - 1) hRs.q.rd.any rfl underlying60 el64 rfl rfl (by omega) (by omega)) rfl rfl rfl rfl (wr_gx (ox_fieldF fd64_0 rfl rfl) rfl rfl rfl rfl (wr_gx (ox_load rfl underlying3 rfl rfl (hRs.q.any.cell hkp (f := 0) rfl)) rfl rfl rfl rfl (wr_gx (ox_move rfl rfl) rfl rfl rfl rfl (wr_gx (ox_move rfl rfl) rfl rfl rfl rfl (wr_gx (ox_indexR (k) hRs.q.rd.any rfl underlying60 el64 rfl rfl (by omega) (by omega)) rfl rfl rfl rfl (wr_gx (ox_fieldF fd64_0 rfl rfl) rfl rfl rfl rfl (wr_gx (ox_load rfl underlying3 rfl rfl (hRs.q.any.cell hkl (f := 0) rfl)) rfl rfl rfl rfl (wr_gx (ox_eqi rfl rfl rfl) rfl rfl rfl rfl (wr_gx (ox_move rfl rfl) rfl rfl rfl rfl ?_))))))))))))
   refine wr_split (t := 43) rfl (fun hs2 => ?_) (fun hs2 => ?_)
   ·refine wr_gx (ox_move rfl rfl) rfl rfl rfl rfl (wr_gx (ox_move rfl rfl) rfl rfl rfl rfl (wr_gx (ox_sub rfl rfl rfl (by omega)) rfl rfl rfl rfl (wr_gx (ox_indexR (k - 1) hRs.q.rd.any rfl underlying60 el64 rfl rfl (by omega) (by omega)) rfl rfl rfl rfl (wr_gx (ox_fieldF fd64_1 rfl rfl) rfl rfl rfl rfl (wr_gx (ox_load rfl underlying3 rfl rfl (hRs.q.any.cell hkp (f := 1) rfl)) rfl rfl rfl rfl (wr_gx (ox_move rfl rfl) rfl rfl rfl rfl (wr_gx (ox_move rfl rfl) rfl rfl rfl rfl (wr_gx (ox_indexR (k) hRs.q.rd.any rfl underlying60 el64 rfl rfl (by omega) (by omega)) rfl rfl rfl rfl (wr_gx (ox_fieldF fd64_1 rfl rfl) rfl rfl rfl rfl (wr_gx (ox_load rfl underlying3 rfl rfl (hRs.q.any.cell hkl (f := 1) rfl)) rfl rfl rfl rfl (wr_nil (Qg (ox_gtr rfl rfl rfl) rfl (Qg (ox_pick_t rfl rfl rfl) rfl (Qx (ox_pick_f rfl rfl rfl) rfl (RnQ ?_)))))))))))))))
    refine ws_if rfl (fun hs3 => ?_) (fun hs3 => ?_)
    ·exact absurd hs3 (by omega)
    ·refine ws_skip (nx_block (nx_then (ws_region (Qm rfl (Qx (ox_add rfl rfl rfl (by omega)) rfl (Qm rfl (wl_nil ?_)))))))
     refine nx_round (ls.length + 1 - (k + 1)) _ (by omega) ⟨k + 1, rfl, rfl, rfl, rfl, by omega, by omega⟩ Qs
   ·refine wr_skip rfl rfl rfl rfl rfl (wr_skip rfl rfl rfl rfl rfl (wr_skip rfl rfl rfl rfl rfl (wr_skip rfl rfl rfl rfl rfl (wr_skip rfl rfl rfl rfl rfl (wr_skip rfl rfl rfl rfl rfl (wr_skip rfl rfl rfl rfl rfl (wr_skip rfl rfl rfl rfl rfl (wr_skip rfl rfl rfl rfl rfl (wr_skip rfl rfl rfl rfl rfl (wr_skip rfl rfl rfl rfl rfl (wr_nil (Qk rfl (Qg (ox_pick_f rfl rfl rfl) rfl (Qx (ox_pick_f rfl rfl rfl) rfl (RnQ (ws_cond_f rfl (ws_skip (nx_block (nx_then (ws_region (Qm rfl (Qx (ox_add rfl rfl rfl (by omega)) rfl (Qm rfl (wl_nil ?_))))))))))))))))))))))))
    refine nx_round (ls.length + 1 - (k + 1)) _ (by omega) ⟨k + 1, rfl, rfl, rfl, rfl, by omega, by omega⟩ Qs
 ·refine ws_exit (nx_then_exit (nx_then_exit (nx_block_exit (nx_then (ws_seq (ws_stab (n := 19) (bs := [true, false, false, false, false, false, false, false, false, false, false, false, false, false, false, false, false, false, false]) [true] fol (by kernel_rfl) (by kernel_rfl) rfl rfl (Qp rfl (ox_move rfl rfl) ?_)))))))
  unfold PZs
  simp only [List.cons_append, List.nil_append]
  refine Qo 1 rfl (Qm rfl (Qw (wb_step [2, 3] (by kernel_rfl) rfl ?_)))
  refine wbl_cons rfl ?_ ?_
  ·refine Qg (ox_loadG rfl underlying30 rfl el30 rfl rfl (Seg.any hS4)) rfl (Qw (Qo 3 rfl (Qg (ox_move rfl rfl) rfl (Qw (Qo 4 rfl (Qg (ox_call rfl call31 rfl (rcheck_t hRZ hRs hlen hCk _)) rfl (Qw (Qo 5 rfl (Qx (ox_pick_t rfl rfl rfl) rfl (Qw (wb_float 6 64 (by kernel_rfl) rfl (Hp.le_refl _) rfl (ox_move rfl rfl) (wb_step [7, 8] (by kernel_rfl) rfl ?_))))))))))))
   refine wbl_cons rfl ?_ ?_
   ·refine Qg (ox_loadG rfl underlying30 rfl el30 rfl rfl (Seg.any hS4)) rfl (Qw (Qo 8 rfl (Qg (ox_move rfl rfl) rfl (Qw (Qo 9 rfl (Qg (ox_call rfl call32 rfl (zcheck_t hRZ hRs hlen hCk _)) rfl (Qw (Qo 10 rfl (Qx (ox_pick_t rfl rfl rfl) rfl (Qw (wb_float 11 69 (by kernel_rfl) rfl (Hp.le_refl _) rfl (ox_move rfl rfl) (wb_step [12, 14] (by kernel_rfl) rfl ?_))))))))))))
    refine wbl_cons rfl ?_ ?_
    ·refine Qg (ox_move rfl rfl) rfl (Qw (wb_step [13, 14] (by kernel_rfl) rfl ?_))
     refine wbl_cons rfl ?_ ?_
     ·refine wl_yes rfl rfl rfl rfl (wl_call rfl call33 rfl (counted_ok ls rs h9 hRs hlen) rfl rfl rfl (fun rc h10 ms10 l10 hF => ?_))
      obtain ⟨rfl, mc, rfl, hOc⟩ := hF
      refine wl_freezeL hOc fun h11 l911 hRc => ?_
      have hRZ11 := hRZ.up l911
      refine Qa (Qo 14 rfl (Qg (ox_loadG rfl underlying30 rfl el30 rfl rfl (Seg.any (hS4.le l911))) rfl (Qa (Qo 15 rfl (wl_yes rfl rfl rfl rfl (wl_call rfl call17 rfl (bars_ok Z vdo vao h11 hRt.ok hRZ11) rfl rfl rfl (fun rb h12 ms12 l12 hF => ?_)))))))
      obtain ⟨l12', bl', mb, lst, rfl, hOb, hlb, hSp, hBs⟩ := hF
      refine wl_freezeL hOb fun h13 l13 hRb => ?_
      have hRc := hRc.up (Hp.le_trans l12 l13)
      have l913 := Hp.le_trans l911 (Hp.le_trans l12 l13)
      refine Qa (Qo 16 rfl (Qg (ox_call rfl call16 rfl (same_t hRc hRb (counted_bars hCk (bars_is hSp hBs)) _)) rfl (Qa (Qo 17 rfl (Qx (ox_pick_t rfl rfl rfl) rfl (Qa (Qo 18 rfl (Qm rfl (Qa (Qe (nx_then (ws_ret ?_))))))))))))
      exact nx_ret1 rfl rfl rfl
     refine wbl_cons rfl ?_ ?_
     ·refine Qg (ox_loadG rfl underlying30 rfl el30 rfl rfl (Seg.any hS4)) rfl (Qw (Qo 13 rfl (wl_yes rfl rfl rfl rfl (wl_call rfl call33 rfl (counted_ok ls rs h9 hRs hlen) rfl rfl rfl (fun rc h10 ms10 l10 hF => ?_)))))
      obtain ⟨rfl, mc, rfl, hOc⟩ := hF
      refine wl_freezeL hOc fun h11 l911 hRc => ?_
      have hRZ11 := hRZ.up l911
      refine Qa (Qo 15 rfl (wl_yes rfl rfl rfl rfl (wl_call rfl call17 rfl (bars_ok Z vdo vao h11 hRt.ok hRZ11) rfl rfl rfl (fun rb h12 ms12 l12 hF => ?_))))
      obtain ⟨l12', bl', mb, lst, rfl, hOb, hlb, hSp, hBs⟩ := hF
      refine wl_freezeL hOb fun h13 l13 hRb => ?_
      have hRc := hRc.up (Hp.le_trans l12 l13)
      have l913 := Hp.le_trans l911 (Hp.le_trans l12 l13)
      refine Qa (Qo 16 rfl (Qg (ox_call rfl call16 rfl (same_t hRc hRb (counted_bars hCk (bars_is hSp hBs)) _)) rfl (Qa (Qo 17 rfl (Qx (ox_pick_t rfl rfl rfl) rfl (Qa (Qo 18 rfl (Qm rfl (Qa (Qe (nx_then (ws_ret ?_))))))))))))
      exact nx_ret1 rfl rfl rfl
     exact wbl_nil
    refine wbl_cons rfl ?_ ?_
    ·refine Qg (ox_loadG rfl underlying30 rfl el30 rfl rfl (Seg.any hS4)) rfl (Qw (Qo 12 rfl (Qg (ox_move rfl rfl) rfl (Qw (Qo 13 rfl (wl_yes rfl rfl rfl rfl (wl_call rfl call33 rfl (counted_ok ls rs h9 hRs hlen) rfl rfl rfl (fun rc h10 ms10 l10 hF => ?_))))))))
     obtain ⟨rfl, mc, rfl, hOc⟩ := hF
     refine wl_freezeL hOc fun h11 l911 hRc => ?_
     have hRZ11 := hRZ.up l911
     refine Qa (Qo 15 rfl (wl_yes rfl rfl rfl rfl (wl_call rfl call17 rfl (bars_ok Z vdo vao h11 hRt.ok hRZ11) rfl rfl rfl (fun rb h12 ms12 l12 hF => ?_))))
     obtain ⟨l12', bl', mb, lst, rfl, hOb, hlb, hSp, hBs⟩ := hF
     refine wl_freezeL hOb fun h13 l13 hRb => ?_
     have hRc := hRc.up (Hp.le_trans l12 l13)
     have l913 := Hp.le_trans l911 (Hp.le_trans l12 l13)
     refine Qa (Qo 16 rfl (Qg (ox_call rfl call16 rfl (same_t hRc hRb (counted_bars hCk (bars_is hSp hBs)) _)) rfl (Qa (Qo 17 rfl (Qx (ox_pick_t rfl rfl rfl) rfl (Qa (Qo 18 rfl (Qm rfl (Qa (Qe (nx_then (ws_ret ?_))))))))))))
     exact nx_ret1 rfl rfl rfl
    exact wbl_nil
   refine wbl_cons rfl ?_ ?_
   ·refine Qg (ox_move rfl rfl) rfl (Qw (Qo 7 rfl (Qg (ox_loadG rfl underlying30 rfl el30 rfl rfl (Seg.any hS4)) rfl (Qw (Qo 9 rfl (Qg (ox_call rfl call32 rfl (zcheck_t hRZ hRs hlen hCk _)) rfl (Qw (Qo 10 rfl (Qx (ox_pick_t rfl rfl rfl) rfl (Qw (wb_float 11 69 (by kernel_rfl) rfl (Hp.le_refl _) rfl (ox_move rfl rfl) (wb_step [12, 14] (by kernel_rfl) rfl ?_))))))))))))
    refine wbl_cons rfl ?_ ?_
    ·refine Qg (ox_move rfl rfl) rfl (Qw (wb_step [13, 14] (by kernel_rfl) rfl ?_))
     refine wbl_cons rfl ?_ ?_
     ·refine wl_yes rfl rfl rfl rfl (wl_call rfl call33 rfl (counted_ok ls rs h9 hRs hlen) rfl rfl rfl (fun rc h10 ms10 l10 hF => ?_))
      obtain ⟨rfl, mc, rfl, hOc⟩ := hF
      refine wl_freezeL hOc fun h11 l911 hRc => ?_
      have hRZ11 := hRZ.up l911
      refine Qa (Qo 14 rfl (Qg (ox_loadG rfl underlying30 rfl el30 rfl rfl (Seg.any (hS4.le l911))) rfl (Qa (Qo 15 rfl (wl_yes rfl rfl rfl rfl (wl_call rfl call17 rfl (bars_ok Z vdo vao h11 hRt.ok hRZ11) rfl rfl rfl (fun rb h12 ms12 l12 hF => ?_)))))))
      obtain ⟨l12', bl', mb, lst, rfl, hOb, hlb, hSp, hBs⟩ := hF
      refine wl_freezeL hOb fun h13 l13 hRb => ?_
      have hRc := hRc.up (Hp.le_trans l12 l13)
      have l913 := Hp.le_trans l911 (Hp.le_trans l12 l13)
      refine Qa (Qo 16 rfl (Qg (ox_call rfl call16 rfl (same_t hRc hRb (counted_bars hCk (bars_is hSp hBs)) _)) rfl (Qa (Qo 17 rfl (Qx (ox_pick_t rfl rfl rfl) rfl (Qa (Qo 18 rfl (Qm rfl (Qa (Qe (nx_then (ws_ret ?_))))))))))))
      exact nx_ret1 rfl rfl rfl
     refine wbl_cons rfl ?_ ?_
     ·refine Qg (ox_loadG rfl underlying30 rfl el30 rfl rfl (Seg.any hS4)) rfl (Qw (Qo 13 rfl (wl_yes rfl rfl rfl rfl (wl_call rfl call33 rfl (counted_ok ls rs h9 hRs hlen) rfl rfl rfl (fun rc h10 ms10 l10 hF => ?_)))))
      obtain ⟨rfl, mc, rfl, hOc⟩ := hF
      refine wl_freezeL hOc fun h11 l911 hRc => ?_
      have hRZ11 := hRZ.up l911
      refine Qa (Qo 15 rfl (wl_yes rfl rfl rfl rfl (wl_call rfl call17 rfl (bars_ok Z vdo vao h11 hRt.ok hRZ11) rfl rfl rfl (fun rb h12 ms12 l12 hF => ?_))))
      obtain ⟨l12', bl', mb, lst, rfl, hOb, hlb, hSp, hBs⟩ := hF
      refine wl_freezeL hOb fun h13 l13 hRb => ?_
      have hRc := hRc.up (Hp.le_trans l12 l13)
      have l913 := Hp.le_trans l911 (Hp.le_trans l12 l13)
      refine Qa (Qo 16 rfl (Qg (ox_call rfl call16 rfl (same_t hRc hRb (counted_bars hCk (bars_is hSp hBs)) _)) rfl (Qa (Qo 17 rfl (Qx (ox_pick_t rfl rfl rfl) rfl (Qa (Qo 18 rfl (Qm rfl (Qa (Qe (nx_then (ws_ret ?_))))))))))))
      exact nx_ret1 rfl rfl rfl
     exact wbl_nil
    refine wbl_cons rfl ?_ ?_
    ·refine Qg (ox_loadG rfl underlying30 rfl el30 rfl rfl (Seg.any hS4)) rfl (Qw (Qo 12 rfl (Qg (ox_move rfl rfl) rfl (Qw (Qo 13 rfl (wl_yes rfl rfl rfl rfl (wl_call rfl call33 rfl (counted_ok ls rs h9 hRs hlen) rfl rfl rfl (fun rc h10 ms10 l10 hF => ?_))))))))
     obtain ⟨rfl, mc, rfl, hOc⟩ := hF
     refine wl_freezeL hOc fun h11 l911 hRc => ?_
     have hRZ11 := hRZ.up l911
     refine Qa (Qo 15 rfl (wl_yes rfl rfl rfl rfl (wl_call rfl call17 rfl (bars_ok Z vdo vao h11 hRt.ok hRZ11) rfl rfl rfl (fun rb h12 ms12 l12 hF => ?_))))
     obtain ⟨l12', bl', mb, lst, rfl, hOb, hlb, hSp, hBs⟩ := hF
     refine wl_freezeL hOb fun h13 l13 hRb => ?_
     have hRc := hRc.up (Hp.le_trans l12 l13)
     have l913 := Hp.le_trans l911 (Hp.le_trans l12 l13)
     refine Qa (Qo 16 rfl (Qg (ox_call rfl call16 rfl (same_t hRc hRb (counted_bars hCk (bars_is hSp hBs)) _)) rfl (Qa (Qo 17 rfl (Qx (ox_pick_t rfl rfl rfl) rfl (Qa (Qo 18 rfl (Qm rfl (Qa (Qe (nx_then (ws_ret ?_))))))))))))
     exact nx_ret1 rfl rfl rfl
    exact wbl_nil
   exact wbl_nil
  refine wbl_cons rfl ?_ ?_
  ·refine Qg (ox_move rfl rfl) rfl (Qw (Qo 2 rfl (Qg (ox_loadG rfl underlying30 rfl el30 rfl rfl (Seg.any hS4)) rfl (Qw (Qo 4 rfl (Qg (ox_call rfl call31 rfl (rcheck_t hRZ hRs hlen hCk _)) rfl (Qw (Qo 5 rfl (Qx (ox_pick_t rfl rfl rfl) rfl (Qw (wb_float 6 64 (by kernel_rfl) rfl (Hp.le_refl _) rfl (ox_move rfl rfl) (wb_step [7, 8] (by kernel_rfl) rfl ?_))))))))))))
   refine wbl_cons rfl ?_ ?_
   ·refine Qg (ox_loadG rfl underlying30 rfl el30 rfl rfl (Seg.any hS4)) rfl (Qw (Qo 8 rfl (Qg (ox_move rfl rfl) rfl (Qw (Qo 9 rfl (Qg (ox_call rfl call32 rfl (zcheck_t hRZ hRs hlen hCk _)) rfl (Qw (Qo 10 rfl (Qx (ox_pick_t rfl rfl rfl) rfl (Qw (wb_float 11 69 (by kernel_rfl) rfl (Hp.le_refl _) rfl (ox_move rfl rfl) (wb_step [12, 14] (by kernel_rfl) rfl ?_))))))))))))
    refine wbl_cons rfl ?_ ?_
    ·refine Qg (ox_move rfl rfl) rfl (Qw (wb_step [13, 14] (by kernel_rfl) rfl ?_))
     refine wbl_cons rfl ?_ ?_
     ·refine wl_yes rfl rfl rfl rfl (wl_call rfl call33 rfl (counted_ok ls rs h9 hRs hlen) rfl rfl rfl (fun rc h10 ms10 l10 hF => ?_))
      obtain ⟨rfl, mc, rfl, hOc⟩ := hF
      refine wl_freezeL hOc fun h11 l911 hRc => ?_
      have hRZ11 := hRZ.up l911
      refine Qa (Qo 14 rfl (Qg (ox_loadG rfl underlying30 rfl el30 rfl rfl (Seg.any (hS4.le l911))) rfl (Qa (Qo 15 rfl (wl_yes rfl rfl rfl rfl (wl_call rfl call17 rfl (bars_ok Z vdo vao h11 hRt.ok hRZ11) rfl rfl rfl (fun rb h12 ms12 l12 hF => ?_)))))))
      obtain ⟨l12', bl', mb, lst, rfl, hOb, hlb, hSp, hBs⟩ := hF
      refine wl_freezeL hOb fun h13 l13 hRb => ?_
      have hRc := hRc.up (Hp.le_trans l12 l13)
      have l913 := Hp.le_trans l911 (Hp.le_trans l12 l13)
      refine Qa (Qo 16 rfl (Qg (ox_call rfl call16 rfl (same_t hRc hRb (counted_bars hCk (bars_is hSp hBs)) _)) rfl (Qa (Qo 17 rfl (Qx (ox_pick_t rfl rfl rfl) rfl (Qa (Qo 18 rfl (Qm rfl (Qa (Qe (nx_then (ws_ret ?_))))))))))))
      exact nx_ret1 rfl rfl rfl
     refine wbl_cons rfl ?_ ?_
     ·refine Qg (ox_loadG rfl underlying30 rfl el30 rfl rfl (Seg.any hS4)) rfl (Qw (Qo 13 rfl (wl_yes rfl rfl rfl rfl (wl_call rfl call33 rfl (counted_ok ls rs h9 hRs hlen) rfl rfl rfl (fun rc h10 ms10 l10 hF => ?_)))))
      obtain ⟨rfl, mc, rfl, hOc⟩ := hF
      refine wl_freezeL hOc fun h11 l911 hRc => ?_
      have hRZ11 := hRZ.up l911
      refine Qa (Qo 15 rfl (wl_yes rfl rfl rfl rfl (wl_call rfl call17 rfl (bars_ok Z vdo vao h11 hRt.ok hRZ11) rfl rfl rfl (fun rb h12 ms12 l12 hF => ?_))))
      obtain ⟨l12', bl', mb, lst, rfl, hOb, hlb, hSp, hBs⟩ := hF
      refine wl_freezeL hOb fun h13 l13 hRb => ?_
      have hRc := hRc.up (Hp.le_trans l12 l13)
      have l913 := Hp.le_trans l911 (Hp.le_trans l12 l13)
      refine Qa (Qo 16 rfl (Qg (ox_call rfl call16 rfl (same_t hRc hRb (counted_bars hCk (bars_is hSp hBs)) _)) rfl (Qa (Qo 17 rfl (Qx (ox_pick_t rfl rfl rfl) rfl (Qa (Qo 18 rfl (Qm rfl (Qa (Qe (nx_then (ws_ret ?_))))))))))))
      exact nx_ret1 rfl rfl rfl
     exact wbl_nil
    refine wbl_cons rfl ?_ ?_
    ·refine Qg (ox_loadG rfl underlying30 rfl el30 rfl rfl (Seg.any hS4)) rfl (Qw (Qo 12 rfl (Qg (ox_move rfl rfl) rfl (Qw (Qo 13 rfl (wl_yes rfl rfl rfl rfl (wl_call rfl call33 rfl (counted_ok ls rs h9 hRs hlen) rfl rfl rfl (fun rc h10 ms10 l10 hF => ?_))))))))
     obtain ⟨rfl, mc, rfl, hOc⟩ := hF
     refine wl_freezeL hOc fun h11 l911 hRc => ?_
     have hRZ11 := hRZ.up l911
     refine Qa (Qo 15 rfl (wl_yes rfl rfl rfl rfl (wl_call rfl call17 rfl (bars_ok Z vdo vao h11 hRt.ok hRZ11) rfl rfl rfl (fun rb h12 ms12 l12 hF => ?_))))
     obtain ⟨l12', bl', mb, lst, rfl, hOb, hlb, hSp, hBs⟩ := hF
     refine wl_freezeL hOb fun h13 l13 hRb => ?_
     have hRc := hRc.up (Hp.le_trans l12 l13)
     have l913 := Hp.le_trans l911 (Hp.le_trans l12 l13)
     refine Qa (Qo 16 rfl (Qg (ox_call rfl call16 rfl (same_t hRc hRb (counted_bars hCk (bars_is hSp hBs)) _)) rfl (Qa (Qo 17 rfl (Qx (ox_pick_t rfl rfl rfl) rfl (Qa (Qo 18 rfl (Qm rfl (Qa (Qe (nx_then (ws_ret ?_))))))))))))
     exact nx_ret1 rfl rfl rfl
    exact wbl_nil
   refine wbl_cons rfl ?_ ?_
   ·refine Qg (ox_move rfl rfl) rfl (Qw (Qo 7 rfl (Qg (ox_loadG rfl underlying30 rfl el30 rfl rfl (Seg.any hS4)) rfl (Qw (Qo 9 rfl (Qg (ox_call rfl call32 rfl (zcheck_t hRZ hRs hlen hCk _)) rfl (Qw (Qo 10 rfl (Qx (ox_pick_t rfl rfl rfl) rfl (Qw (wb_float 11 69 (by kernel_rfl) rfl (Hp.le_refl _) rfl (ox_move rfl rfl) (wb_step [12, 14] (by kernel_rfl) rfl ?_))))))))))))
    refine wbl_cons rfl ?_ ?_
    ·refine Qg (ox_move rfl rfl) rfl (Qw (wb_step [13, 14] (by kernel_rfl) rfl ?_))
     refine wbl_cons rfl ?_ ?_
     ·refine wl_yes rfl rfl rfl rfl (wl_call rfl call33 rfl (counted_ok ls rs h9 hRs hlen) rfl rfl rfl (fun rc h10 ms10 l10 hF => ?_))
      obtain ⟨rfl, mc, rfl, hOc⟩ := hF
      refine wl_freezeL hOc fun h11 l911 hRc => ?_
      have hRZ11 := hRZ.up l911
      refine Qa (Qo 14 rfl (Qg (ox_loadG rfl underlying30 rfl el30 rfl rfl (Seg.any (hS4.le l911))) rfl (Qa (Qo 15 rfl (wl_yes rfl rfl rfl rfl (wl_call rfl call17 rfl (bars_ok Z vdo vao h11 hRt.ok hRZ11) rfl rfl rfl (fun rb h12 ms12 l12 hF => ?_)))))))
      obtain ⟨l12', bl', mb, lst, rfl, hOb, hlb, hSp, hBs⟩ := hF
      refine wl_freezeL hOb fun h13 l13 hRb => ?_
      have hRc := hRc.up (Hp.le_trans l12 l13)
      have l913 := Hp.le_trans l911 (Hp.le_trans l12 l13)
      refine Qa (Qo 16 rfl (Qg (ox_call rfl call16 rfl (same_t hRc hRb (counted_bars hCk (bars_is hSp hBs)) _)) rfl (Qa (Qo 17 rfl (Qx (ox_pick_t rfl rfl rfl) rfl (Qa (Qo 18 rfl (Qm rfl (Qa (Qe (nx_then (ws_ret ?_))))))))))))
      exact nx_ret1 rfl rfl rfl
     refine wbl_cons rfl ?_ ?_
     ·refine Qg (ox_loadG rfl underlying30 rfl el30 rfl rfl (Seg.any hS4)) rfl (Qw (Qo 13 rfl (wl_yes rfl rfl rfl rfl (wl_call rfl call33 rfl (counted_ok ls rs h9 hRs hlen) rfl rfl rfl (fun rc h10 ms10 l10 hF => ?_)))))
      obtain ⟨rfl, mc, rfl, hOc⟩ := hF
      refine wl_freezeL hOc fun h11 l911 hRc => ?_
      have hRZ11 := hRZ.up l911
      refine Qa (Qo 15 rfl (wl_yes rfl rfl rfl rfl (wl_call rfl call17 rfl (bars_ok Z vdo vao h11 hRt.ok hRZ11) rfl rfl rfl (fun rb h12 ms12 l12 hF => ?_))))
      obtain ⟨l12', bl', mb, lst, rfl, hOb, hlb, hSp, hBs⟩ := hF
      refine wl_freezeL hOb fun h13 l13 hRb => ?_
      have hRc := hRc.up (Hp.le_trans l12 l13)
      have l913 := Hp.le_trans l911 (Hp.le_trans l12 l13)
      refine Qa (Qo 16 rfl (Qg (ox_call rfl call16 rfl (same_t hRc hRb (counted_bars hCk (bars_is hSp hBs)) _)) rfl (Qa (Qo 17 rfl (Qx (ox_pick_t rfl rfl rfl) rfl (Qa (Qo 18 rfl (Qm rfl (Qa (Qe (nx_then (ws_ret ?_))))))))))))
      exact nx_ret1 rfl rfl rfl
     exact wbl_nil
    refine wbl_cons rfl ?_ ?_
    ·refine Qg (ox_loadG rfl underlying30 rfl el30 rfl rfl (Seg.any hS4)) rfl (Qw (Qo 12 rfl (Qg (ox_move rfl rfl) rfl (Qw (Qo 13 rfl (wl_yes rfl rfl rfl rfl (wl_call rfl call33 rfl (counted_ok ls rs h9 hRs hlen) rfl rfl rfl (fun rc h10 ms10 l10 hF => ?_))))))))
     obtain ⟨rfl, mc, rfl, hOc⟩ := hF
     refine wl_freezeL hOc fun h11 l911 hRc => ?_
     have hRZ11 := hRZ.up l911
     refine Qa (Qo 15 rfl (wl_yes rfl rfl rfl rfl (wl_call rfl call17 rfl (bars_ok Z vdo vao h11 hRt.ok hRZ11) rfl rfl rfl (fun rb h12 ms12 l12 hF => ?_))))
     obtain ⟨l12', bl', mb, lst, rfl, hOb, hlb, hSp, hBs⟩ := hF
     refine wl_freezeL hOb fun h13 l13 hRb => ?_
     have hRc := hRc.up (Hp.le_trans l12 l13)
     have l913 := Hp.le_trans l911 (Hp.le_trans l12 l13)
     refine Qa (Qo 16 rfl (Qg (ox_call rfl call16 rfl (same_t hRc hRb (counted_bars hCk (bars_is hSp hBs)) _)) rfl (Qa (Qo 17 rfl (Qx (ox_pick_t rfl rfl rfl) rfl (Qa (Qo 18 rfl (Qm rfl (Qa (Qe (nx_then (ws_ret ?_))))))))))))
     exact nx_ret1 rfl rfl rfl
    exact wbl_nil
   exact wbl_nil
  exact wbl_nil
end Go.Proofs.YtdnelknieikbaaaGreat
namespace Go.Eng
open Go.RowKit Go.ChangeShapes Go.WideShapes Go.Deep
def whole (w : World) : Hp := fun g => w.heap[g]?
theorem St.whole (w : World) : St w (whole w) [] := ⟨fun _ _ h => h, by simp, by simp, List.Pairwise.nil⟩
theorem Cell.ofW {w : World} {ms : List Hp} {a : Addr} {v : Value} (h : w.cell? a = some v) : Cell (whole w) ms a v := by
  unfold World.cell? at h
  split at h
  · rename_i c el fr hb
    split at h
    · cases h
    · rename_i hs
      exact ⟨by simpa using hs, c, el, fr, .inl hb, h⟩
  · cases h
theorem exists_list {α : Type} {Q : Nat → α → Prop} : ∀ n, (∀ i, i < n → ∃ a, Q i a) → ∃ l : List α, l.length = n ∧ ∀ i (hi : i < l.length), Q i l[i]
  | 0, _ => ⟨[], rfl, fun i hi => by simp at hi⟩
  | n + 1, h => by
    obtain ⟨l, hl, hq⟩ := exists_list n fun i hi => h i (by omega)
    obtain ⟨a, ha⟩ := h n (by omega)
    refine ⟨l ++ [a], by simp [hl], fun i hi => ?_⟩
    rw [List.getElem_append]
    split
    · exact hq i (by assumption)
    · have : i = n := by simp at hi; omega
      subst this; simpa using ha
section
variable {H : Type} {enc : TypeId × Value → H} {P : Program} {w : World} {base : Nat} {spare : Nat → Bool} {held : Bool}
theorem open_rdl {α : Type} {F : α → List Value} {Ok : α → Prop} {sz : Nat} {t e : TypeId} {fuel : Nat} {v : Value} {x : DataW H × List MemPlace} (ht : P.underlying t = some (.slice e)) (hC : P.cellsOf e = sz) (hF : ∀ x, (F x).length = sz) (hsz : 0 < sz)
    (hel : ∀ n cs y, DataW.trod enc P w base spare held n e cs = some y → ∃ a, cs = F a ∧ Ok a) (h : DataW.trod enc P w base spare held fuel t [v] = some x) : ∃ l, RdL F sz (whole w) [] v l ∧ ∀ a ∈ l, Ok a := by
  rcases open_slice ht h with ⟨h0, _⟩ | ⟨a, len, cap, m, n, D, Pl, hcs, hb, hl, hm, hmm, hx, hi⟩
  · simp only [List.cons.injEq, and_true] at h0
    subst h0
    exact ⟨[], ⟨⟨none, 0, rfl, by simp, by omega, by simp, fun h => by simp at h⟩, hF⟩, by simp⟩
  · simp only [List.cons.injEq, and_true] at hcs
    subst hcs
    rw [hC] at hi
    have hlm : len ≤ m := by rw [hmm]; split <;> omega
    obtain ⟨l, hll, hq⟩ := exists_list (α := α) (Q := fun i b => w.cells? base (a.add (i * sz)) sz = some (F b) ∧ Ok b) len fun i hi' => by
      obtain ⟨cs, h1, h2⟩ := hi i (by omega)
      obtain ⟨b, rfl, h3⟩ := hel n cs _ h2
      exact ⟨b, h1, h3⟩
    refine ⟨l, ⟨⟨some a, cap, by rw [hll], by omega, by unfold maxLen at hm; omega, flatMap_len hF l, fun _ => ⟨a, rfl, fun j u hj => ?_⟩⟩, hF⟩, fun b hb => ?_⟩
    · have hjl := (List.getElem?_eq_some_iff.1 hj).1
      rw [flatMap_len hF l] at hjl
      have h1 : j / sz < l.length := Nat.div_lt_of_lt_mul (by rw [Nat.mul_comm]; exact hjl)
      have h2 : j % sz < sz := Nat.mod_lt _ hsz
      have h3 : j / sz * sz + j % sz = j := by rw [Nat.mul_comm]; exact Nat.div_add_mod j sz
      have h4 := flatMap_get hF l (j / sz) h1 (j % sz) ((F l[j / sz])[j % sz]'(by rw [hF]; exact h2)) (List.getElem?_eq_getElem _)
      rw [h3, hj] at h4
      have h5 := Option.some.inj h4
      obtain ⟨_, _, hat⟩ := World.cells?_some (hq (j / sz) h1).1
      have h6 := hat (j % sz) h2
      rw [addr_add_add, h3] at h6
      refine Cell.ofW (h6.trans ?_)
      rw [List.getElem?_eq_getElem (by rw [hF]; exact h2), ← h5]
    · obtain ⟨i, hi', rfl⟩ := List.getElem_of_mem hb
      exact (hq i hi').2
end
end Go.Eng
namespace Go.Proofs.YtdnelknieikbaaaGreat
open Go.Eng Go.ChangeShapes Go.WideShapes Go.ChangeAt Go.RowKit Go.Deep
theorem own : ownKnob Tryz.prog.godebug = none := by kernel_rfl
theorem bel_of {w w' : World} (E : Ext w w') : Below w.heap.size w w' := ⟨E.os, E.tape.tape, E.output, E.size, E.block⟩
theorem laidOut : laidOutB Tryz.prog = true := by kernel_rfl
section
variable {H : Type} {enc : TypeId × Value → H} {w : World} {base : Nat} {spare : Nat → Bool} {held : Bool}
theorem trod_struct5 {P : Program} {t : TypeId} {f0 f1 f2 f3 f4 : Field} {fuel : Nat} {cs : List Value} {x : DataW H × List MemPlace} (ht : P.underlying t = some (.struct #[f0, f1, f2, f3, f4])) (h : DataW.trod enc P w base spare held fuel t cs = some x) :
  ∃ y0 y1 y2 y3 y4 n, cs.length = P.cellsOf t ∧ DataW.trod enc P w base spare held n f0.type ((cs.drop f0.offset).take (P.cellsOf f0.type)) = some y0 ∧
   DataW.trod enc P w base spare held n f1.type ((cs.drop f1.offset).take (P.cellsOf f1.type)) = some y1 ∧ DataW.trod enc P w base spare held n f2.type ((cs.drop f2.offset).take (P.cellsOf f2.type)) = some y2 ∧
   DataW.trod enc P w base spare held n f3.type ((cs.drop f3.offset).take (P.cellsOf f3.type)) = some y3 ∧ DataW.trod enc P w base spare held n f4.type ((cs.drop f4.offset).take (P.cellsOf f4.type)) = some y4 := by
 obtain ⟨xs, n, _, rfl, hl, hlen, hf⟩ := DataW.trod_struct ht h
 match xs, hlen with
 | [y0, y1, y2, y3, y4], _ => exact ⟨y0, y1, y2, y3, y4, n, hl, by simpa using hf 0 f0 rfl, by simpa using hf 1 f1 rfl, by simpa using hf 2 f2 rfl, by simpa using hf 3 f3 rfl, by simpa using hf 4 f4 rfl⟩
theorem open_int1 (n : Nat) (cs : List Value) (y : DataW H × List MemPlace) (h : DataW.trod enc Tryz.prog w base spare held n 3 cs = some y) : ∃ a, cs = cI a ∧ I64 a := by
 obtain ⟨b, h1, _, h2⟩ := DataW.trod_int Tryz.underlying3 h
 exact ⟨b, h1, bounds_i64 h2⟩
theorem open_byte1 (n : Nat) (cs : List Value) (y : DataW H × List MemPlace) (h : DataW.trod enc Tryz.prog w base spare held n 5 cs = some y) : ∃ a, cs = cB a ∧ a < 256 := by
 obtain ⟨b, h1, _, h2⟩ := DataW.trod_int Tryz.underlying5 h
 have := bounds_u8 h2
 refine ⟨b.toNat, ?_, by omega⟩
 unfold cB
 rw [h1, Int.toNat_of_nonneg this.1]
theorem open_is {v : Value} {fuel : Nat} {x : DataW H × List MemPlace} (h : DataW.trod enc Tryz.prog w base spare held fuel 24 [v] = some x) : ∃ l, RdL cI 1 (whole w) [] v l ∧ ∀ a ∈ l, I64 a :=
 open_rdl Tryz.underlying24 (by kernel_rfl) cI_len (by decide) open_int1 h
theorem open_bs {v : Value} {fuel : Nat} {x : DataW H × List MemPlace} (h : DataW.trod enc Tryz.prog w base spare held fuel 22 [v] = some x) : ∃ l, RdL cB 1 (whole w) [] v l ∧ ∀ a ∈ l, a < 256 :=
 open_rdl Tryz.underlying22 (by kernel_rfl) cB_len (by decide) open_byte1 h
theorem open_plan {v : Value} {r : Reach} {b0 : Nat} {d : DataW H} {ps : List MemPlace} (hval : Value.okWide Tryz.prog w r b0 26 v) (h : DataW.Trod enc Tryz.prog w base spare held 26 v d ps) : ∃ (x : Pl) (vd vs : Value), v = .agg #[.int .u8 x.p, vd, .int .u16 x.back, vs, .bool x.thin] ∧ RdP (whole w) vd vs x ∧ x.Ok := by
 obtain ⟨cs, rfl, hc⟩ := okWide_struct Tryz.underlying26 hval
 obtain ⟨fuel, hf⟩ := h
 obtain ⟨y0, y1, y2, y3, y4, n, h0, h1, h2, h3, h4, h5⟩ := trod_struct5 Tryz.underlying26 hf
 have hc5 : cs.size = 5 := hc.trans (by kernel_rfl)
 obtain ⟨l⟩ := cs
 match l, hc5 with
 | [c0, c1, c2, c3, c4], _ =>
  have h1 : DataW.trod enc Tryz.prog w base spare held n 5 [c0] = some y0 := h1
  have h2 : DataW.trod enc Tryz.prog w base spare held n 22 [c1] = some y1 := h2
  have h3 : DataW.trod enc Tryz.prog w base spare held n 23 [c2] = some y2 := h3
  have h4 : DataW.trod enc Tryz.prog w base spare held n 24 [c3] = some y3 := h4
  have h5 : DataW.trod enc Tryz.prog w base spare held n 4 [c4] = some y4 := h5
  obtain ⟨p, e0, w0⟩ := open_byte1 n _ _ h1
  obtain ⟨ds, Rd, wd⟩ := open_bs h2
  obtain ⟨b, e2, _, w2⟩ := DataW.trod_int Tryz.underlying23 h3
  obtain ⟨sd, Rs, ws⟩ := open_is h4
  obtain ⟨th, e4, _⟩ := DataW.trod_bool Tryz.underlying4 h5
  have hb := bounds_u16 w2
  simp only [cB, List.cons.injEq, and_true] at e0 e2 e4
  subst e0 e2 e4
  refine ⟨⟨p, ds, b.toNat, sd, th⟩, c1, c3, ?_, ⟨Rd, Rs⟩, w0, wd, ?_, ws, Rs.len_le⟩
  ·show Value.agg #[.int .u8 p, c1, .int .u16 b, c3, .bool th] = Value.agg #[.int .u8 p, c1, .int .u16 ((b.toNat : Nat) : Int), c3, .bool th]
   rw [Int.toNat_of_nonneg hb.1]
  ·show b.toNat < 65536
   omega
end
end Go.Proofs.YtdnelknieikbaaaGreat
