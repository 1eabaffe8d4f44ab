/- Parts of the proof: Zq Zr Yf Zs Zt Zu Zv Zw Zx Zy Zz Ya Yb Yc Yd Yg. -/
import Derived.Test.YtdnelknieikbaaaGreatTE
set_option linter.unusedSimpArgs false
set_option linter.unusedVariables false
set_option maxRecDepth 100000
namespace Go.Proofs.YtdnelknieikbaaaGreat
open Tryz
open Go.Eng Go.RowKit Go.Lin
def H9 (pv : List Nat) (F : Nat → Nat → Int) (c i a s : Nat) : Int := if pv.idxOf a < i then F (pv.idxOf a) (c + s) else 0
def CB (pv : List Nat) (F : Nat → Nat → Int) (c a s : Nat) : Int := H9 pv F c pv.length a s
theorem OV (pv : List Nat) (F : Nat → Nat → Int) (c a s : Nat) : H9 pv F c 0 a s = 0 := if_neg (by omega)
theorem Og {pv : List Nat} (hs : pv.Pairwise (· < ·)) (F : Nat → Nat → Int) (c c' i a s : Nat) (hi : i < pv.length) (hsc : s < c') : (if a = pv.getD i 0 then (vec c' fun s => F i (c + s)).getD s 0 else H9 pv F c i a s) = H9 pv F c (i + 1) a s := by
 have hg := Cn hi
 have hnd : pv.Nodup := List.Pairwise.imp (fun h => Nat.ne_of_lt h) hs
 have hio : pv.idxOf pv[i] = i := hnd.idxOf_getElem i hi
 unfold H9
 by_cases h3 : a = pv.getD i 0
 ·rw [if_pos h3, h3, hg, hio, if_pos (by omega), List.getD_eq_getElem?_getD, EE? hsc]; rfl
 ·rw [if_neg h3]
  have h5 : pv.idxOf a ≠ i := fun h => h3 (by
   have hlt : pv.idxOf a < pv.length := by omega
   rw [hg]
   have := List.getElem_idxOf hlt
   subst h
   exact this.symm)
  by_cases h6 : pv.idxOf a < i
  ·rw [if_pos h6, if_pos (by omega)]
  ·rw [if_neg h6, if_neg (by omega)]
theorem RX {r c c' : Nat} {F : Nat → Nat → Int} {i : Nat} (hi : i < r) : ∃ l, ((mat r (c + c') F).drop (i * (c + c') + c)) = vec c' (fun s => F i (c + s)) ++ l := by
 have h1 : (i + 1) * (c + c') ≤ r * (c + c') := Nat.mul_le_mul_right _ hi
 rw [Nat.add_mul, Nat.one_mul] at h1
 refine ⟨((mat r (c + c') F).drop (i * (c + c') + c)).drop c', ?_⟩
 conv => lhs; rw [← List.take_append_drop c' ((mat r (c + c') F).drop (i * (c + c') + c))]
 congr 1
 refine List.ext_getElem? fun k => ?_
 by_cases hk : k < c'
 ·rw [List.getElem?_take_of_lt hk, List.getElem?_drop, EE? hk, mat_at? (by omega), Nat.add_assoc, Hs (by omega), HE (by omega)]
 ·rw [List.getElem?_eq_none (by rw [List.length_take]; omega), List.getElem?_eq_none (by rw [AQ]; omega)]
theorem L8 (p : Int) (r c c' : Nat) (f g : Nat → Nat → Int) (ev eu : Value) (h : Hp) (R : RtM p r c f) (S : RtM p r c' g) (hcr : r = 0 ∨ 0 < c') (hR : RdL cI 1 h [] ev (mat r c f)) (hS : RdL cI 1 h [] eu (mat r c' g)) :
  FnT Tryz.prog 115 #[.agg #[.int .i64 p, .int .i64 r, .int .i64 c, ev], .agg #[.int .i64 p, .int .i64 r, .int .i64 c', eu]] h [] (fun x h' ms' => h.le h' ∧ ∃ (F : Nat → Nat → Int) (pv : List Nat) (v : Value), Ho p r (c + c') (jn c f g) F pv ∧ ((∀ k (hk : k < pv.length), pv[k] < c) → x = .tuple #[v, .bool true] ∧ Ez v ms' (EM p c c' (CB pv F c))) ∧ (¬ (∀ k (hk : k < pv.length), pv[k] < c) → x = .tuple #[v, .bool false] ∧ Ez v ms' FM.nil)) := by
 have hb := R.bd
 have rl := R.rl
 have kl := R.cl
 have cl := S.cl
 have hjn : UO p r (c + c') (jn c f g) := fun i hi j hj => by
  unfold jn
  by_cases h : j < c
  ·rw [if_pos h]; exact R.en i hi j h
  ·rw [if_neg h]; exact S.en i hi _ (by omega)
 refine Av func115 ntmps115 rfl rfl (fun w0 hw0 => ?_)
 simp only [A4]
 refine Ax ?_
 refine AS [_, _, _, _] rfl rfl (by rfl) rfl rfl rfl (fun g2 => ?_)
 refine AS [_, _, _, _] rfl rfl (by rfl) rfl rfl rfl (fun g3 => ?_)
 refine BZ [.int .i64 0, .int .i64 0, .int .i64 0, .slice none 0 0] rfl AI rfl rfl (fun g4 => Qm rfl (Aq (By 2 rfl fun h1 l1 hA => (By 1 rfl fun h2 l2 hB => ?_))))
 have hR := hR.up (Hp.le_trans l1 l2)
 have hS := hS.up (Hp.le_trans l1 l2)
 have hAs := hA.le l2
 have hBs := hB
 have hA := Seg.all hAs
 have hB := Seg.all hBs
 have hA0 := hA 0 _ rfl
 have hB0 := hB 0 _ rfl
 refine Ac (Ax (Qx (oG rfl underlying42 AI (Seg.any hAs)) rfl (Qx (oG rfl underlying42 AI (Seg.any hBs)) rfl (Qx (AG rfl call121 rfl (MT R S hR hS _)) rfl (Qm rfl (Qm rfl (Qg (oF Bh rfl) rfl (Qg (oL rfl underlying3 (hA _ _ rfl _)) rfl (Qg (oF Bh rfl) rfl (Qg (oL rfl underlying3 (hB _ _ rfl _)) rfl (Qg (B4 rfl rfl rfl) rfl (Qm rfl (Aq (AF rfl (fun hc => absurd hc (by omega)) (fun hc => Ai (Ab (Ax (Qx (oG rfl underlying42 AI (Seg.any hAs)) rfl (Qx (oG rfl underlying42 AI (Seg.any hBs)) rfl (Qc call137 rfl (NC p r c c' f g ev eu h2 R S hR hS) (fun v h3 ms1 l3 hF => ?_)))))))))))))))))))))
 obtain ⟨l3, ej, mj, rfl, rfl, hOj⟩ := hF
 refine AH hOj fun h4 l4 hRj => (Qc call136 rfl (JN p r (c + c') (jn c f g) ej h4 R.pr rl (by omega) hjn hRj) (fun v h5 ms1 l5 hF => ?_))
 obtain ⟨l5, F, pv, ef, vp, m, m2, rfl, rfl, hO, hO2, hE⟩ := hF
 have l25 := Hp.le_trans l3 (Hp.le_trans l4 l5)
 have hAs := hAs.le l25
 have hBs := hBs.le l25
 have hA := Seg.all hAs
 have hB := Seg.all hBs
 have hA0 := hA 0 _ rfl
 have hB0 := hB 0 _ rfl
 have l05 := Hp.le_trans l1 (Hp.le_trans l2 l25)
 have oe : ef.oneCell' = true := (hO.rd (h := h) (ms := [m]) (List.Mem.head _)).rd.one
 have ovp : vp.oneCell' = true := (hO2.rd (h := h) (ms := [m2]) (List.Mem.head _)).rd.one
 have hlen := hE.red.len
 have hsort := hE.red.sorted
 obtain ⟨n, hn⟩ : ∃ n, n = c + c' := ⟨_, rfl⟩
 have hO' := hO
 rw [← hn] at hO' hE ⊢
 refine Qm rfl (Qm rfl (Qm rfl (BZ [.int .i64 0, .int .i64 0, .int .i64 0, .slice none 0 0] rfl AI rfl rfl (fun g6 => ?_))))
 refine Sa 0 [_, _, _, _] AI rfl (by simp [oe]) ?_
 refine Qm rfl (B3 (Qf BE rfl (Ql rfl underlying3 (hA0 _) (Qf A0 rfl (Ql rfl underlying3 (hA _ _ rfl _) (Qf A0 rfl (Ql rfl underlying3 (hB _ _ rfl _) (Qc call106 rfl (GB p c c' h5 R.i64) (fun v h6 ms3 l6 hF => ?_)))))))))
 obtain ⟨rfl, ew, mz, rfl, rfl, hOz⟩ := hF
 rw [DO R.pr kl cl] at hOz ⊢
 have ow : ew.oneCell' = true := (hOz.rd (h := h) (ms := [mz]) (List.Mem.head _)).rd.one
 refine BZ [.int .i64 0, .int .i64 0, .int .i64 0, .slice none 0 0] rfl AI rfl rfl (fun g8 => ?_)
 refine Sa 0 [_, _, _, _] AI rfl (by simp [ow]) ?_
 refine Aq (Ac (Ax (Qm rfl (Qx (CH (DA (h := h) (ms := [m2]) hO2 (List.Mem.head _)) rfl underlying24 rfl) rfl (Qm rfl (Aq (Ag ?_)))))))
 refine AD (fun q s hh ms' => ∃ (i : Nat) (mz : Hp), q = pv.length - i ∧ s = [(2, .pointer (some ⟨g2, 0, none⟩)), (3, .pointer (some ⟨g3, 0, none⟩)), (4, .pointer (some ⟨g4, 0, none⟩)), (6, .pointer (some ⟨g6, 0, none⟩)), (8, .pointer (some ⟨g8, 0, none⟩)), (37, vp), (38, .int .i64 pv.length), (39, .int .i64 i)] ∧ h5 = hh ∧ ms' = [AX g8 42 [.int .i64 p, .int .i64 c, .int .i64 c', ew], mz, AX g6 42 [.int .i64 p, .int .i64 r, .int .i64 n, ef], m, m2, AX g4 42 [.int .i64 0, .int .i64 0, .int .i64 0, .slice none 0 0]] ∧ i ≤ pv.length ∧ (∀ k (hk : k < pv.length), k < i → pv[k] < c) ∧ OwnL cI 1 3 mz ew (mat c c' (H9 pv F c i)))
  (pv.length - 0) _ ⟨0, mz, rfl, rfl, rfl, rfl, by omega, fun k hk h => by omega, by rw [AO (fun a _ b _ => OV pv F c a b)]; exact hOz⟩ Qs ?_
 rintro q s hh ms' ⟨i, mz, rfl, rfl, rfl, rfl, hi, hall, hOz⟩
 refine Ax (Qm rfl (Aq (Ac ?_)))
 refine AF rfl (fun hlt => ?_) (fun hlt => ?_)
 ·have hil : i < pv.length := by omega
  have hir : i < r := by omega
  have hg := Cn hil
  refine Ai (Ab (Ac (Ag (Ax (Qm rfl (Qx (Bo _ (DA (h := h) (ms := [m2]) hO2 (List.Mem.head _)) rfl underlying24 A8 rfl rfl rfl (by omega)) rfl ?_))))))
  refine Ql rfl underlying3 (J7 hO2 (by simp) hil) ?_
  refine Qm rfl (Qm rfl (Aq (Ac (Ax (Qm rfl (Qf A0 rfl (Ql rfl underlying3 (hA _ _ rfl _) (Qm rfl (Aq ?_)))))))))
  refine AF rfl (fun hge => ?_) (fun hge => ?_)
  ·refine Ac (Ad ?_)
   refine Qx (AT Gh [.int .i64 0, .int .i64 0, .int .i64 0, .slice none 0 0] [] [_, _, _, _] rfl AI rfl rfl (by repeat (first | exact trivial | refine ⟨⟨rfl, rfl, rfl⟩, ?_⟩ | refine ⟨⟨((DA (h := h) (ms := [m2]) hO2 (List.Mem.head _))).cells, rfl, rfl⟩, ?_⟩)) rfl) rfl ?_
   refine Sa 5 [_, _, _, _] AI rfl (by simp [Value.oneCell']) ?_
   refine Qm rfl (Aq (Ao (Ae (Ap (Ae (Ae (Ap (Ae (AP 4 rfl (AP 3 rfl (AP 2 rfl (AP 1 rfl (AP 0 rfl (IN ?_))))))))))))))
   exact CX (vs := [_, _, _, _]) 1 rfl rfl rfl underlying42 rfl AI rfl rfl (⟨l05, F, pv, _, hE, fun hx => absurd (hx i hil) (by omega), fun _ => ⟨rfl, _, _, rfl, rfl, OwnL.nil Br⟩⟩)
  ·have hpc : pv.getD i 0 < c := by omega
   have hc0 : 0 < c' := by omega
   generalize hP : pv.getD i 0 = P at *
   have d1 : (P + 1) * c' = P * c' + c' := by rw [Nat.add_mul, Nat.one_mul]
   have d2 : (P + 1) * c' ≤ c * c' := Nat.mul_le_mul_right c' hpc
   have d3 : c * c' ≤ 400 * 400 := Nat.mul_le_mul kl cl
   have d4 : ((P : Int) + 1) * c' = P * c' + c' := by rw [Int.add_mul, Int.one_mul]
   have d5 : (i + 1) * n = i * n + n := by rw [Nat.add_mul, Nat.one_mul]
   have d6 : (i + 1) * n ≤ r * n := Nat.mul_le_mul_right n hir
   have d7 : r * n ≤ 400 * 800 := Nat.mul_le_mul rl (by omega)
   have el1 : (mat c c' (H9 pv F c i)).length = c * c' := AY _ _ _
   have el2 : (mat r n F).length = r * n := AY _ _ _
   refine Ai (Ab (BB 22 Cd (by kernel_rfl) rfl (Wf Bc rfl (Wl rfl underlying24 (Cell.blk 0 rfl rfl) (Wm rfl (Wf A0 rfl (Wl rfl underlying3 (hB _ _ rfl _) (AV (oM rfl) rfl rfl (Wm rfl (AV (oA rfl) rfl rfl (Wf A0 rfl (Wl rfl underlying3 (hB _ _ rfl _) (AV (oM rfl) rfl rfl (AV (J6 (P * c') ((P + 1) * c') (hOz.rd (h := h5) (ms := [mz]) (List.Mem.head _)).rd rfl underlying24 A8 rfl rfl rfl (by omega) (by omega) (by omega) (by omega)) rfl rfl (Wf Bc rfl (Wl rfl underlying24 (Cell.blk 2 rfl rfl) (Wm rfl (Wf A0 rfl (Wl rfl underlying3 (Cell.blk 2 rfl rfl) (AV (oM rfl) rfl rfl (Wf A0 rfl (Wl rfl underlying3 (hA _ _ rfl _) (AV (oA rfl) rfl rfl (AV (Lo (i * n + c) (hO'.rd (h := h5) (ms := [m]) (List.Mem.head _)).rd rfl underlying24 A8 rfl rfl (by omega) (by omega)) rfl rfl (BC ?_)))))))))))))))))))))))))
   have hml := hO'.rd (h := h5) (ms := [AX g8 42 [.int .i64 p, .int .i64 c, .int .i64 c', ew], mz, AX g6 42 [.int .i64 p, .int .i64 r, .int .i64 n, ef], m, m2, AX g4 42 [.int .i64 0, .int .i64 0, .int .i64 0, .slice none 0 0]]) (List.Mem.tail _ (List.Mem.tail _ (List.Mem.tail _ (List.Mem.head _))))
   have hsub := hml.sub_ (i := i * n + c) (j := (mat r n F).length) (by omega) (Nat.le_refl _)
   obtain ⟨lr, hlr⟩ := RX (c := c) (c' := c') (F := F) hir
   rw [← hn] at hlr
   rw [List.take_of_length_le (by rw [List.length_drop]; omega), hlr] at hsub
   refine QO 1 P hOz hpc hc0 hsub (by rw [List.length_append, AQ]; omega) rfl underlying24 A8 rfl rfl rfl rfl rfl rfl (fun mz' hOz' => ?_)
   refine Ak (Aj (Ab (Ad (Qx (oA rfl) rfl (Qm rfl (Ak ?_))))))
   refine Al (pv.length - (i + 1)) _ (by omega) ⟨i + 1, mz', rfl, rfl, rfl, rfl, by omega, fun k hk h1 => ?_, ?_⟩ Qs
   ·rcases (by omega : k < i ∨ k = i) with h2 | rfl
    ·exact hall k hk h2
    ·rw [← hg]; exact hpc
   ·have hst : ∀ a, a < c → ∀ b, b < c' → (if a = P then (vec c' (fun s => F i (c + s)) ++ lr).getD b 0 else H9 pv F c i a b) = H9 pv F c (i + 1) a b := fun a _ b hb => by
     rw [← Og hsort F c c' i a b hil hb, hP]
     rw [List.getD_eq_getElem?_getD, List.getElem?_append_left (by rw [AQ]; exact hb), ← List.getD_eq_getElem?_getD]
    rw [AO hst] at hOz'
    exact hOz'
 ·refine Aw (Aa (Aa (Af (Ab (Ax (Qx (oG rfl underlying42 AI (Seg.blk 0 rfl)) rfl ?_))))))
  refine Sa 5 [_, _, _, _] AI rfl (by simp [ow]) ?_
  refine Qm rfl (Aq (Ao ?_))
  obtain rfl : i = pv.length := by omega
  have hal : ∀ k (hk : k < pv.length), pv[k] < c := fun k hk => hall k hk hk
  refine AP 4 rfl (AP 3 rfl (AP 2 rfl (AP 0 rfl ?_)))
  exact CX (vs := [_, _, _, _]) 1 rfl rfl rfl underlying42 rfl AI rfl rfl (⟨l05, F, pv, _, hE, fun _ => ⟨rfl, ew, mz, rfl, rfl, hOz⟩, fun hx => absurd hal hx⟩)
end Go.Proofs.YtdnelknieikbaaaGreat
namespace Go.Proofs.YtdnelknieikbaaaGreat
open Tryz
open Go.Eng Go.RowKit Go.Lin
theorem MD {p : Int} {n : Nat} (hp : IsP p) (hn : n ≤ 400) : RtM p n n Dl := ⟨hp, hn, hn, fun i _ j _ => by
 have := hp.1
 unfold Dl
 split <;> omega⟩
theorem TS (p : Int) (n : Nat) (f : Nat → Nat → Int) (ev : Value) (h : Hp) (R : RtM p n n f) (hR : RdL cI 1 h [] ev (mat n n f)) (hf : ∀ F pv, Ho p n n f F pv → pv.length = n) (ms : List Hp) :
  Dq Tryz.prog 96 #[.agg #[.int .i64 p, .int .i64 n, .int .i64 n, ev]] h ms (.int .i64 n) :=
 Ds ((R5 p n n f ev h R hR).mono fun r h' ms' ⟨_, _, F, pv, e, hE⟩ => by rw [e, hf F pv hE]) ms
theorem MN (p : Int) (n : Nat) (f : Nat → Nat → Int) (ev : Value) (h : Hp) (R : RtM p n n f) (hR : RdL cI 1 h [] ev (mat n n f)) (hf : ∀ F pv, Ho p n n f F pv → pv.length = n) (hp : ∀ F pv, Ho p n (n + n) (jn n f Dl) F pv → ∀ k (hk : k < pv.length), pv[k] < n) :
  FnT Tryz.prog 132 #[.agg #[.int .i64 p, .int .i64 n, .int .i64 n, ev]] h [] (fun x h' ms' => h.le h' ∧ ∃ (F : Nat → Nat → Int) (pv : List Nat) (v : Value), Ho p n (n + n) (jn n f Dl) F pv ∧ x = .tuple #[v, .bool true] ∧ Ez v ms' (EM p n n (CB pv F n))) := by
 have nl := R.rl
 refine Av func132 ntmps132 rfl rfl (fun w0 hw0 => ?_)
 simp only [A4]
 refine Ax ?_
 refine AS [_, _, _, _] rfl rfl (by rfl) rfl rfl rfl (fun g1 => ?_)
 refine BZ [.int .i64 0, .int .i64 0, .int .i64 0, .slice none 0 0] rfl AI rfl rfl (fun g2 => Qm rfl (Aq (By 1 rfl fun h1 l1 hS => ?_)))
 have hR := hR.up l1
 have hA := Seg.all hS
 have hA0 := hA 0 _ rfl
 refine Ac (Ac (BB 15 Cd (by kernel_rfl) rfl (AV (oG rfl underlying42 AI (Seg.any hS)) rfl rfl (AV (AG rfl call73 rfl (Nv R hR _)) rfl rfl (Wm rfl (Wm rfl (Bp (oF Bh rfl) rfl rfl rfl rfl (Bp (oL rfl underlying3 (hA _ _ rfl _)) rfl rfl rfl rfl (Bp (oF A0 rfl) rfl rfl rfl rfl (Bp (oL rfl underlying3 (hA _ _ rfl _)) rfl rfl rfl rfl (Bp (B4 rfl rfl rfl) rfl rfl rfl rfl (Wm rfl (Wm rfl ?_)))))))))))))
 refine DR (t := 14) rfl (fun hs => ?_) (fun hs => ?_)
 ·exact absurd hs (by simp)
 ·refine Bp (oG rfl underlying42 AI (Seg.any hS)) rfl rfl rfl rfl (Bp (AG rfl call96 rfl (TS p n f ev _ R hR hf _)) rfl rfl rfl rfl (Bp (oF Bh rfl) rfl rfl rfl rfl (Bp (oL rfl underlying3 (hA _ _ rfl _)) rfl rfl rfl rfl (BC (Qg (Dy rfl rfl rfl) rfl (Qm rfl (Aq (AF rfl (fun hc => absurd hc (by omega)) (fun hc => Ai (Ab ?_))))))))))
  refine Bv (fun s hh ms' => ∃ (F : Nat → Nat → Int) (pv : List Nat) (ew : Value) (m : Hp), s = [(2, .pointer (some ⟨g2, 0, none⟩)), (3, .bool true)] ∧ h.le hh ∧ ms' = [m, AX g2 42 [.int .i64 p, .int .i64 n, .int .i64 n, ew]] ∧ Ho p n (n + n) (jn n f Dl) F pv ∧ OwnL cI 1 3 m ew (mat n n (CB pv F n))) ?_ (fun s h ms hI => ?_)
  ·refine AW (n := 11) (bs := [true, true, true, true, true, false, false, false, false, false, false]) [true, true, true, true, true] Cd (by kernel_rfl) (by kernel_rfl) rfl rfl (Qp rfl (oG rfl underlying42 AI (Seg.any hS)) (QF BE rfl (QL rfl underlying3 (hA0 _) (QF Bh rfl (QL rfl underlying3 (hA _ _ rfl _) ?_)))))
   unfold CD
   simp only [List.cons_append, List.nil_append]
   refine Qo 5 rfl (Qc call87 rfl (J3 p n h1 R.pr nl) (fun v h3 ms3 l3 hF => ?_))
   obtain ⟨rfl, eo, mo, rfl, rfl, hOo⟩ := hF
   refine Qw (Qo 6 rfl (AH hOo fun h4 l4 hRo => (Qc call115 rfl (L8 p n n n f Dl ev eo h4 R (MD R.pr nl) (by omega) (hR.up l4) hRo) (fun v h5 ms5 l5 hF => ?_))))
   have l15 := Hp.le_trans l4 l5
   obtain ⟨l5, F, pv, v', hE, hyes, _⟩ := hF
   obtain ⟨rfl, ew, m, rfl, rfl, hO⟩ := hyes (hp F pv hE)
   have oe : ew.oneCell' = true := (hO.rd (h := h) (ms := [m]) (List.Mem.head _)).rd.one
   refine Qa (An 7 29 (by kernel_rfl) rfl (by assumption) rfl (AC rfl rfl rfl) (An 8 30 (by kernel_rfl) rfl (by assumption) rfl (AC rfl rfl rfl) (Qo 9 rfl ?_)))
   refine Sa 1 [_, _, _, _] AI rfl (by simp [oe]) ?_
   refine Qa (Qo 10 rfl (Qm rfl (Qa (Qe ?_))))
   refine AA _ ⟨F, pv, ew, m, rfl, Hp.le_trans l1 (Hp.le_trans l4 l5), rfl, hE, hO⟩ Qs
  obtain ⟨F, pv, ew, m, rfl, hl, rfl, hE, hO⟩ := hI
  ·refine Ao ?_
   exact CX (vs := [_, _, _, _]) 1 rfl rfl rfl underlying42 rfl AI rfl rfl (⟨hl, F, pv, _, hE, rfl, ew, m, rfl, rfl, hO⟩)
end Go.Proofs.YtdnelknieikbaaaGreat
namespace Go.Proofs.YtdnelknieikbaaaGreat
open Go.Eng Go.RowKit Go.Lin
variable {a b i : Nat}
abbrev tt : Nat → Bool := fun _ => true
theorem Mf (n : Nat) : cnt n tt = n := by
 unfold cnt Df
 rw [List.filter_eq_self.2 (by simp)]
 exact List.length_range
theorem Cs (n : Nat) (c : Nat → Int) (v : Nat → Nat → Int) (i : Nat) : Bj n tt c v i = sm n fun l => c l * v l i := AE fun l _ => if_pos rfl
def Gg (pv : List Nat) (y : Nat → Int) (a : Nat) : Int := if pv.idxOf a < pv.length then y (pv.idxOf a) else 0
section
variable {p : Int} {r c : Nat} {f F : Nat → Nat → Int} {pv : List Nat}
theorem _root_.Go.Lin.Red.nodup (R : Red p r c f F pv c) : pv.Nodup := List.Pairwise.imp (fun h => Nat.ne_of_lt h) R.sorted
theorem MW (hn : pv.Nodup) (y : Nat → Int) {k : Nat} (hk : k < pv.length) : Gg pv y pv[k] = y k := by
 unfold Gg
 rw [hn.idxOf_getElem k hk, if_pos hk]
theorem FI (y : Nat → Int) (h : a ∉ pv) : Gg pv y a = 0 := by
 unfold Gg
 rw [if_neg]
 intro h2
 exact h (List.idxOf_lt_length_iff.1 h2)
theorem NO (hn : pv.Nodup) (y : Nat → Int) (h : a ∈ pv) : ∃ k, ∃ hk : k < pv.length, pv[k] = a ∧ Gg pv y a = y k := by
 obtain ⟨k, hk, rfl⟩ := List.mem_iff_getElem.1 h
 exact ⟨k, hk, rfl, MW hn y hk⟩
theorem My (A : Nat → Nat → Int) (n : Nat) (x y : Nat → Int) (i : Nat) : ap A n (fun a => x a - y a) i = ap A n x i - ap A n y i := by
 unfold ap
 rw [← Mm]
 exact AE fun j _ => Int.mul_sub _ _ _
theorem Md (A : Nat → Nat → Int) (n : Nat) (x y : Nat → Int) (i : Nat) : ap A n (fun a => x a + y a) i = ap A n x i + ap A n y i := by
 unfold ap
 rw [← FF]
 exact AE fun j _ => Int.mul_add _ _ _
theorem Kr (A : Nat → Nat → Int) (n : Nat) (hb : b < n) (i : Nat) : ap A n (fun a => if a = b then 1 else 0) i = A i b := by
 unfold ap
 rw [DZ n b _ hb fun k _ hne => by simp [hne]]
 simp
theorem Hx (R : Red p r c f F pv c) (y : Nat → Int) (hi : i < r) : ap F c (Gg pv y) i = if i < pv.length then y i else 0 := by
 unfold ap
 by_cases h : i < pv.length
 ·rw [if_pos h, DZ c pv[i] _ (R.lt i h) fun b hb hne => ?_]
  ·rw [R.col i hi i h, if_pos rfl, MW R.nodup y h, Int.one_mul]
  ·by_cases hm : b ∈ pv
   ·obtain ⟨k, hk, rfl⟩ := List.mem_iff_getElem.1 hm
    rw [R.col i hi k hk, if_neg (fun e => hne (by subst e; rfl)), Int.zero_mul]
   ·rw [FI y hm, Int.mul_zero]
 ·rw [if_neg h]
  exact CL fun b hb => by rw [R.low i hi (by omega) b hb, Int.zero_mul]
theorem Ii (R : Red p r c f F pv c) (hb : b < c) (hi : i < r) : Cg p (f i b) (ap f c (Gg pv fun k => F k b) i) := by
 have h := (R.ker fun a => (if a = b then 1 else 0) - Gg pv (fun k => F k b) a).1 (fun i hi => Cg.of_eq (by
  rw [My, Kr F c hb, Hx R _ hi]
  split
  ·exact Int.sub_self _
  ·rename_i hl
   rw [R.low i hi (by omega) b hb]; rfl)) i hi
 rw [My, Kr f c hb] at h
 have := Cg.add h (Cg.refl p (ap f c (Gg pv fun k => F k b) i))
 rw [Int.zero_add, Int.sub_add_cancel] at this
 exact this
theorem F7 (R : Red p r c f F pv c) : Ind p c (fun b => pv.contains b) r (fun l i => f i l) := by
 intro x hx l hl hb
 obtain ⟨k, hk, rfl⟩ := List.mem_iff_getElem.1 (List.contains_iff_mem.1 hb)
 have e : ∀ a, a < c → Gg pv (fun k => x (pv.getD k 0)) a = if pv.contains a then x a else 0 := fun a _ => by
  by_cases hm : a ∈ pv
  ·rw [if_pos (List.contains_iff_mem.2 hm)]
   obtain ⟨k, hk, rfl, e2⟩ := NO R.nodup (fun k => x (pv.getD k 0)) hm
   rw [e2, Cn hk]
  ·rw [FI _ hm, if_neg (fun h => hm (List.contains_iff_mem.1 h))]
 have h := (R.ker (Gg pv fun k => x (pv.getD k 0))).2 (fun i hi => Cg.trans (Cg.of_eq ?_) (hx i hi)) k (by have := R.len; omega)
 ·rw [Hx R _ (by have := R.len; omega), if_pos hk, Cn hk] at h
  unfold Cg at h; rwa [Int.sub_zero] at h
 ·unfold ap Bj
  exact AE fun a ha => by
   rw [e a ha]
   split
   ·exact Int.mul_comm _ _
   ·exact Int.mul_zero _
theorem F4 (R : Red p r c f F pv c) (hb : b < c) : Spn p c (fun b => pv.contains b) r (fun l i => f i l) (fun i => f i b) := by
 refine ⟨Gg pv fun k => F k b, fun i hi => (Ii R hb hi).trans (Cg.of_eq ?_)⟩
 unfold ap Bj
 exact AE fun a _ => by
  by_cases hm : a ∈ pv
  ·rw [if_pos (List.contains_iff_mem.2 hm)]; exact Int.mul_comm _ _
  ·rw [if_neg (fun h => hm (List.contains_iff_mem.1 h)), FI _ hm, Int.mul_zero]
theorem Gm {pv : List Nat} {c : Nat} (hs : pv.Pairwise (· < ·)) (hc : ∀ a ∈ pv, a < c) : Df c (fun b => pv.contains b) = pv := by
 refine List.Perm.eq_of_pairwise (le := (· < ·)) (fun a b _ _ h1 h2 => by omega) (List.Pairwise.filter _ List.pairwise_lt_range) hs ?_
 refine List.Perm.symm ?_
 have hn : pv.Nodup := List.Pairwise.imp (fun h => Nat.ne_of_lt h) hs
 exact (List.perm_ext_iff_of_nodup hn (EN c _)).2 fun a => by
  rw [mem_sel]
  exact ⟨fun h => ⟨hc a h, List.contains_iff_mem.2 h⟩, fun h => List.contains_iff_mem.1 h.2⟩
theorem _root_.Go.Lin.Red.mem_lt (R : Red p r c f F pv c) : ∀ a ∈ pv, a < c := fun a ha => by
 obtain ⟨k, hk, rfl⟩ := List.mem_iff_getElem.1 ha
 exact R.lt k hk
theorem C6 (R : Red p r c f F pv c) : cnt c (fun b => pv.contains b) = pv.length := by
 unfold cnt; rw [Gm R.sorted R.mem_lt]
theorem _root_.Go.Lin.Red.lenc (R : Red p r c f F pv c) : pv.length ≤ c := by
 rw [← C6 R]
 unfold cnt Df
 exact Nat.le_trans (List.length_filter_le _ _) (by simp)
theorem Lc (R : Red p r c f F pv c) : Ind p pv.length tt r (fun l i => f i (pv.getD l 0)) := by
 intro x hx l hl _
 have h := F7 R (fun a => x (pv.idxOf a)) (fun i hi => Cg.trans (Cg.of_eq ?_) (hx i hi)) pv[l] (R.lt l hl) (List.contains_iff_mem.2 (List.getElem_mem hl))
 ·rwa [R.nodup.idxOf_getElem l hl] at h
 ·rw [Cs]
  unfold Bj
  rw [KC c (fun b => pv.contains b) fun a => x (pv.idxOf a) * f i a, C6 R, Gm R.sorted R.mem_lt]
  exact AE fun t ht => by rw [Cn ht, R.nodup.idxOf_getElem t ht]
theorem LN (Fp : Fld p) (R : Red p r c f F pv c) : pv.length = c ↔ Ind p c tt r (fun l i => f i l) := by
 constructor
 ·intro h
  have hall : ∀ l, l < c → pv.contains l = true := by
   have h1 := C6 R
   rw [h] at h1
   intro l hl
   have h2 : Df c (fun b => pv.contains b) = List.range c := List.filter_sublist.eq_of_length (by rw [List.length_range]; exact h1)
   exact (mem_sel.1 (h2 ▸ List.mem_range.2 hl)).2
  intro x hx l hl _
  exact F7 R x (fun i hi => Cg.trans (Cg.of_eq (AE fun a ha => by
   show (if pv.contains a = true then _ else _) = if true = true then _ else _
   rw [hall a ha])) (hx i hi)) l hl (hall l hl)
 ·intro h
  have h1 := CA Fp h (n' := c) (b' := fun b => pv.contains b) (v' := fun l i => f i l) fun l hl _ => F4 R hl
  rw [Mf, C6 R] at h1
  have := R.lenc
  omega
theorem LP {n : Nat} {f : Nat → Nat → Int} (Fp : Fld p) (hI : Ind p n tt n (fun l i => f i l)) : Ind p n tt n (fun l i => f l i) := by
 intro u hu k hk _
 obtain ⟨x, hx⟩ := Uo Fp hI (Mf n) (fun i => if i = k then 1 else 0)
 have h1 : Cg p (u k) (sm n fun i => u i * Bj n tt x (fun l i => f i l) i) := by
  refine Cg.trans (Cg.of_eq ?_) (Cg.sm fun i hi => Cg.mul (Cg.refl p (u i)) (hx i hi))
  rw [DZ n k _ hk fun i _ hne => by simp [hne]]
  simp
 have h2 : (sm n fun i => u i * Bj n tt x (fun l i => f i l) i) = sm n fun l => x l * Bj n tt u (fun l i => f l i) l := by
  have e1 : ∀ i, i < n → u i * Bj n tt x (fun l i => f i l) i = sm n fun l => x l * (u i * f i l) := fun i _ => by
   rw [Cs, ← Cb]
   exact AE fun l _ => by rw [← Int.mul_assoc, ← Int.mul_assoc, Int.mul_comm (u i)]
  rw [AE e1, D9]
  refine AE fun l _ => ?_
  rw [Cs, ← Cb]
 have h3 : Cg p (sm n fun l => x l * Bj n tt u (fun l i => f l i) l) 0 := by
  refine Cg.trans (Cg.sm fun l hl => Cg.mul (Cg.refl p (x l)) (hu l hl)) (Cg.of_eq (CL fun l _ => Int.mul_zero _))
 rw [h2] at h1
 have := h1.trans h3
 unfold Cg at this; rwa [Int.sub_zero] at this
end
section
variable {p : Int} {r c c' : Nat} {f g F : Nat → Nat → Int} {pv : List Nat}
theorem Sl (f g : Nat → Nat → Int) (i : Nat) (h : a < c) : jn c f g i a = f i a := if_pos h
theorem Qz (f g : Nat → Nat → Int) (i s : Nat) : jn c f g i (c + s) = g i s := by
 unfold jn; rw [if_neg (by omega), Nat.add_sub_cancel_left]
theorem QJ (x : Nat → Int) (i : Nat) : ap (jn c f g) (c + c') x i = ap f c x i + ap g c' (fun s => x (c + s)) i := by
 unfold ap
 rw [El]
 congr 1
 ·exact AE fun a ha => by rw [Sl f g i ha]
 ·exact AE fun s _ => by rw [Qz]
theorem HJ (R : Red p r (c + c') (jn c f g) F pv (c + c')) (hlt : ∀ k (hk : k < pv.length), pv[k] < c) {s : Nat} (hs : s < c') (hi : i < r) : Cg p (ap f c (fun a => CB pv F c a s) i) (g i s) := by
 have h := Ii R (b := c + s) (by omega) hi
 rw [Qz, QJ] at h
 have hz : ap g c' (fun t => Gg pv (fun k => F k (c + s)) (c + t)) i = 0 := CL fun t _ => by
  show g i t * Gg pv (fun k => F k (c + s)) (c + t) = 0
  rw [FI _ (fun hm => ?_), Int.mul_zero]
  obtain ⟨k, hk, e⟩ := List.mem_iff_getElem.1 hm
  have := hlt k hk
  omega
 rw [hz, Int.add_zero] at h
 exact h.symm
theorem Lq (hp : 2 ≤ p) (R : Red p r (c + 1) (jn c f g) F pv (c + 1)) (hno : ¬ ∀ k (hk : k < pv.length), pv[k] < c) (x : Nat → Int) : ¬ ∀ i, i < r → Cg p (ap f c x i) (g i 0) := by
 intro h
 have ⟨k, hk, hge⟩ : ∃ k, ∃ hk : k < pv.length, c ≤ pv[k] := by
  refine Classical.byContradiction fun hcon => hno fun k hk => ?_
  refine Nat.lt_of_not_le fun hle => hcon ⟨k, hk, hle⟩
 have hkc : pv[k] = c := by have := R.lt k hk; omega
 have hkr : k < r := by have := R.len; omega
 have h2 := (R.ker fun a => if a < c then x a else -1).2 (fun i hi => ?_) k hkr
 ·have e : ap F (c + 1) (fun a => if a < c then x a else -1) k = -1 := by
   unfold ap
   rw [DZ (c + 1) c _ (by omega) fun b hb hne => by rw [R.left k hk b (by omega), Int.zero_mul]]
   have := R.col k hkr k hk
   rw [hkc, if_pos rfl] at this
   rw [this]
   show 1 * (if c < c then x c else -1) = -1
   rw [if_neg (by omega)]; rfl
  rw [e] at h2
  obtain ⟨q, hq⟩ := h2
  have : p ∣ 1 := ⟨-q, by rw [Int.mul_neg, ← hq]; rfl⟩
  have := Int.le_of_dvd (by decide) this
  omega
 ·rw [QJ]
  have e1 : ap f c (fun a => if a < c then x a else -1) i = ap f c x i := AE fun a ha => by
   show f i a * (if a < c then x a else -1) = _
   rw [if_pos ha]
  have e2 : ap g 1 (fun s => if c + s < c then x (c + s) else -1) i = - g i 0 := by
   unfold ap
   rw [DZ 1 0 _ (by omega) fun b hb hne => absurd (by omega) hne]
   show g i 0 * (if c + 0 < c then x (c + 0) else -1) = _
   rw [if_neg (by omega)]
   omega
  rw [e1, e2]
  have := Cg.sub (h i hi) (Cg.refl p (g i 0))
  rw [Int.sub_self] at this
  exact Cg.trans (Cg.of_eq (by omega)) this
theorem Jx (hp : 2 ≤ p) (R : Red p r (c + c') (jn c f g) F pv (c + c')) (hI : Ind p c tt r (fun l i => f i l)) {l : Nat} (hl : l < c) : l ∈ pv := by
 refine Classical.byContradiction fun hm => ?_
 have h1 : ∀ i, i < r → Cg p (Bj c tt (fun a => (if a = l then 1 else 0) - Gg pv (fun k => F k l) a) (fun l i => f i l) i) 0 := fun i hi => by
  have h := Ii R (b := l) (by omega) hi
  rw [Sl f g i hl, QJ] at h
  have hz : ap g c' (fun t => Gg pv (fun k => F k l) (c + t)) i = 0 := CL fun t _ => by
   show g i t * Gg pv (fun k => F k l) (c + t) = 0
   by_cases hmt : c + t ∈ pv
   ·obtain ⟨k, hk, e, e2⟩ := NO R.nodup (fun k => F k l) hmt
    rw [e2, R.left k hk l (by omega), Int.mul_zero]
   ·rw [FI _ hmt, Int.mul_zero]
  rw [hz, Int.add_zero] at h
  have e : Bj c tt (fun a => (if a = l then 1 else 0) - Gg pv (fun k => F k l) a) (fun l i => f i l) i = f i l - ap f c (Gg pv fun k => F k l) i := by
   rw [← Kr f c hl, ← My, Cs]
   exact AE fun a _ => Int.mul_comm _ _
  rw [e]
  have := Cg.sub h (Cg.refl p (ap f c (Gg pv fun k => F k l) i))
  rwa [Int.sub_self] at this
 have := hI _ h1 l hl rfl
 rw [if_pos rfl, FI _ hm] at this
 have := Int.le_of_dvd (by decide) this
 omega
theorem Nw (hp : 2 ≤ p) (n : Nat) : Ind p n tt n (fun l i => Dl i l) := by
 intro x hx l hl _
 have := hx l hl
 rw [Cs, DZ n l _ hl fun k _ hne => by unfold Dl; rw [if_neg (Ne.symm hne), Int.mul_zero]] at this
 unfold Dl at this
 rw [if_pos rfl, Int.mul_one] at this
 unfold Cg at this; rwa [Int.sub_zero] at this
theorem KT (Fp : Fld p) (hp : 2 ≤ p) (R : Red p r (c + r) (jn c f Dl) F pv (c + r)) : pv.length = r := by
 have h1 := CA Fp (Nw hp r) (n' := c + r) (b' := fun b => pv.contains b) (v' := fun l i => jn c f Dl i l) fun l hl _ => by
  have := F4 R (b := c + l) (by omega)
  have e : (fun i => jn c f Dl i (c + l)) = fun i => Dl i l := funext fun i => Qz f Dl i l
  rwa [e] at this
 rw [Mf, C6 R] at h1
 have := R.len
 omega
theorem GC {pv : List Nat} (hs : pv.Pairwise (· < ·)) {c : Nat} (hf : ∀ l, l < c → l ∈ pv) : ∀ l, l < c → ∃ h : l < pv.length, pv[l] = l := by
 have hmono := List.pairwise_iff_getElem.1 hs
 have key : ∀ k (hk : k < pv.length), k ≤ pv[k] := by
  intro k
  induction k with
  | zero => intro _; exact Nat.zero_le _
  | succ k ih => intro hk; have h1 := ih (by omega); have h2 := hmono k (k + 1) (by omega) hk (by omega); omega
 intro l
 induction l using Nat.strongRecOn with
 | _ l ih =>
  intro hl
  obtain ⟨k, hk, e⟩ := List.mem_iff_getElem.1 (hf l hl)
  have h1 := key k hk
  rcases (by omega : k = l ∨ k < l) with rfl | h2
  ·exact ⟨hk, e⟩
  ·obtain ⟨h3, e3⟩ := ih k h2 (by omega)
   omega
theorem Sc (Fp : Fld p) (hp : 2 ≤ p) {n : Nat} {f F : Nat → Nat → Int} {pv : List Nat} (hI : Ind p n tt n (fun l i => f i l)) (R : Red p n (n + n) (jn n f Dl) F pv (n + n)) : ∀ k (hk : k < pv.length), pv[k] < n := by
 have hlen := KT Fp hp R
 have hfr := GC R.sorted (fun l hl => Jx hp R hI hl)
 intro k hk
 obtain ⟨_, e⟩ := hfr k (by omega)
 omega
end
end Go.Proofs.YtdnelknieikbaaaGreat
namespace Go.Proofs.YtdnelknieikbaaaGreat
open Tryz
open Go.Eng Go.RowKit Go.Lin
def cV (v : Value) : List Value := [v]
theorem BK : ∀ v, (cV v).length = 1 := fun _ => rfl
def RdV (h : Hp) (v : Value) (n d : Nat) (w : Nat → Nat → Int) : Prop := ∃ vs : List Value, vs.length = n ∧ RdL cV 1 h [] v vs ∧ ∀ j (hj : j < vs.length), RdL cI 1 h [] vs[j] (vec d (w j))
theorem RdV.up {h h' : Hp} {v : Value} {n d : Nat} {w : Nat → Nat → Int} (R : RdV h v n d w) (hl : h.le h') : RdV h' v n d w := by
 obtain ⟨vs, h1, h2, h3⟩ := R
 exact ⟨vs, h1, h2.up hl, fun j hj => (h3 j hj).up hl⟩
def IU (w : Nat → Nat → Int) (j i a b : Nat) : Int := if b < j ∨ (b = j ∧ a < i) then w b a else 0
theorem Pk (w : Nat → Nat → Int) (a b : Nat) : IU w 0 0 a b = 0 := if_neg (by omega)
theorem Pc (w : Nat → Nat → Int) (j i a b : Nat) : DB (IU w j i) i j (w j i) a b = IU w j (i + 1) a b := by
 unfold DB IU
 by_cases h : a = i ∧ b = j
 ·rw [if_pos h, if_pos (by omega), h.1, h.2]
 ·rw [if_neg h]
  by_cases h2 : b < j ∨ (b = j ∧ a < i)
  ·rw [if_pos h2, if_pos (by omega)]
  ·rw [if_neg h2, if_neg (by omega)]
theorem Pr (w : Nat → Nat → Int) (j d a b : Nat) (ha : a < d) : IU w j d a b = IU w (j + 1) 0 a b := by
 unfold IU
 by_cases h2 : b < j ∨ (b = j ∧ a < d)
 ·rw [if_pos h2, if_pos (by omega)]
 ·rw [if_neg h2, if_neg (by omega)]
theorem PH (w : Nat → Nat → Int) (n a b : Nat) (hb : b < n) : IU w n 0 a b = w b a := if_pos (.inl hb)
theorem Bi (p : Int) (d n : Nat) (w : Nat → Nat → Int) (vl : Value) (h : Hp) (hp : Dh p) (hd : d ≤ 400) (hn : n ≤ 400) (hR : RdV h vl n d w) :
  FnT Tryz.prog 97 #[.int .i64 p, .int .i64 d, vl] h [] (fun x h' ms' => h = h' ∧ Ez x ms' (EM p d n fun i j => w j i)) := by
 obtain ⟨vs, hvs, hRv, hRe⟩ := hR
 have hdn : d * n ≤ 400 * 400 := Nat.mul_le_mul hd hn
 have hdv : d * vs.length = d * n := by rw [hvs]
 subst hvs
 refine Av func97 ntmps97 rfl rfl (fun w0 hw0 => ?_)
 simp only [A4]
 refine Ax (BZ [.int .i64 0, .int .i64 0, .int .i64 0, .slice none 0 0] rfl AI rfl rfl (fun g6 => B3 (Qm rfl (Qm rfl (Qm rfl (Qx (AJ hRv.rd.any rfl underlying62 rfl) rfl (Qm rfl (Qm rfl (Qx (AJ hRv.rd.any rfl underlying62 rfl) rfl (Qx (oM rfl) rfl ?_))))))))))
 refine Eu (n := d * vs.length) rfl underlying24 A8 rfl rfl rfl (by rfl) (by rfl) (by omega) (by omega) rfl rfl rfl (fun g20 => ?_)
 refine Qx (AT Gh [.int .i64 0, .int .i64 0, .int .i64 0, .slice none 0 0] [(0, _), (1, _), (2, _), (3, _)] [_, _, _, _] rfl AI rfl rfl (by repeat (first | exact trivial | refine ⟨⟨rfl, rfl, rfl⟩, ?_⟩)) rfl) rfl ?_
 refine BZ [.int .i64 0, .int .i64 0, .int .i64 0, .slice none 0 0] rfl AI rfl rfl (fun g7 => ?_)
 refine Sa 0 [_, _, _, _] AI rfl (by simp [Value.oneCell']) ?_
 refine Aq (Ac (Ax (Qm rfl (Qx (AJ hRv.rd.any rfl underlying62 rfl) rfl (Qm rfl (Aq (Ag ?_)))))))
 have hO0 := OwnL.rep (g := g20) (el := 3) (d * vs.length) 0 (by omega)
 rw [Kv] at hO0
 refine AD (fun q s hh ms' => ∃ (j : Nat) (m : Hp), q = vs.length - j ∧ s = [(2, vl), (6, .pointer (some ⟨g6, 0, none⟩)), (7, .pointer (some ⟨g7, 0, none⟩)), (22, vl), (23, .int .i64 vs.length), (24, .int .i64 j)] ∧ h = hh ∧ ms' = [AX g7 42 [.int .i64 p, .int .i64 d, .int .i64 vs.length, .slice (some ⟨g20, 0, none⟩) (d * vs.length) (d * vs.length)], m, AX g6 42 [.int .i64 0, .int .i64 0, .int .i64 0, .slice none 0 0]] ∧ j ≤ vs.length ∧ OwnL cI 1 3 m (.slice (some ⟨g20, 0, none⟩) (d * vs.length) (d * vs.length)) (mat d vs.length (IU w j 0)))
  (vs.length - 0) _ ⟨0, _, rfl, rfl, rfl, rfl, by omega, by rw [AO (fun a _ b _ => Pk w a b)]; exact hO0⟩ Qs ?_
 rintro q s hh ms' ⟨j, m, rfl, rfl, rfl, rfl, hj, hO⟩
 refine Ax (Qm rfl (Aq (Ac ?_)))
 refine AF rfl (fun hlt => ?_) (fun hlt => ?_)
 ·have hjn : j < vs.length := by omega
  have hRj := hRe j hjn
  refine Ai (Ab (Ac (Ag (Ax (Qm rfl (Qx (Ah _ hRv.rd.any rfl underlying62 BN rfl rfl rfl (by omega)) rfl (Ql rfl underlying24 (hRv.any.cell0 hjn rfl) (Qm rfl (Qm rfl (B3 (Qm rfl (Qx (AJ hRj.rd.any rfl underlying24 rfl) rfl (Qm rfl (Aq (Ag ?_)))))))))))))))
  refine AD (fun q s hh ms' => ∃ (i : Nat) (m : Hp), q = d - i ∧ s = [(2, vl), (6, .pointer (some ⟨g6, 0, none⟩)), (7, .pointer (some ⟨g7, 0, none⟩)), (8, .int .i64 j), (22, vl), (23, .int .i64 vs.length), (24, .int .i64 j), (29, vs[j]), (30, .int .i64 ((vec d (w j)).length : Nat)), (31, .int .i64 i)] ∧ h = hh ∧ ms' = [AX g7 42 [.int .i64 p, .int .i64 d, .int .i64 vs.length, .slice (some ⟨g20, 0, none⟩) (d * vs.length) (d * vs.length)], m, AX g6 42 [.int .i64 0, .int .i64 0, .int .i64 0, .slice none 0 0]] ∧ i ≤ d ∧ OwnL cI 1 3 m (.slice (some ⟨g20, 0, none⟩) (d * vs.length) (d * vs.length)) (mat d vs.length (IU w j i)))
   (d - 0) _ ⟨0, m, rfl, rfl, rfl, rfl, by omega, hO⟩ Qs ?_
  rintro q s hh ms' ⟨i, m, rfl, rfl, rfl, rfl, hi, hO⟩
  have ev := AQ d (w j)
  refine Ax (Qm rfl (Aq (Ac ?_)))
  refine AF rfl (fun hlt2 => ?_) (fun hlt2 => ?_)
  ·have hid : i < d := by omega
   have hix := Cp hid hjn
   have el : (mat d vs.length (IU w j i)).length = d * vs.length := AY _ _ _
   refine Ai (Ab (Ac (Ag (Ax (Qm rfl (Qx (Ah (i) hRj.rd.any rfl underlying24 A8 rfl rfl (by omega) (by omega)) rfl (Ql rfl underlying3 (hRj.any.ev hid) (Qm rfl (Qm rfl (IA (Qf Bc rfl (Ql rfl underlying24 (Cell.blk 0 rfl rfl) (Qm rfl (Qm rfl (Qx (AJ hRv.rd.any rfl underlying62 rfl) rfl (Qx (oM rfl) rfl (Qm rfl (Qx (oA rfl) rfl (Qm rfl (Qx (Dz (i * vs.length + j) rfl underlying24 A8 rfl rfl (by omega) (by omega)) rfl (Bu 1 (i * vs.length + j) hO rfl A8 rfl rfl rfl (by omega) rfl rfl (fun m' hO' => Ak (Aj (Ab (Ad (Qx (oA rfl) rfl (Qm rfl (Ak ?_))))))))))))))))))))))))))))
   refine Al (d - (i + 1)) _ (by omega) ⟨i + 1, m', rfl, rfl, rfl, rfl, by omega, ?_⟩ Qs
   rw [C4 _ hjn, AO (fun a _ b _ => Pc w j i a b)] at hO'
   exact hO'
  ·refine Aw (Aa (Aa (Af (Aj (Ab (Ad (Qx (oA rfl) rfl (Qm rfl (Ak ?_)))))))))
   refine Al (vs.length - (j + 1)) _ (by omega) ⟨j + 1, m, rfl, rfl, rfl, rfl, by omega, ?_⟩ Qs
   rw [show i = d by omega, AO (fun a ha b _ => Pr w j d a b ha)] at hO
   exact hO
 ·refine Aw (Aa (Aa (Af (Ab (Ax (Qx (oG rfl underlying42 AI (Seg.blk 0 rfl)) rfl ?_))))))
  refine Sa 2 [_, _, _, _] AI rfl (by simp [Value.oneCell']) ?_
  refine Aq (Ao (AP 0 rfl ?_))
  exact Cl (vs := [_, _, _, _]) 1 rfl rfl underlying42 rfl AI rfl rfl (⟨rfl, _, m, rfl, rfl, by rw [show j = vs.length by omega, AO (fun a _ b hb => PH w vs.length a b hb)] at hO; exact hO⟩)
end Go.Proofs.YtdnelknieikbaaaGreat
namespace Go.Proofs.YtdnelknieikbaaaGreat
open Tryz
open Go.Eng Go.RowKit Go.Lin
theorem RdL.one1 {h : Hp} {g : Nat} {v : Value} (hS : Seg h [] ⟨g, 0, none⟩ [v]) : RdL cV 1 h [] (.slice (some ⟨g, 0, none⟩) 1 1) [v] :=
 ⟨⟨_, 1, rfl, Nat.le_refl _, by omega, rfl, fun _ => ⟨_, rfl, hS⟩⟩, BK⟩
def UJ (f : Nat → Nat → Int) (j i a : Nat) : Int := if a < i then f a j else 0
theorem Rv (f : Nat → Nat → Int) (j i a : Nat) : (if a = i then f i j else UJ f j i a) = UJ f j (i + 1) a := by
 unfold UJ
 by_cases h : a = i
 ·rw [if_pos h, if_pos (by omega), h]
 ·rw [if_neg h]
  by_cases h2 : a < i
  ·rw [if_pos h2, if_pos (by omega)]
  ·rw [if_neg h2, if_neg (by omega)]
theorem Eb (p : Int) (r c : Nat) (f : Nat → Nat → Int) (ev : Value) (j : Nat) (h : Hp) (hr : r ≤ 400) (hc : c ≤ 400) (hj : j < c) (hR : RdL cI 1 h [] ev (mat r c f)) :
  FnT Tryz.prog 89 #[.agg #[.int .i64 p, .int .i64 r, .int .i64 c, ev], .int .i64 j] h [] (fun x h' ms' => h = h' ∧ ∃ m, ms' = [m] ∧ OwnL cI 1 3 m x (vec r fun i => f i j)) := by
 have o1 := hR.rd.one
 have hrc : r * c ≤ 400 * 400 := Nat.mul_le_mul hr hc
 refine Av func89 ntmps89 rfl rfl (fun w0 hw0 => ?_)
 simp only [A4]
 refine Ax ?_
 refine AS [_, _, _, _] rfl rfl (by rfl) rfl rfl rfl (fun g2 => ?_)
 refine Qm rfl (B3 (Qf Bh rfl (Ql rfl underlying3 (Cell.blk 0 rfl rfl) ?_)))
 refine Eu (n := r) rfl underlying24 A8 rfl rfl rfl (by rfl) (by rfl) (by omega) (by omega) rfl rfl rfl (fun g9 => ?_)
 refine Qm rfl (Aq (Ac (Ax (Qm rfl (Qx (Ml (ty := 24) rfl underlying24 rfl) rfl (Qm rfl (Aq (Ag ?_))))))))
 have hO0 := OwnL.rep (g := g9) (el := 3) r 0 (by omega)
 rw [G5] at hO0
 refine AD (fun q s hh ms' => ∃ (i : Nat) (m : Hp), q = r - i ∧ s = [(1, .int .i64 j), (2, .pointer (some ⟨g2, 0, none⟩)), (5, .slice (some ⟨g9, 0, none⟩) r r), (11, .int .i64 r), (12, .int .i64 i)] ∧ h = hh ∧ ms' = [m, AX g2 42 [.int .i64 p, .int .i64 r, .int .i64 c, ev]] ∧ i ≤ r ∧ OwnL cI 1 3 m (.slice (some ⟨g9, 0, none⟩) r r) (vec r (UJ f j i)))
  (r - 0) _ ⟨0, _, rfl, rfl, rfl, rfl, by omega, by rw [BA (f := UJ f j 0) (g := fun _ => 0) (fun a _ => if_neg (by omega))]; exact hO0⟩ Qs ?_
 rintro q s hh ms' ⟨i, m, rfl, rfl, rfl, rfl, hi, hO⟩
 refine Ax (Qm rfl (Aq (Ac ?_)))
 refine AF rfl (fun hlt => ?_) (fun hlt => ?_)
 ·have hir : i < r := by omega
  have hix := Cp hir hj
  have el : (mat r c f).length = r * c := AY _ _ _
  have el2 := AQ r (UJ f j i)
  refine Ai (Ab (Ac (Ag (Ax (Qm rfl (Qm rfl (IA (Qm rfl (Qm rfl (Qf Bc rfl (Ql rfl underlying24 (Cell.blk 1 rfl rfl) (Qm rfl (Qf A0 rfl (Ql rfl underlying3 (Cell.blk 1 rfl rfl) (Qx (oM rfl) rfl (Qm rfl (Qx (oA rfl) rfl (Qx (Ah (i * c + j) hR.rd.any rfl underlying24 A8 rfl rfl (by omega) (by omega)) rfl (Ql rfl underlying3 (hR.any.ent hir hj) (Qx (Dz (i) rfl underlying24 A8 rfl rfl (by omega) (by omega)) rfl (Bu 0 i hO rfl A8 rfl rfl rfl (by omega) rfl rfl (fun m' hO' => Ak (Aj (Ab (Ad (Qx (oA rfl) rfl (Qm rfl (Ak ?_))))))))))))))))))))))))))))
  refine Al (r - (i + 1)) _ (by omega) ⟨i + 1, m', rfl, rfl, rfl, rfl, by omega, ?_⟩ Qs
  rw [D6, BA (fun a _ => Rv f j i a)] at hO'
  exact hO'
 ·refine Aw (Aa (Aa (Af (Ab (Ax (Qm rfl (Qm rfl (Aq (Ao (AP 1 rfl ?_))))))))))
  exact Am rfl rfl (⟨rfl, m, rfl, by rw [show i = r by omega, BA (f := UJ f j r) (g := fun i => f i j) (fun a ha => if_pos ha)] at hO; exact hO⟩)
theorem Wr (n : Int) (h : Hp) (ms : List Hp) : Dq Tryz.prog 99 ([] ++ [Value.int .i64 n] ++ []).toArray h ms (.bool (decide (n ≠ 0))) := by
 refine Ds ?_ ms
 show FnT _ _ #[.int .i64 n] _ _ _
 refine Av func99 ntmps99 rfl rfl (fun w0 hw0 => ?_)
 simp only [A4]
 refine Ax (Qm rfl (B3 (Qm rfl (Qm rfl (Qm rfl (Aq (Ao ?_)))))))
 exact Am rfl rfl (rfl)
theorem UZ (l : List Int) (v : Value) (h : Hp) (hR : RdL cI 1 h [] v l) (ms : List Hp) : Dq Tryz.prog 69 #[v] h ms (.bool (decide (∀ x ∈ l, x = 0))) := by
 refine Ds ?_ ms
 refine Av func69 ntmps69 rfl rfl (fun w0 hw0 => ?_)
 simp only [A4]
 refine Ax (Qm rfl (B3 (Qm rfl (Qx (AG rfl call94 rfl (Ds (Ft l v 99 [] (fun n => decide (n ≠ 0)) h hR call99 (fun b _ ms => Wr b h ms)) _)) rfl (Qm rfl (Qm rfl (Aq (Ao ?_))))))))
 exact Am rfl rfl (by congr 1; rw [Bool.eq_iff_iff]; simp)
end Go.Proofs.YtdnelknieikbaaaGreat
namespace Go.Proofs.YtdnelknieikbaaaGreat
open Tryz
open Go.Eng Go.RowKit Go.Lin
def D2 (p : Int) (c : Nat) (f : Nat → Nat → Int) (w : Nat → Int) (i : Nat) : Int := ap f c w i % p
theorem IG (p : Int) (r c : Nat) (f : Nat → Nat → Int) (w : Nat → Int) (ev vv : Value) (h : Hp) (R : RtM p r c f) (hw : ∀ j, j < c → 0 ≤ w j ∧ w j < p) (hR : RdL cI 1 h [] ev (mat r c f)) (hV : RdL cI 1 h [] vv (vec c w)) :
  FnT Tryz.prog 67 #[.agg #[.int .i64 p, .int .i64 r, .int .i64 c, ev], vv] h [] (fun x h' ms' => h.le h' ∧ ∃ m, ms' = [m] ∧ OwnL cI 1 3 m x (vec r (D2 p c f w))) := by
 have o1 := hR.rd.one
 have o2 := hV.rd.one
 have rl := R.rl
 have cl := R.cl
 have ew := AQ c w
 have hRd : Rd h [] vv 1 c ((vec c w).flatMap cI) := by have := hV.rd; rwa [ew] at this
 refine Av func67 ntmps67 rfl rfl (fun w0 hw0 => ?_)
 simp only [A4]
 refine Ax ?_
 refine AS [_, _, _, _] rfl rfl (by rfl) rfl rfl rfl (fun g2 => ?_)
 refine Qm rfl (Aq (By 0 rfl fun h1 l1 hS => ?_))
 have hR1 := hR.up l1
 have hV1 := hV.up l1
 have hRd1 := hRd.le l1
 have hA := Seg.all hS
 have hA0 := hA 0 _ rfl
 refine Bv (fun s hh ms' => ∃ (mu : Hp) (eu : Value) (g5 : Nat), s = [(2, .pointer (some ⟨g2, 0, none⟩)), (5, .pointer (some ⟨g5, 0, none⟩))] ∧ h.le hh ∧ ms' = [mu, AX g5 42 [.int .i64 p, .int .i64 r, .int .i64 1, eu]] ∧ OwnL cI 1 3 mu eu (mat r 1 (Fb p c f fun a _ => w a))) ?_ (fun s h ms hI => ?_)
 ·have hcol : ∀ (h3 : Hp) (g : Nat), h1.le h3 → Seg h3 [] ⟨g, 0, none⟩ [vv] → RdV h3 (.slice (some ⟨g, 0, none⟩) 1 1) 1 c (fun _ => w) := fun h3 g l hG => ⟨[vv], rfl, RdL.one1 hG, fun j hj => by
   obtain rfl : j = 0 := by simpa using hj
   exact hV1.up l⟩
  refine AW (n := 15) (bs := [true, true, true, true, true, true, false, false, false, false, false, false, false, false, false]) [true, true, true, true, true, true] Cd (by kernel_rfl) (by kernel_rfl) rfl rfl (Qp rfl (oG rfl underlying42 AI (Seg.any hS)) (QF BE rfl (QL rfl underlying3 (hA0 _) (Qq rfl (Qp rfl (AJ hRd1.any rfl underlying24 rfl) (Qq rfl ?_))))))
  unfold CD
  simp only [List.cons_append, List.nil_append]
  refine A2 [6, 12] (by kernel_rfl) rfl ?_
  refine Az rfl ?_ ?_
  ·refine AB [_] rfl underlying62 BN rfl (Rd.cells ‹_›) rfl rfl (by omega) rfl rfl rfl (fun g14 => BD fun h3 l3 hG => ?_)
   have l13 := Hp.le_trans l1 l3
   refine Qa (A2 [7, 12] (by kernel_rfl) rfl ?_)
   refine Az rfl ?_ ?_
   ·refine Qc call97 rfl (Bi p c 1 (fun _ => w) _ h3 R.i64 cl (by omega) (hcol h3 _ l3 hG)) (fun v h4 ms4 l4 hF => ?_)
    obtain ⟨rfl, ec, mc, rfl, rfl, hOc⟩ := hF
    refine AH hOc fun h5 l5 hRc => ?_
    have l35 := Hp.le_trans l3 l5
    refine Qa (A2 [8, 12] (by kernel_rfl) rfl ?_)
    refine Az rfl ?_ ?_
    ·refine Qc call98 rfl (Gq p r c 1 f (fun i j => w i) ev ec h5 R ⟨R.pr, cl, by omega, fun i hi j hj => hw i hi⟩ (hR1.up l35) hRc) (fun v h6 ms6 l6 hF => ?_)
     obtain ⟨rfl, v, rfl, eu, mu, rfl, rfl, hOu⟩ := hF
     have ou : eu.oneCell' = true := (hOu.rd (h := h) (ms := [mu]) (List.Mem.head _)).rd.one
     refine Qa (An 9 7 (by kernel_rfl) rfl (by assumption) rfl (As rfl rfl) (An 10 17 (by kernel_rfl) rfl (by assumption) rfl (AC rfl rfl rfl) (An 11 18 (by kernel_rfl) rfl (by assumption) rfl (AC rfl rfl rfl) (Qo 12 rfl (BZ [.int .i64 0, .int .i64 0, .int .i64 0, .slice none 0 0] rfl AI rfl rfl (fun g5 => Qa (Qo 13 rfl ?_)))))))
     refine Sa 0 [_, _, _, _] AI rfl (by simp [ou]) ?_
     refine Qa (Qo 14 rfl (Qm rfl (Qa (Qe ?_))))
     exact A9 (AA _ ⟨mu, eu, g5, rfl, Hp.le_trans l1 l35, rfl, hOu⟩ Qs)
    refine Az rfl ?_ ?_
    ·refine BZ [.int .i64 0, .int .i64 0, .int .i64 0, .slice none 0 0] rfl AI rfl rfl (fun g5 => Qa (Qo 8 rfl ?_))
     refine Qc call98 rfl (Gq p r c 1 f (fun i j => w i) ev ec h5 R ⟨R.pr, cl, by omega, fun i hi j hj => hw i hi⟩ (hR1.up l35) hRc) (fun v h6 ms6 l6 hF => ?_)
     obtain ⟨rfl, v, rfl, eu, mu, rfl, rfl, hOu⟩ := hF
     have ou : eu.oneCell' = true := (hOu.rd (h := h) (ms := [mu]) (List.Mem.head _)).rd.one
     refine Qa (An 9 7 (by kernel_rfl) rfl (by assumption) rfl (As rfl rfl) (An 10 17 (by kernel_rfl) rfl (by assumption) rfl (AC rfl rfl rfl) (An 11 18 (by kernel_rfl) rfl (by assumption) rfl (AC rfl rfl rfl) (Qo 13 rfl ?_))))
     refine Sa 1 [_, _, _, _] AI rfl (by simp [ou]) ?_
     refine Qa (Qo 14 rfl (Qm rfl (Qa (Qe ?_))))
     exact AA _ ⟨mu, eu, g5, rfl, Hp.le_trans l1 l35, rfl, hOu⟩ Qs
    exact A3
   refine Az rfl ?_ ?_
   ·refine BZ [.int .i64 0, .int .i64 0, .int .i64 0, .slice none 0 0] rfl AI rfl rfl (fun g5 => Qa (Qo 7 rfl (Qc call97 rfl (Bi p c 1 (fun _ => w) _ h3 R.i64 cl (by omega) (hcol h3 _ l3 hG)) (fun v h4 ms4 l4 hF => ?_))))
    obtain ⟨rfl, ec, mc, rfl, rfl, hOc⟩ := hF
    refine AH hOc fun h5 l5 hRc => ?_
    have l35 := Hp.le_trans l3 l5
    refine Qa (Qo 8 rfl ?_)
    refine Qc call98 rfl (Gq p r c 1 f (fun i j => w i) ev ec h5 R ⟨R.pr, cl, by omega, fun i hi j hj => hw i hi⟩ (hR1.up l35) hRc) (fun v h6 ms6 l6 hF => ?_)
    obtain ⟨rfl, v, rfl, eu, mu, rfl, rfl, hOu⟩ := hF
    have ou : eu.oneCell' = true := (hOu.rd (h := h) (ms := [mu]) (List.Mem.head _)).rd.one
    refine Qa (An 9 7 (by kernel_rfl) rfl (by assumption) rfl (As rfl rfl) (An 10 17 (by kernel_rfl) rfl (by assumption) rfl (AC rfl rfl rfl) (An 11 18 (by kernel_rfl) rfl (by assumption) rfl (AC rfl rfl rfl) (Qo 13 rfl ?_))))
    refine Sa 1 [_, _, _, _] AI rfl (by simp [ou]) ?_
    refine Qa (Qo 14 rfl (Qm rfl (Qa (Qe ?_))))
    exact AA _ ⟨mu, eu, g5, rfl, Hp.le_trans l1 l35, rfl, hOu⟩ Qs
   exact A3
  refine Az rfl ?_ ?_
  ·refine BZ [.int .i64 0, .int .i64 0, .int .i64 0, .slice none 0 0] rfl AI rfl rfl (fun g5 => Qw (Qo 6 rfl (AB [_] rfl underlying62 BN rfl (Rd.cells ‹_›) rfl rfl (by omega) rfl rfl rfl (fun g14 => BD fun h3 l3 hG => ?_))))
   have l13 := Hp.le_trans l1 l3
   refine Qa (Qo 7 rfl (Qc call97 rfl (Bi p c 1 (fun _ => w) _ h3 R.i64 cl (by omega) (hcol h3 _ l3 hG)) (fun v h4 ms4 l4 hF => ?_)))
   obtain ⟨rfl, ec, mc, rfl, rfl, hOc⟩ := hF
   refine AH hOc fun h5 l5 hRc => ?_
   have l35 := Hp.le_trans l3 l5
   refine Qa (Qo 8 rfl ?_)
   refine Qc call98 rfl (Gq p r c 1 f (fun i j => w i) ev ec h5 R ⟨R.pr, cl, by omega, fun i hi j hj => hw i hi⟩ (hR1.up l35) hRc) (fun v h6 ms6 l6 hF => ?_)
   obtain ⟨rfl, v, rfl, eu, mu, rfl, rfl, hOu⟩ := hF
   have ou : eu.oneCell' = true := (hOu.rd (h := h) (ms := [mu]) (List.Mem.head _)).rd.one
   refine Qa (An 9 7 (by kernel_rfl) rfl (by assumption) rfl (As rfl rfl) (An 10 17 (by kernel_rfl) rfl (by assumption) rfl (AC rfl rfl rfl) (An 11 18 (by kernel_rfl) rfl (by assumption) rfl (AC rfl rfl rfl) (Qo 13 rfl ?_))))
   refine Sa 1 [_, _, _, _] AI rfl (by simp [ou]) ?_
   refine Qa (Qo 14 rfl (Qm rfl (Qa (Qe ?_))))
   exact AA _ ⟨mu, eu, g5, rfl, Hp.le_trans l1 l35, rfl, hOu⟩ Qs
  exact A3
 obtain ⟨mu, eu, g5, rfl, hl, rfl, hOu⟩ := hI
 ·refine Ac (Ad (Qx (oG rfl underlying42 AI (Seg.blk 1 rfl)) rfl (AH hOu fun h7 l7 hRu => (Qc call89 rfl (Eb p r 1 (Fb p c f fun a _ => w a) eu 0 h7 rl (by omega) (by omega) hRu) (fun x h8 ms8 l8 hF => ?_)))))
  obtain ⟨rfl, m, rfl, hO⟩ := hF
  refine Qm rfl (Aq (Ao (AP 1 rfl ?_)))
  exact Am rfl rfl (⟨Hp.le_trans hl l7, m, rfl, hO⟩)
end Go.Proofs.YtdnelknieikbaaaGreat
namespace Go.Proofs.YtdnelknieikbaaaGreat
open Tryz
open Go.Eng Go.RowKit Go.Lin
variable {l : List Int}
def Rp : List Int → Int
 | [] => 0
 | a :: l => l.foldl min a
def Qj : List Int → Int
 | [] => 0
 | a :: l => l.foldl max a
theorem Hl : ∀ (l : List Int) (a : Int), l.foldl min a ≤ a ∧ (∀ x ∈ l, l.foldl min a ≤ x) ∧ (l.foldl min a = a ∨ l.foldl min a ∈ l)
 | [], a => ⟨Int.le_refl _, by simp, .inl rfl⟩
 | b :: l, a => by
  obtain ⟨h1, h2, h3⟩ := Hl l (min a b)
  rw [List.foldl_cons]
  refine ⟨by omega, fun x hx => ?_, ?_⟩
  ·rcases List.mem_cons.1 hx with rfl | hx
   ·omega
   ·exact h2 x hx
  ·rcases h3 with h3 | h3
   ·rw [h3]
    rcases (by omega : min a b = a ∨ min a b = b) with h | h
    ·exact .inl h
    ·exact .inr (by rw [h]; exact List.mem_cons_self)
   ·exact .inr (List.mem_cons_of_mem _ h3)
theorem Gz : ∀ (l : List Int) (a : Int), a ≤ l.foldl max a ∧ (∀ x ∈ l, x ≤ l.foldl max a) ∧ (l.foldl max a = a ∨ l.foldl max a ∈ l)
 | [], a => ⟨Int.le_refl _, by simp, .inl rfl⟩
 | b :: l, a => by
  obtain ⟨h1, h2, h3⟩ := Gz l (max a b)
  rw [List.foldl_cons]
  refine ⟨by omega, fun x hx => ?_, ?_⟩
  ·rcases List.mem_cons.1 hx with rfl | hx
   ·omega
   ·exact h2 x hx
  ·rcases h3 with h3 | h3
   ·rw [h3]
    rcases (by omega : max a b = a ∨ max a b = b) with h | h
    ·exact .inl h
    ·exact .inr (by rw [h]; exact List.mem_cons_self)
   ·exact .inr (List.mem_cons_of_mem _ h3)
theorem LW (hl : 0 < l.length) : Rp l < 0 ↔ ∃ x ∈ l, x < 0 := by
 cases l with
 | nil => simp at hl
 | cons a l =>
  obtain ⟨h1, h2, h3⟩ := Hl l a
  show l.foldl min a < 0 ↔ _
  constructor
  ·intro h
   rcases h3 with h3 | h3
   ·exact ⟨a, List.mem_cons_self, by omega⟩
   ·exact ⟨_, List.mem_cons_of_mem _ h3, h⟩
  ·rintro ⟨x, hx, h⟩
   rcases List.mem_cons.1 hx with rfl | hx
   ·omega
   ·have := h2 x hx; omega
theorem KO (hl : 0 < l.length) (n : Int) : n < Qj l ↔ ∃ x ∈ l, n < x := by
 cases l with
 | nil => simp at hl
 | cons a l =>
  obtain ⟨h1, h2, h3⟩ := Gz l a
  show n < l.foldl max a ↔ _
  constructor
  ·intro h
   rcases h3 with h3 | h3
   ·exact ⟨a, List.mem_cons_self, by omega⟩
   ·exact ⟨_, List.mem_cons_of_mem _ h3, h⟩
  ·rintro ⟨x, hx, h⟩
   rcases List.mem_cons.1 hx with rfl | hx
   ·omega
   ·have := h2 x hx; omega
theorem OP {k : Nat} (hk : k < l.length) (h0 : 0 < k) : Rp (l.take (k + 1)) = min (Rp (l.take k)) l[k] := by
 cases l with
 | nil => simp at hk
 | cons a l =>
  obtain ⟨k, rfl⟩ : ∃ j, k = j + 1 := ⟨k - 1, by omega⟩
  simp only [List.length_cons] at hk
  have hk' : k < l.length := by omega
  rw [List.take_succ_cons, List.take_succ_cons]
  show (l.take (k + 1)).foldl min a = min ((l.take k).foldl min a) l[k]
  rw [List.take_add_one, List.getElem?_eq_getElem hk', Option.toList_some, List.foldl_append]
  rfl
theorem Pn {k : Nat} (hk : k < l.length) (h0 : 0 < k) : Qj (l.take (k + 1)) = max (Qj (l.take k)) l[k] := by
 cases l with
 | nil => simp at hk
 | cons a l =>
  obtain ⟨k, rfl⟩ : ∃ j, k = j + 1 := ⟨k - 1, by omega⟩
  simp only [List.length_cons] at hk
  have hk' : k < l.length := by omega
  rw [List.take_succ_cons, List.take_succ_cons]
  show (l.take (k + 1)).foldl max a = max ((l.take k).foldl max a) l[k]
  rw [List.take_add_one, List.getElem?_eq_getElem hk', Option.toList_some, List.foldl_append]
  rfl
theorem VL (l : List Int) (v : Value) (h : Hp) (hR : RdL cI 1 h [] v l) (hl : 0 < l.length) (ms : List Hp) : Dq Tryz.prog 71 #[v] h ms (.int .i64 (Rp l)) := by
 refine Ds ?_ ms
 have hle := hR.len_le
 refine Av func71 ntmps71 rfl rfl (fun w0 hw0 => ?_)
 simp only [A4]
 refine Ax (Qm rfl (Aq (Ac (Ax (Qm rfl (Qx (AJ hR.rd.any rfl underlying24 rfl) rfl (Qm rfl (Aq (AF rfl (fun hc => absurd hc (by omega)) (fun hc => Ai (Ab (Ax (Qm rfl (Qx (Ah 0 hR.rd.any rfl underlying24 A8 rfl rfl rfl (by omega)) rfl (Ql rfl underlying3 (hR.any.cell0 hl rfl) (Qm rfl (Aq (Ac (Ax (Qm rfl (Aq (Ag ?_))))))))))))))))))))))
 refine AD (fun q s h' ms' => ∃ (k : Nat) (y : Int), q = l.length - k ∧ s = [(0, v), (3, .int .i64 y), (4, .int .i64 k)] ∧ h = h' ∧ ms' = [] ∧ y = Rp (l.take k) ∧ 0 < k ∧ k ≤ l.length)
  (l.length - 1) _ ⟨1, _, rfl, rfl, rfl, rfl, ?_, by omega, by omega⟩ Qs ?_
 ·cases l with
  | nil => simp at hl
  | cons a l => rfl
 rintro q s h' ms' ⟨k, y, rfl, rfl, rfl, rfl, hy, h0, hk⟩
 refine Ac (Ax (Qm rfl (Qm rfl (Qx (AJ hR.rd.any rfl underlying24 rfl) rfl (Qm rfl (Aq ?_))))))
 refine AF rfl (fun hlt => ?_) (fun hlt => ?_)
 ·have hlt' : k < l.length := by omega
  have htk := OP hlt' h0
  refine Ai (Ab (Ac (Ag (Ad (Qm rfl (Qm rfl (Qm rfl (Qx (Ah _ hR.rd.any rfl underlying24 A8 rfl rfl rfl (by omega)) rfl (Ql rfl underlying3 (hR.any.cell0 hlt' rfl) (Qx (MX rfl rfl rfl) rfl (Qm rfl (Ak (Aj (Ab (Ad (Qm rfl (Qx (oA rfl) rfl (Qm rfl (Ak ?_)))))))))))))))))))
  refine Al (l.length - (k + 1)) _ (by omega) ⟨k + 1, min y l[k], rfl, rfl, rfl, rfl, by rw [htk, hy], by omega, by omega⟩ Qs
 ·refine Aw (Aa (Aa (Af (Ab (Ax (Qm rfl (Qm rfl (Aq (Ao ?_)))))))))
  exact Am rfl rfl (by rw [hy, List.take_of_length_le (show l.length ≤ k by omega)])
theorem V7 (l : List Int) (v : Value) (h : Hp) (hR : RdL cI 1 h [] v l) (hl : 0 < l.length) (ms : List Hp) : Dq Tryz.prog 72 #[v] h ms (.int .i64 (Qj l)) := by
 refine Ds ?_ ms
 have hle := hR.len_le
 refine Av func72 ntmps72 rfl rfl (fun w0 hw0 => ?_)
 simp only [A4]
 refine Ax (Qm rfl (Aq (Ac (Ax (Qm rfl (Qx (AJ hR.rd.any rfl underlying24 rfl) rfl (Qm rfl (Aq (AF rfl (fun hc => absurd hc (by omega)) (fun hc => Ai (Ab (Ax (Qm rfl (Qx (Ah 0 hR.rd.any rfl underlying24 A8 rfl rfl rfl (by omega)) rfl (Ql rfl underlying3 (hR.any.cell0 hl rfl) (Qm rfl (Aq (Ac (Ax (Qm rfl (Aq (Ag ?_))))))))))))))))))))))
 refine AD (fun q s h' ms' => ∃ (k : Nat) (y : Int), q = l.length - k ∧ s = [(0, v), (3, .int .i64 y), (4, .int .i64 k)] ∧ h = h' ∧ ms' = [] ∧ y = Qj (l.take k) ∧ 0 < k ∧ k ≤ l.length)
  (l.length - 1) _ ⟨1, _, rfl, rfl, rfl, rfl, ?_, by omega, by omega⟩ Qs ?_
 ·cases l with
  | nil => simp at hl
  | cons a l => rfl
 rintro q s h' ms' ⟨k, y, rfl, rfl, rfl, rfl, hy, h0, hk⟩
 refine Ac (Ax (Qm rfl (Qm rfl (Qx (AJ hR.rd.any rfl underlying24 rfl) rfl (Qm rfl (Aq ?_))))))
 refine AF rfl (fun hlt => ?_) (fun hlt => ?_)
 ·have hlt' : k < l.length := by omega
  have htk := Pn hlt' h0
  refine Ai (Ab (Ac (Ag (Ad (Qm rfl (Qm rfl (Qm rfl (Qx (Ah _ hR.rd.any rfl underlying24 A8 rfl rfl rfl (by omega)) rfl (Ql rfl underlying3 (hR.any.cell0 hlt' rfl) (Qx (JV rfl rfl rfl) rfl (Qm rfl (Ak (Aj (Ab (Ad (Qm rfl (Qx (oA rfl) rfl (Qm rfl (Ak ?_)))))))))))))))))))
  refine Al (l.length - (k + 1)) _ (by omega) ⟨k + 1, max y l[k], rfl, rfl, rfl, rfl, by rw [htk, hy], by omega, by omega⟩ Qs
 ·refine Aw (Aa (Aa (Af (Ab (Ax (Qm rfl (Qm rfl (Aq (Ao ?_)))))))))
  exact Am rfl rfl (by rw [hy, List.take_of_length_le (show l.length ≤ k by omega)])
end Go.Proofs.YtdnelknieikbaaaGreat
namespace Go.Proofs.YtdnelknieikbaaaGreat
open Tryz
open Go.Eng Go.RowKit Go.Lin
variable {h : Hp} {ms : List Hp}
structure Ar where
 b : Bool
 M : FM
 v : Value
def cA (a : Ar) : List Value := [.bool a.b, .int .i64 a.M.p, .int .i64 a.M.rows, .int .i64 a.M.cols, a.v]
theorem Fm : ∀ a, (cA a).length = 5 := fun _ => rfl
structure Zz where
 p : Int
 dims : List Int
 ars : List Ar
def Zz.dim (Z : Zz) (k : Nat) : Int := Z.dims.getD k 0
structure Zz.Ok (Z : Zz) : Prop where
 p : Dh Z.p
 d : ∀ x ∈ Z.dims, Dh x
 m : ∀ a ∈ Z.ars, a.M.Ok
structure RdZ (h : Hp) (vd va : Value) (Z : Zz) : Prop where
 d : RdL cI 1 h [] vd Z.dims
 a : RdL cA 5 h [] va Z.ars
 e : ∀ a ∈ Z.ars, RdL cI 1 h [] a.v a.M.e
theorem RdZ.up {h' : Hp} {vd va : Value} {Z : Zz} (R : RdZ h vd va Z) (hl : h.le h') : RdZ h' vd va Z := ⟨R.d.up hl, R.a.up hl, fun a ha => (R.e a ha).up hl⟩
def Ar.src (a : Ar) (k : Nat) : Nat := if a.b then k + 1 else k
def Ar.tgt (a : Ar) (k : Nat) : Nat := if a.b then k else k + 1
def Zz.Fit (Z : Zz) (k : Nat) (a : Ar) : Prop := a.M.Rt ∧ a.M.p = Z.p ∧ a.M.cols = Z.dim (a.src k) ∧ a.M.rows = Z.dim (a.tgt k)
instance (Z : Zz) (k : Nat) (a : Ar) : Decidable (Z.Fit k a) := by unfold Zz.Fit; infer_instance
def Zz.Rt (Z : Zz) : Prop := 1 ≤ Z.dims.length ∧ Z.dims.length ≤ 100 ∧ (Z.ars.length : Int) = (Z.dims.length : Int) - 1 ∧ IsP Z.p ∧ (∀ x ∈ Z.dims, 0 ≤ x ∧ x ≤ 200) ∧ ∀ k (hk : k < Z.ars.length), Z.Fit k Z.ars[k]
instance (Z : Zz) : Decidable Z.Rt := by unfold Zz.Rt; infer_instance
theorem UP (Z : Zz) (vd va : Value) (k : Nat) (h : Hp) (hR : RdZ h vd va Z) (hk : k < Z.ars.length) (ms : List Hp) :
  Dq Tryz.prog 65 #[.agg #[.int .i64 Z.p, vd, va], .int .i64 k] h ms (.tuple #[.int .i64 ((Z.ars[k]).src k : Nat), .int .i64 ((Z.ars[k]).tgt k : Nat)]) := by
 refine Ds ?_ ms
 have hl := hR.a.len_le
 have o1 := hR.d.rd.one
 have o2 := hR.a.rd.one
 refine Av func65 ntmps65 rfl rfl (fun w0 hw0 => ?_)
 simp only [A4]
 refine Ax ?_
 refine AS [_, _, _] rfl rfl (by rfl) rfl rfl rfl (fun g2 => ?_)
 refine Qm rfl (Qm rfl (Aq (Ac (Ax (Qf BQ rfl (Ql rfl underlying28 (Cell.blk 0 rfl rfl) (Qm rfl (Qx (Ah _ hR.a.rd.any rfl underlying28 Cr rfl rfl rfl (by omega)) rfl (Qf EK rfl (Ql rfl underlying4 (hR.a.any.cell hk rfl) (Aq ?_)))))))))))
 refine BJ rfl (fun hb => ?_) (fun hb => ?_)
 ·refine Ac (Ad (Qm rfl (Qx (oA rfl) rfl (Qm rfl (Qm rfl (Qm rfl (Aq (Ao (Ae ?_)))))))))
  exact FX rfl rfl rfl (by unfold Ar.src Ar.tgt; rw [hb]; rfl)
 ·refine Ai (Ab (Ax (Qm rfl (Qm rfl (Qx (oA rfl) rfl (Qm rfl (Qm rfl (Aq (Ao ?_)))))))))
  exact FX rfl rfl rfl (by unfold Ar.src Ar.tgt; rw [hb]; rfl)
theorem N7 {g : Nat} {a b c d e : Value} {i : Nat} (hm : ms[i]? = some (AX g 45 [a, b, c, d, e])) : Seg h ms ((⟨g, 0, none⟩ : Addr).add 1) [b, c, d, e] := fun k u hu => by
 rw [A6]
 refine Cell.blk i hm ?_
 rw [Nat.add_comm]
 exact hu
theorem I9 {g : Nat} {a b c d e u : Value} {i k : Nat} (hm : ms[i]? = some (AX g 45 [a, b, c, d, e])) (hk : ([b, c, d, e] : List Value)[k]? = some u) : Cell h ms (((⟨g, 0, none⟩ : Addr).add 1).add k) u := N7 hm k u hk
theorem H8 {vd va : Value} {Z : Zz} (hR : RdZ h vd va Z) {k : Nat} (hk : k < Z.dims.length) : Cell h ms ((Bl vd).add (k * 1)) (.int .i64 (Z.dim k)) := by
 have := hR.d.any (ms := ms) |>.cell0 hk (u := .int .i64 Z.dims[k]) rfl
 have e : Z.dims[k] = Z.dim k := by unfold Zz.dim; simp [List.getD_eq_getElem?_getD, hk]
 rw [e] at this
 exact this
theorem FT (Z : Zz) (vd va : Value) (h : Hp) (hO : Z.Ok) (hR : RdZ h vd va Z) :
  FnT Tryz.prog 35 #[.agg #[.int .i64 Z.p, vd, va]] h [] (fun r _ _ => r = .bool (decide Z.Rt)) := by
 have hl := hR.a.len_le
 have hld := hR.d.len_le
 have o1 := hR.d.rd.one
 have o2 := hR.a.rd.one
 refine Av func35 ntmps35 rfl rfl (fun w0 hw0 => ?_)
 simp only [A4]
 refine Ax ?_
 refine AS [_, _, _] rfl rfl (by rfl) rfl rfl rfl (fun g1 => ?_)
 refine Qm rfl (Aq (AL fun h' hle hS => ?_))
 have hR := hR.up hle
 have hA := Seg.all hS
 have hA0 := hA 0 _ rfl
 refine Ax (Qf Bn rfl (Ql rfl underlying24 (hA _ _ rfl _) (Qx (AJ hR.d.rd.any rfl underlying24 rfl) rfl (Qm rfl (Aq (Ac (Ax (Qm rfl (Qm rfl (Qm rfl ?_))))))))))
 refine AR (t := 13) rfl (fun hs1 => ?_) (fun hs1 => ?_)
 ·refine Qk rfl (Qk rfl (Qm rfl (Qm rfl (Qk rfl (Qk rfl (Qk rfl (Qk rfl (Qk rfl (Qk rfl (Qm rfl (Qm rfl (Qk rfl (Qk rfl (Qk rfl (Qk rfl (Qm rfl (Aq (AU rfl (Ax (Qm rfl (Aq (Ao (Ae ?_)))))))))))))))))))))))
  exact Am rfl rfl (by rw [decide_eq_false]; rintro ⟨h1, _⟩; omega)
 ·refine Qg (As rfl rfl) rfl (Qg (Dd rfl rfl rfl) rfl (Qm rfl (Qm rfl ?_)))
  refine AR (t := 17) rfl (fun hs2 => ?_) (fun hs2 => ?_)
  ·refine Qk rfl (Qk rfl (Qk rfl (Qk rfl (Qk rfl (Qk rfl (Qm rfl (Qm rfl (Qk rfl (Qk rfl (Qk rfl (Qk rfl (Qm rfl (Aq (AU rfl (Ax (Qm rfl (Aq (Ao (Ae ?_)))))))))))))))))))
   exact Am rfl rfl (by rw [decide_eq_false]; rintro ⟨_, h1, _⟩; omega)
  ·refine Qg (oF BQ rfl) rfl (Qg (oL rfl underlying28 (hA _ _ rfl _)) rfl (Qg (AJ hR.a.rd.any rfl underlying28 rfl) rfl (Qg (As rfl rfl) rfl (Qg (oS rfl) rfl (Qg (B4 rfl rfl rfl) rfl (Qm rfl (Qm rfl ?_)))))))
   refine AR (t := 25) rfl (fun hs3 => ?_) (fun hs3 => ?_)
   ·refine Qk rfl (Qk rfl (Qk rfl (Qk rfl (Qm rfl (Aq (AU rfl (Ax (Qm rfl (Aq (Ao (Ae ?_)))))))))))
    exact Am rfl rfl (by rw [decide_eq_false]; rintro ⟨_, _, h1, _⟩; omega)
   ·refine Qg (oF CG rfl) rfl (Qg (oL rfl underlying3 (hA0 _)) rfl (Qg (AG rfl call70 rfl (N3 _ _ hO.p _)) rfl (Qg (CP rfl rfl) rfl (Qm rfl (Aq ?_)))))
    refine BJ rfl (fun hp => ?_) (fun hp => ?_)
    ·have hp : ¬ IsP Z.p := by simpa using hp
     refine Ax (Qm rfl (Aq (Ao (Ae ?_))))
     exact Am rfl rfl (by rw [decide_eq_false]; rintro ⟨_, _, _, h1, _⟩; exact hp h1)
    ·have hp : IsP Z.p := by simpa using hp
     have hd0 : 0 < Z.dims.length := by omega
     have hlen : (Z.ars.length : Int) = (Z.dims.length : Int) - 1 := by omega
     refine Ai (Ab (Ac (Ax (Qf Bn rfl (Ql rfl underlying24 (hA _ _ rfl _) (Qx (AG rfl call71 rfl (VL _ _ _ hR.d hd0 _)) rfl (Qm rfl (Qm rfl ?_))))))))
     refine AR (t := 35) rfl (fun hm1 => ?_) (fun hm1 => ?_)
     ·obtain ⟨x, hx, hx0⟩ := (LW hd0).1 hm1
      refine Qk rfl (Qk rfl (Qk rfl (Qk rfl (Qm rfl (Aq (AU rfl (Ax (Qm rfl (Aq (Ao (Ae ?_)))))))))))
      exact Am rfl rfl (by rw [decide_eq_false]; rintro ⟨_, _, _, _, h1, _⟩; have := h1 x hx; omega)
     ·refine Qg (oF Bn rfl) rfl (Qg (oL rfl underlying24 (hA _ _ rfl _)) rfl (Qg (AG rfl call72 rfl (V7 _ _ _ hR.d hd0 _)) rfl (Qg (Dd rfl rfl rfl) rfl (Qm rfl (Aq ?_)))))
      refine AF rfl (fun hm2 => ?_) (fun hm2 => ?_)
      ·obtain ⟨x, hx, hx0⟩ := (KO hd0 200).1 hm2
       refine Ax (Qm rfl (Aq (Ao (Ae ?_))))
       exact Am rfl rfl (by rw [decide_eq_false]; rintro ⟨_, _, _, _, h1, _⟩; have := h1 x hx; omega)
      ·have hdims : ∀ x ∈ Z.dims, 0 ≤ x ∧ x ≤ 200 := fun x hx => ⟨Int.not_lt.1 fun hn => hm1 ((LW hd0).2 ⟨x, hx, hn⟩), Int.not_lt.1 fun hn => hm2 ((KO hd0 200).2 ⟨x, hx, hn⟩)⟩
       refine Ai (Ab (Ac (Ax (Qf BQ rfl (Ql rfl underlying28 (hA _ _ rfl _) (Qx (AJ hR.a.rd.any rfl underlying28 rfl) rfl (Qm rfl (Aq (Ag ?_)))))))))
       refine AD (fun q s hh ms' => ∃ (k : Nat), q = Z.ars.length - k ∧ s = [(1, .pointer (some ⟨g1, 0, none⟩)), (42, va), (43, .int .i64 Z.ars.length), (44, .int .i64 k)] ∧ h' = hh ∧ ms' = [] ∧ k ≤ Z.ars.length ∧ ∀ j (hj : j < Z.ars.length), j < k → Z.Fit j Z.ars[j])
        (Z.ars.length - 0) _ ⟨0, rfl, rfl, rfl, rfl, by omega, fun j hj h => by omega⟩ Qs ?_
       rintro q s hh ms' ⟨k, rfl, rfl, rfl, rfl, hk, hfit⟩
       refine Ax (Qm rfl (Aq (Ac ?_)))
       refine AF rfl (fun hlt => ?_) (fun hlt => ?_)
       ·have hk' : k < Z.ars.length := by omega
        have hmem : Z.ars[k] ∈ Z.ars := List.getElem_mem hk'
        have hRe := hR.e _ hmem
        have hMO := hO.m _ hmem
        have oa := hRe.rd.one
        have hsrc : (Z.ars[k]).src k < Z.dims.length := by unfold Ar.src; split <;> omega
        have htgt : (Z.ars[k]).tgt k < Z.dims.length := by unfold Ar.tgt; split <;> omega
        refine Ai (Ab (Ac (Ag (Ax (Qm rfl (Qx (Ah _ hR.a.rd.any rfl underlying28 Cr rfl rfl rfl (by omega)) rfl (Qx (oG rfl underlying45 Cr (hR.a.any.seg hk')) rfl (BZ [.bool false, .int .i64 0, .int .i64 0, .int .i64 0, .slice none 0 0] rfl Cr rfl rfl (fun g5 => Qm rfl ?_)))))))))
        refine Sa 0 [_, _, _, _, _] Cr rfl (by simp [oa]) ?_
        refine B3 (Qx (oG rfl underlying30 Bz (Seg.any hS)) rfl (Qm rfl (Qx (AG rfl call65 rfl (UP Z vd va k h' hR hk' _)) rfl (Qm rfl (Qm rfl (Qm rfl (Qm rfl (Qm rfl (Aq (Ac (BB 32 Cd (by kernel_rfl) rfl (Wf Ca rfl (AV (oG rfl underlying42 AI (N7 (i := 0) rfl)) rfl rfl (AV (AG rfl call73 rfl (Ds (GX (Z.ars[k]).M (Z.ars[k]).v h' hMO hRe) _)) rfl rfl (Wm rfl (Wm rfl ?_))))))))))))))))
        refine OQ (t := 59) rfl (fun hb1 => ?_) (fun hb1 => ?_)
        ·refine AN rfl rfl rfl rfl rfl (AN rfl rfl rfl rfl rfl (AN rfl rfl rfl rfl rfl (AN rfl rfl rfl rfl rfl (AN rfl rfl rfl rfl rfl (AN rfl rfl rfl rfl rfl (Wm rfl (Wm rfl (AN rfl rfl rfl rfl rfl (AN rfl rfl rfl rfl rfl (AN rfl rfl rfl rfl rfl (AN rfl rfl rfl rfl rfl (AN rfl rfl rfl rfl rfl (AN rfl rfl rfl rfl rfl (AN rfl rfl rfl rfl rfl (AN rfl rfl rfl rfl rfl (AN rfl rfl rfl rfl rfl (Wm rfl (Wm rfl (AN rfl rfl rfl rfl rfl (AN rfl rfl rfl rfl rfl (AN rfl rfl rfl rfl rfl (AN rfl rfl rfl rfl rfl (AN rfl rfl rfl rfl rfl (AN rfl rfl rfl rfl rfl (AN rfl rfl rfl rfl rfl (AN rfl rfl rfl rfl rfl (BC (Qk rfl (Qm rfl (Aq (AU rfl (Ax (Qm rfl (Aq (Ao (Ap (Ae (Ae (Ap ?_)))))))))))))))))))))))))))))))))))))))
         refine Ae ?_
         exact Am rfl rfl (by rw [decide_eq_false]; rintro ⟨_, _, _, _, _, h1⟩; have := (h1 k hk').1; simp [this] at hb1)
        ·have hb1 : (Z.ars[k]).M.Rt := by simpa using hb1
         refine Bp (oF Ca rfl) rfl rfl rfl rfl (Bp (oF BE rfl) rfl rfl rfl rfl (Bp (oL rfl underlying3 (I9 (i := 0) rfl rfl)) rfl rfl rfl rfl (Bp (oF CG rfl) rfl rfl rfl rfl (Bp (oL rfl underlying3 (hA0 _)) rfl rfl rfl rfl (Bp (B4 rfl rfl rfl) rfl rfl rfl rfl (Wm rfl (Wm rfl ?_)))))))
         refine DR (t := 67) rfl (fun hb2 => ?_) (fun hb2 => ?_)
         ·refine AN rfl rfl rfl rfl rfl (AN rfl rfl rfl rfl rfl (AN rfl rfl rfl rfl rfl (AN rfl rfl rfl rfl rfl (AN rfl rfl rfl rfl rfl (AN rfl rfl rfl rfl rfl (AN rfl rfl rfl rfl rfl (AN rfl rfl rfl rfl rfl (AN rfl rfl rfl rfl rfl (Wm rfl (Wm rfl (AN rfl rfl rfl rfl rfl (AN rfl rfl rfl rfl rfl (AN rfl rfl rfl rfl rfl (AN rfl rfl rfl rfl rfl (AN rfl rfl rfl rfl rfl (AN rfl rfl rfl rfl rfl (AN rfl rfl rfl rfl rfl (AN rfl rfl rfl rfl rfl (BC (Qk rfl (Qm rfl (Aq (AU rfl (Ax (Qm rfl (Aq (Ao (Ap (Ae (Ae (Ap (Ae ?_))))))))))))))))))))))))))))))))
          exact Am rfl rfl (by rw [decide_eq_false]; rintro ⟨_, _, _, _, _, h1⟩; exact hb2 (h1 k hk').2.1)
         ·refine Bp (oF Ca rfl) rfl rfl rfl rfl (Bp (oF A0 rfl) rfl rfl rfl rfl (Bp (oL rfl underlying3 (I9 (i := 0) rfl rfl)) rfl rfl rfl rfl (Bp (oF Bn rfl) rfl rfl rfl rfl (Bp (oL rfl underlying24 (hA _ _ rfl _)) rfl rfl rfl rfl (Bp (As rfl rfl) rfl rfl rfl rfl (Bp (Ah _ hR.d.rd.any rfl underlying24 A8 rfl rfl rfl (by omega)) rfl rfl rfl rfl (Bp (oL rfl underlying3 (H8 hR hsrc)) rfl rfl rfl rfl (Bp (B4 rfl rfl rfl) rfl rfl rfl rfl (Wm rfl (Wm rfl ?_))))))))))
          refine DR (t := 78) rfl (fun hb3 => ?_) (fun hb3 => ?_)
          ·refine AN rfl rfl rfl rfl rfl (AN rfl rfl rfl rfl rfl (AN rfl rfl rfl rfl rfl (AN rfl rfl rfl rfl rfl (AN rfl rfl rfl rfl rfl (AN rfl rfl rfl rfl rfl (AN rfl rfl rfl rfl rfl (AN rfl rfl rfl rfl rfl (BC (Qk rfl (Qm rfl (Aq (AU rfl (Ax (Qm rfl (Aq (Ao (Ap (Ae (Ae (Ap (Ae ?_)))))))))))))))))))))
           exact Am rfl rfl (by rw [decide_eq_false]; rintro ⟨_, _, _, _, _, h1⟩; exact hb3 (h1 k hk').2.2.1)
          ·refine Bp (oF Ca rfl) rfl rfl rfl rfl (Bp (oF Bh rfl) rfl rfl rfl rfl (Bp (oL rfl underlying3 (I9 (i := 0) rfl rfl)) rfl rfl rfl rfl (Bp (oF Bn rfl) rfl rfl rfl rfl (Bp (oL rfl underlying24 (hA _ _ rfl _)) rfl rfl rfl rfl (Bp (As rfl rfl) rfl rfl rfl rfl (Bp (Ah _ hR.d.rd.any rfl underlying24 A8 rfl rfl rfl (by omega)) rfl rfl rfl rfl (Bp (oL rfl underlying3 (H8 hR htgt)) rfl rfl rfl rfl (BC (Qg (B4 rfl rfl rfl) rfl (Qm rfl (Aq ?_)))))))))))
           refine AF rfl (fun hb4 => ?_) (fun hb4 => ?_)
           ·refine Ac (Ad (Qm rfl (Aq (Ao (Ap (Ae (Ae (Ap (Ae ?_)))))))))
            exact Am rfl rfl (by rw [decide_eq_false]; rintro ⟨_, _, _, _, _, h1⟩; exact hb4 (h1 k hk').2.2.2)
           ·refine Ai (Aj (Ab (Ad (Qx (oA rfl) rfl (Qm rfl (Ak (A5 ?_)))))))
            refine Al (Z.ars.length - (k + 1)) _ (by omega) ⟨k + 1, rfl, rfl, rfl, rfl, by omega, fun j hj h1 => ?_⟩ Qs
            rcases (by omega : j < k ∨ j = k) with h2 | rfl
            ·exact hfit j hj h2
            ·exact ⟨hb1, Decidable.not_not.1 hb2, Decidable.not_not.1 hb3, Decidable.not_not.1 hb4⟩
       ·refine Aw (Aa (Aa (Af (Ab (Ax (Qm rfl (Aq (Ao ?_))))))))
        exact Am rfl rfl (by rw [decide_eq_true]; exact ⟨by omega, by omega, hlen, hp, hdims, fun j hj => hfit j hj (by omega)⟩)
end Go.Proofs.YtdnelknieikbaaaGreat
namespace Go.Proofs.YtdnelknieikbaaaGreat
open Tryz
open Go.Eng Go.RowKit Go.Lin
theorem FQ {h : Hp} {ms : List Hp} {vd va : Value} {Z : Zz} (hR : RdZ h vd va Z) {k : Nat} (hk : k < Z.ars.length) : Seg h ms (((Bl va).add (k * 5)).add 1) [.int .i64 (Z.ars[k]).M.p, .int .i64 (Z.ars[k]).M.rows, .int .i64 (Z.ars[k]).M.cols, (Z.ars[k]).v] := fun i u hu => by
 rw [A6]
 have hR2 := hR.a.any (ms := ms)
 refine hR2.cell hk (f := 1 + i) ?_
 rw [Nat.add_comm]
 exact hu
theorem Ff (Z : Zz) (vd va : Value) (h : Hp) (hO : Z.Ok) (hR : RdZ h vd va Z) :
  FnT Tryz.prog 22 #[.agg #[.int .i64 Z.p, vd, va]] h [] (fun r _ _ => r = .bool (decide Z.Rt)) := by
 have hl := hR.a.len_le
 have hld := hR.d.len_le
 have o1 := hR.d.rd.one
 have o2 := hR.a.rd.one
 refine Av func22 ntmps22 rfl rfl (fun w0 hw0 => ?_)
 simp only [A4]
 refine Ax ?_
 refine AS [_, _, _] rfl rfl (by rfl) rfl rfl rfl (fun g1 => ?_)
 refine Qm rfl (Aq (AL fun h' hle hS => ?_))
 have hR := hR.up hle
 have hA := Seg.all hS
 have hA0 := hA 0 _ rfl
 refine Ax (Qf Bn rfl (Ql rfl underlying24 (hA _ _ rfl _) (Qx (AJ hR.d.rd.any rfl underlying24 rfl) rfl (Qm rfl (B3 (Qf CG rfl (Ql rfl underlying3 (hA0 _) (Qx (AG rfl call45 rfl (Is _ _ hO.p _)) rfl (Qm rfl (Aq (Ac (Ax (Qm rfl (Qm rfl (Qm rfl ?_)))))))))))))))
 refine AR (t := 19) rfl (fun hs1 => ?_) (fun hs1 => ?_)
 ·refine Qk rfl (Qk rfl (Qm rfl (Qm rfl (Qk rfl (Qk rfl (Qk rfl (Qk rfl (Qk rfl (Qk rfl (Qm rfl (Qm rfl (Qk rfl (Qk rfl (Qm rfl (Aq (AU rfl (Ax (Qm rfl (Aq (Ao (Ae ?_)))))))))))))))))))))
  exact Am rfl rfl (by rw [decide_eq_false]; rintro ⟨h1, _⟩; omega)
 ·refine Qg (As rfl rfl) rfl (Qg (Dd rfl rfl rfl) rfl (Qm rfl (Qm rfl ?_)))
  refine AR (t := 23) rfl (fun hs2 => ?_) (fun hs2 => ?_)
  ·refine Qk rfl (Qk rfl (Qk rfl (Qk rfl (Qk rfl (Qk rfl (Qm rfl (Qm rfl (Qk rfl (Qk rfl (Qm rfl (Aq (AU rfl (Ax (Qm rfl (Aq (Ao (Ae ?_)))))))))))))))))
   exact Am rfl rfl (by rw [decide_eq_false]; rintro ⟨_, h1, _⟩; omega)
  ·refine Qg (oF BQ rfl) rfl (Qg (oL rfl underlying28 (hA _ _ rfl _)) rfl (Qg (AJ hR.a.rd.any rfl underlying28 rfl) rfl (Qg (As rfl rfl) rfl (Qg (oS rfl) rfl (Qg (B4 rfl rfl rfl) rfl (Qm rfl (Qm rfl ?_)))))))
   refine AR (t := 31) rfl (fun hs3 => ?_) (fun hs3 => ?_)
   ·refine Qk rfl (Qk rfl (Qm rfl (Aq (AU rfl (Ax (Qm rfl (Aq (Ao (Ae ?_)))))))))
    exact Am rfl rfl (by rw [decide_eq_false]; rintro ⟨_, _, h1, _⟩; omega)
   ·refine Qg (As rfl rfl) rfl (Qg (CP rfl rfl) rfl (Qm rfl (Aq ?_)))
    refine BJ rfl (fun hp => ?_) (fun hp => ?_)
    ·have hp : ¬ IsP Z.p := by simpa using hp
     refine Ax (Qm rfl (Aq (Ao (Ae ?_))))
     exact Am rfl rfl (by rw [decide_eq_false]; rintro ⟨_, _, _, h1, _⟩; exact hp h1)
    ·have hp : IsP Z.p := by simpa using hp
     have hd0 : 0 < Z.dims.length := by omega
     have hlen : (Z.ars.length : Int) = (Z.dims.length : Int) - 1 := by omega
     refine Ai (Ab (Ac (Ax (Qm rfl (Aq (Ag ?_))))))
     refine AD (fun q s hh ms' => ∃ (k : Nat), q = Z.dims.length - k ∧ s = [(1, .pointer (some ⟨g1, 0, none⟩)), (3, .int .i64 Z.dims.length), (5, .int .i64 k)] ∧ h' = hh ∧ ms' = [] ∧ k ≤ Z.dims.length ∧ ∀ j, j < k → 0 ≤ Z.dim j ∧ Z.dim j ≤ 200)
      (Z.dims.length - 0) _ ⟨0, rfl, rfl, rfl, rfl, by omega, fun j h => by omega⟩ Qs ?_
     rintro q s hh ms' ⟨k, rfl, rfl, rfl, rfl, hk, hno⟩
     have hdm : ∀ k, k < Z.dims.length → Z.dim k ∈ Z.dims := fun k hk => by unfold Zz.dim; simp [List.getD_eq_getElem?_getD, hk]
     refine Ac (Ax (Qm rfl (Qm rfl (Qm rfl (Aq ?_)))))
     refine AF rfl (fun hlt => ?_) (fun hlt => ?_)
     ·have hk' : k < Z.dims.length := by omega
      refine Ai (Ab (Ac (Ag (Ax (Qf Bn rfl (Ql rfl underlying24 (hA _ _ rfl _) (Qm rfl (Qx (Ah _ hR.d.rd.any rfl underlying24 A8 rfl rfl rfl (by omega)) rfl (Ql rfl underlying3 (H8 hR hk') (Qm rfl (Qm rfl ?_)))))))))))
      refine AR (t := 46) rfl (fun hm1 => ?_) (fun hm1 => ?_)
      ·refine Qk rfl (Qk rfl (Qk rfl (Qk rfl (Qk rfl (Qk rfl (Qm rfl (Aq (AU rfl (Ax (Qm rfl (Aq (Ao (Ap (Ae (Ae (Ap (Ae ?_)))))))))))))))))
       exact Am rfl rfl (by rw [decide_eq_false]; rintro ⟨_, _, _, _, h1, _⟩; have := h1 _ (hdm k hk'); omega)
      ·refine Qg (oF Bn rfl) rfl (Qg (oL rfl underlying24 (hA _ _ rfl _)) rfl (Qg (As rfl rfl) rfl (Qg (Ah _ hR.d.rd.any rfl underlying24 A8 rfl rfl rfl (by omega)) rfl (Qg (oL rfl underlying3 (H8 hR hk')) rfl (Qg (Dd rfl rfl rfl) rfl (Qm rfl (Aq ?_)))))))
       refine AF rfl (fun hm2 => ?_) (fun hm2 => ?_)
       ·refine Ac (Ad (Qm rfl (Aq (Ao (Ap (Ae (Ae (Ap (Ae ?_)))))))))
        exact Am rfl rfl (by rw [decide_eq_false]; rintro ⟨_, _, _, _, h1, _⟩; have := h1 _ (hdm k hk'); omega)
       ·refine Ai (Aj (Ab (Ad (Qm rfl (Qx (oA rfl) rfl (Qm rfl (Ak ?_)))))))
        refine Al (Z.dims.length - (k + 1)) _ (by omega) ⟨k + 1, rfl, rfl, rfl, rfl, by omega, fun j h1 => ?_⟩ Qs
        rcases (by omega : j < k ∨ j = k) with h2 | rfl
        ·exact hno j h2
        ·omega
     ·have hdims : ∀ x ∈ Z.dims, 0 ≤ x ∧ x ≤ 200 := fun x hx => by
       obtain ⟨j, hj, rfl⟩ := List.mem_iff_getElem.1 hx
       have := hno j (by omega)
       unfold Zz.dim at this
       simpa [List.getD_eq_getElem?_getD, hj] using this
      refine Aw (Aa (Aa (Af (Ab (Ac (Ax (Qm rfl (Aq (Ag ?_)))))))))
      refine AD (fun q s hh ms' => ∃ (k : Nat), q = Z.ars.length - k ∧ s = [(1, .pointer (some ⟨g1, 0, none⟩)), (3, .int .i64 Z.dims.length), (6, .int .i64 k)] ∧ h' = hh ∧ ms' = [] ∧ k ≤ Z.ars.length ∧ ∀ j (hj : j < Z.ars.length), j < k → Z.Fit j Z.ars[j])
       (Z.ars.length - 0) _ ⟨0, rfl, rfl, rfl, rfl, by omega, fun j hj h => by omega⟩ Qs ?_
      rintro q s hh ms' ⟨k, rfl, rfl, rfl, rfl, hk, hfit⟩
      refine Ac (Ax (Qm rfl (Qm rfl (Qx (oS rfl) rfl (Qm rfl (Aq ?_))))))
      refine AF rfl (fun hlt => ?_) (fun hlt => ?_)
      ·have hk' : k < Z.ars.length := by omega
       have hmem : Z.ars[k] ∈ Z.ars := List.getElem_mem hk'
       have hRe := hR.e _ hmem
       have hMO := hO.m _ hmem
       have oa := hRe.rd.one
       have hk0 : k < Z.dims.length := by omega
       have hk1 : k + 1 < Z.dims.length := by omega
       refine Ai (Ab (Ac (Ag (Ax (Qf BQ rfl (Ql rfl underlying28 (hA _ _ rfl _) (Qm rfl (Qx (Ah _ hR.a.rd.any rfl underlying28 Cr rfl rfl rfl (by omega)) rfl (Qf Ca rfl (Qx (oG rfl underlying42 AI (FQ hR hk')) rfl (BZ [.int .i64 0, .int .i64 0, .int .i64 0, .slice none 0 0] rfl AI rfl rfl (fun g7 => ?_))))))))))))
       refine Sa 0 [_, _, _, _] AI rfl (by simp [oa]) ?_
       refine B3 (Qf Bn rfl (Ql rfl underlying24 (hA _ _ rfl _) (Qm rfl (Qx (Ah _ hR.d.rd.any rfl underlying24 A8 rfl rfl rfl (by omega)) rfl (Ql rfl underlying3 (H8 hR hk0) (Qm rfl (B3 (Qf Bn rfl (Ql rfl underlying24 (hA _ _ rfl _) (Qm rfl (Qx (oA rfl) rfl (Qx (Ah (k + 1) hR.d.rd.any rfl underlying24 A8 rfl rfl (by omega) (by omega)) rfl (Ql rfl underlying3 (H8 hR hk1) (Qm rfl (Aq (Ac (Ax (Qf BQ rfl (Ql rfl underlying28 (hA _ _ rfl _) (Qm rfl (Qx (Ah _ hR.a.rd.any rfl underlying28 Cr rfl rfl rfl (by omega)) rfl (Qf EK rfl (Ql rfl underlying4 (hR.a.any.cell hk' rfl) (Aq ?_))))))))))))))))))))))))
       refine BJ rfl (fun hb => ?_) (fun hb => ?_)
       ·have hsr : (Z.ars[k]).src k = k + 1 := by unfold Ar.src; rw [hb]; rfl
        have htg : (Z.ars[k]).tgt k = k := by unfold Ar.tgt; rw [hb]; rfl
        refine Ax (Qf Bn rfl (Ql rfl underlying24 (hA _ _ rfl _) (Qm rfl (Qx (oA rfl) rfl (Qx (Ah (k + 1) hR.d.rd.any rfl underlying24 A8 rfl rfl (by omega) (by omega)) rfl (Ql rfl underlying3 (H8 hR hk1) (Qm rfl (IA (Qf Bn rfl (Ql rfl underlying24 (hA _ _ rfl _) (Qm rfl (Qx (Ah _ hR.d.rd.any rfl underlying24 A8 rfl rfl rfl (by omega)) rfl (Ql rfl underlying3 (H8 hR hk0) (Qm rfl (B3 (Qx (oG rfl underlying42 AI (Seg.blk 0 rfl)) rfl (Qx (AG rfl call46 rfl (Ds (ER (Z.ars[k]).M (Z.ars[k]).v h' hMO hRe) _)) rfl (Qm rfl (B3 (Qm rfl (Qm rfl (Qm rfl ?_))))))))))))))))))))))
        refine CO (t := 98) rfl (fun hb1 => ?_) (fun hb1 => ?_)
        ·refine Qk rfl (Qk rfl (Qk rfl (Qk rfl (Qk rfl (Qm rfl (Qm rfl (Qk rfl (Qk rfl (Qk rfl (Qk rfl (Qm rfl (Qm rfl (Qk rfl (Qk rfl (Qk rfl (Qk rfl (Qm rfl (Aq (AU rfl (Ax (Qm rfl (Aq (Ao (Ap (Ae (Ae (Ap (Ae ?_))))))))))))))))))))))))))))
         exact Am rfl rfl (by rw [decide_eq_false]; rintro ⟨_, _, _, _, _, h1⟩; have := (h1 k hk').1; simp [this] at hb1)
        ·have hb1 : (Z.ars[k]).M.Rt := by simpa using hb1
         refine Qg (oF BE rfl) rfl (Qg (oL rfl underlying3 (Cell.blk 0 rfl rfl)) rfl (Qg (oF CG rfl) rfl (Qg (oL rfl underlying3 (hA0 _)) rfl (Qg (B4 rfl rfl rfl) rfl (Qm rfl (Qm rfl ?_))))))
         refine AR (t := 105) rfl (fun hb2 => ?_) (fun hb2 => ?_)
         ·refine Qk rfl (Qk rfl (Qk rfl (Qk rfl (Qm rfl (Qm rfl (Qk rfl (Qk rfl (Qk rfl (Qk rfl (Qm rfl (Aq (AU rfl (Ax (Qm rfl (Aq (Ao (Ap (Ae (Ae (Ap (Ae ?_)))))))))))))))))))))
          exact Am rfl rfl (by rw [decide_eq_false]; rintro ⟨_, _, _, _, _, h1⟩; exact hb2 (h1 k hk').2.1)
         ·refine Qg (oF A0 rfl) rfl (Qg (oL rfl underlying3 (Cell.blk 0 rfl rfl)) rfl (Qg (As rfl rfl) rfl (Qg (B4 rfl rfl rfl) rfl (Qm rfl (Qm rfl ?_)))))
          refine AR (t := 111) rfl (fun hb3 => ?_) (fun hb3 => ?_)
          ·refine Qk rfl (Qk rfl (Qk rfl (Qk rfl (Qm rfl (Aq (AU rfl (Ax (Qm rfl (Aq (Ao (Ap (Ae (Ae (Ap (Ae ?_)))))))))))))))
           exact Am rfl rfl (by rw [decide_eq_false]; rintro ⟨_, _, _, _, _, h1⟩; exact hb3 ((h1 k hk').2.2.1.trans (by rw [hsr])))
          ·refine Qg (oF Bh rfl) rfl (Qg (oL rfl underlying3 (Cell.blk 0 rfl rfl)) rfl (Qg (As rfl rfl) rfl (Qg (B4 rfl rfl rfl) rfl (Qm rfl (Aq ?_)))))
           refine AF rfl (fun hb4 => ?_) (fun hb4 => ?_)
           ·refine Ac (Ad (Qm rfl (Aq (Ao (Ap (Ae (Ae (Ap (Ae ?_)))))))))
            exact Am rfl rfl (by rw [decide_eq_false]; rintro ⟨_, _, _, _, _, h1⟩; exact hb4 ((h1 k hk').2.2.2.trans (by rw [htg])))
           ·refine Ai (Aj (Ab (Ad (Qm rfl (Qx (oA rfl) rfl (Qm rfl (Ak (A5 ?_))))))))
            refine Al (Z.ars.length - (k + 1)) _ (by omega) ⟨k + 1, rfl, rfl, rfl, rfl, by omega, fun j hj h1 => ?_⟩ Qs
            rcases (by omega : j < k ∨ j = k) with h2 | rfl
            ·exact hfit j hj h2
            ·exact ⟨hb1, Decidable.not_not.1 hb2, by rw [hsr]; exact Decidable.not_not.1 hb3, by rw [htg]; exact Decidable.not_not.1 hb4⟩
       ·have hsr : (Z.ars[k]).src k = k := by unfold Ar.src; rw [hb]; rfl
        have htg : (Z.ars[k]).tgt k = k + 1 := by unfold Ar.tgt; rw [hb]; rfl
        refine Ai (Ab (Ax (Qx (oG rfl underlying42 AI (Seg.blk 0 rfl)) rfl (Qx (AG rfl call46 rfl (Ds (ER (Z.ars[k]).M (Z.ars[k]).v h' hMO hRe) _)) rfl (Qm rfl (B3 (Qm rfl (Qm rfl (Qm rfl ?_)))))))))
        refine CO (t := 98) rfl (fun hb1 => ?_) (fun hb1 => ?_)
        ·refine Qk rfl (Qk rfl (Qk rfl (Qk rfl (Qk rfl (Qm rfl (Qm rfl (Qk rfl (Qk rfl (Qk rfl (Qk rfl (Qm rfl (Qm rfl (Qk rfl (Qk rfl (Qk rfl (Qk rfl (Qm rfl (Aq (AU rfl (Ax (Qm rfl (Aq (Ao (Ap (Ae (Ae (Ap (Ae ?_))))))))))))))))))))))))))))
         exact Am rfl rfl (by rw [decide_eq_false]; rintro ⟨_, _, _, _, _, h1⟩; have := (h1 k hk').1; simp [this] at hb1)
        ·have hb1 : (Z.ars[k]).M.Rt := by simpa using hb1
         refine Qg (oF BE rfl) rfl (Qg (oL rfl underlying3 (Cell.blk 0 rfl rfl)) rfl (Qg (oF CG rfl) rfl (Qg (oL rfl underlying3 (hA0 _)) rfl (Qg (B4 rfl rfl rfl) rfl (Qm rfl (Qm rfl ?_))))))
         refine AR (t := 105) rfl (fun hb2 => ?_) (fun hb2 => ?_)
         ·refine Qk rfl (Qk rfl (Qk rfl (Qk rfl (Qm rfl (Qm rfl (Qk rfl (Qk rfl (Qk rfl (Qk rfl (Qm rfl (Aq (AU rfl (Ax (Qm rfl (Aq (Ao (Ap (Ae (Ae (Ap (Ae ?_)))))))))))))))))))))
          exact Am rfl rfl (by rw [decide_eq_false]; rintro ⟨_, _, _, _, _, h1⟩; exact hb2 (h1 k hk').2.1)
         ·refine Qg (oF A0 rfl) rfl (Qg (oL rfl underlying3 (Cell.blk 0 rfl rfl)) rfl (Qg (As rfl rfl) rfl (Qg (B4 rfl rfl rfl) rfl (Qm rfl (Qm rfl ?_)))))
          refine AR (t := 111) rfl (fun hb3 => ?_) (fun hb3 => ?_)
          ·refine Qk rfl (Qk rfl (Qk rfl (Qk rfl (Qm rfl (Aq (AU rfl (Ax (Qm rfl (Aq (Ao (Ap (Ae (Ae (Ap (Ae ?_)))))))))))))))
           exact Am rfl rfl (by rw [decide_eq_false]; rintro ⟨_, _, _, _, _, h1⟩; exact hb3 ((h1 k hk').2.2.1.trans (by rw [hsr])))
          ·refine Qg (oF Bh rfl) rfl (Qg (oL rfl underlying3 (Cell.blk 0 rfl rfl)) rfl (Qg (As rfl rfl) rfl (Qg (B4 rfl rfl rfl) rfl (Qm rfl (Aq ?_)))))
           refine AF rfl (fun hb4 => ?_) (fun hb4 => ?_)
           ·refine Ac (Ad (Qm rfl (Aq (Ao (Ap (Ae (Ae (Ap (Ae ?_)))))))))
            exact Am rfl rfl (by rw [decide_eq_false]; rintro ⟨_, _, _, _, _, h1⟩; exact hb4 ((h1 k hk').2.2.2.trans (by rw [htg])))
           ·refine Ai (Aj (Ab (Ad (Qm rfl (Qx (oA rfl) rfl (Qm rfl (Ak (A5 ?_))))))))
            refine Al (Z.ars.length - (k + 1)) _ (by omega) ⟨k + 1, rfl, rfl, rfl, rfl, by omega, fun j hj h1 => ?_⟩ Qs
            rcases (by omega : j < k ∨ j = k) with h2 | rfl
            ·exact hfit j hj h2
            ·exact ⟨hb1, Decidable.not_not.1 hb2, by rw [hsr]; exact Decidable.not_not.1 hb3, by rw [htg]; exact Decidable.not_not.1 hb4⟩
      ·refine Aw (Aa (Aa (Af (Ab (Ax (Qm rfl (Aq (Ao ?_))))))))
       exact Am rfl rfl (by rw [decide_eq_true]; exact ⟨by omega, by omega, hlen, hp, hdims, fun j hj => hfit j hj (by omega)⟩)
end Go.Proofs.YtdnelknieikbaaaGreat
namespace Go.Proofs.YtdnelknieikbaaaGreat
open Tryz
open Go.Eng Go.RowKit Go.Lin
theorem Ks (a b : Int) (ha : Dh a) (hb : 1 ≤ b ∧ b ≤ 1000000) (h : Hp) (ms : List Hp) : Dq Tryz.prog 34 #[.int .i64 a, .int .i64 b] h ms (.int .i64 (a % b)) := by
 refine Ds ?_ ms
 have ha1 := ha.1
 have ha2 := ha.2
 have h1 : a.tmod b < b := by have := Int.tmod_lt_of_pos a (show 0 < b by omega); omega
 have h2 : -b < a.tmod b := by have := Int.lt_tmod_of_pos a (show 0 < b by omega); omega
 have h3 : (a.tmod b + b) % b = a % b := by rw [Int.add_emod_right, Int.tmod_def, Int.sub_mul_emod_self_left]
 refine Av func34 ntmps34 rfl rfl (fun w0 hw0 => ?_)
 simp only [A4]
 refine Ax (Qm rfl (B3 (Qm rfl (Qm rfl (Qx (Mq rfl rfl rfl (by omega)) rfl (Qm rfl (Qx (oA rfl) rfl (Qm rfl (Qx (B0 rfl rfl rfl (by omega) (by omega)) rfl (Qm rfl (Aq (Ao ?_))))))))))))
 exact Am rfl rfl (by rw [h3])
theorem SA (la lb : List Int) (va vb : Value) (h : Hp) (hA : RdL cI 1 h [] va la) (hB : RdL cI 1 h [] vb lb) (ms : List Hp) : Dq Tryz.prog 54 #[va, vb] h ms (.bool (decide (la = lb))) := by
 refine Ds ?_ ms
 have l1 := hA.len_le
 have l2 := hB.len_le
 refine Av func54 ntmps54 rfl rfl (fun w0 hw0 => ?_)
 simp only [A4]
 refine Ax (Qm rfl (Aq (Ac (Ax (Qm rfl (Qx (AJ hA.rd.any rfl underlying24 rfl) rfl (Qm rfl (Qx (AJ hB.rd.any rfl underlying24 rfl) rfl (Qm rfl (Aq ?_))))))))))
 refine AF rfl (fun hlen => ?_) (fun hlen => ?_)
 ·refine Ac (Ad (Qm rfl (Aq (Ao (Ae ?_)))))
  exact Am rfl rfl (by rw [decide_eq_false]; rintro rfl; exact hlen rfl)
 ·have hlen : la.length = lb.length := by omega
  refine Ai (Ab (Ac (Ax (Qm rfl (Aq (Ag ?_))))))
  refine AD (fun q s h' ms' => ∃ (k : Nat), q = la.length - k ∧ s = [(0, va), (1, vb), (5, .int .i64 k)] ∧ h = h' ∧ ms' = [] ∧ k ≤ la.length ∧ la.take k = lb.take k)
   (la.length - 0) _ ⟨0, rfl, rfl, rfl, rfl, by omega, rfl⟩ Qs ?_
  rintro q s h' ms' ⟨k, rfl, rfl, rfl, rfl, hk, hno⟩
  refine Ac (Ax (Qm rfl (Qm rfl (Qx (AJ hA.rd.any rfl underlying24 rfl) rfl (Qm rfl (Aq ?_))))))
  refine AF rfl (fun hlt => ?_) (fun hlt => ?_)
  ·have k1 : k < la.length := by omega
   have k2 : k < lb.length := by omega
   refine Ai (Ab (Ac (Ag (Ac (BB 8 Cd (by kernel_rfl) rfl (Wm rfl (Wm rfl (AV (Ah _ hA.rd.any rfl underlying24 A8 rfl rfl rfl (by omega)) rfl rfl (Wl rfl underlying3 (hA.any.cell0 k1 rfl) (Wm rfl (Wm rfl (AV (Ah _ hB.rd.any rfl underlying24 A8 rfl rfl rfl (by omega)) rfl rfl (Wl rfl underlying3 (hB.any.cell0 k2 rfl) (BC (Qm rfl (Aq ?_))))))))))))))))
   refine AF rfl (fun hne => ?_) (fun hne => ?_)
   ·refine Ac (Ad (Qm rfl (Aq (Ao (Ap (Ae (Ae (Ap (Ae ?_)))))))))
    exact Am rfl rfl (by rw [decide_eq_false]; rintro rfl; exact hne rfl)
   ·refine Ai (Aj (Ab (Ad (Qm rfl (Qx (oA rfl) rfl (Qm rfl (Ak ?_)))))))
    refine Al (la.length - (k + 1)) _ (by omega) ⟨k + 1, rfl, rfl, rfl, rfl, by omega, ?_⟩ Qs
    rw [List.take_add_one, List.take_add_one, hno, List.getElem?_eq_getElem k1, List.getElem?_eq_getElem k2, Decidable.not_not.1 hne]
  ·refine Aw (Aa (Aa (Af (Ab (Ax (Qm rfl (Aq (Ao ?_))))))))
   exact Am rfl rfl (by rw [decide_eq_true]; rwa [List.take_of_length_le (by omega), List.take_of_length_le (by omega)] at hno)
deriving instance DecidableEq for FM
theorem UA (M N : FM) (ev eu : Value) (h : Hp) (hA : RdL cI 1 h [] ev M.e) (hB : RdL cI 1 h [] eu N.e) (ms : List Hp) : Dq Tryz.prog 55 #[.agg #[.int .i64 M.p, .int .i64 M.rows, .int .i64 M.cols, ev], .agg #[.int .i64 N.p, .int .i64 N.rows, .int .i64 N.cols, eu]] h ms (.bool (decide (M = N))) := by
 refine Ds ?_ ms
 refine Av func55 ntmps55 rfl rfl (fun w0 hw0 => ?_)
 simp only [A4]
 refine Ax ?_
 refine AS [_, _, _, _] rfl rfl (by rfl) rfl rfl rfl (fun g2 => ?_)
 refine AS [_, _, _, _] rfl rfl (by rfl) rfl rfl rfl (fun g3 => ?_)
 refine Qm rfl (Aq (Ac (Ax (Qf BE rfl (Ql rfl underlying3 (Cell.blk 1 rfl rfl) (Qf BE rfl (Ql rfl underlying3 (Cell.blk 0 rfl rfl) (Qm rfl (Qm rfl ?_)))))))))
 refine AR (t := 10) rfl (fun h1 => ?_) (fun h1 => ?_)
 ·refine Qk rfl (Qk rfl (Qk rfl (Qk rfl (Qk rfl (Qm rfl (Qm rfl (Qk rfl (Qk rfl (Qk rfl (Qk rfl (Qk rfl (Qm rfl (Aq (AU rfl (Ax (Qm rfl (Aq (Ao (Ae ?_)))))))))))))))))))
  exact Am rfl rfl (by rw [decide_eq_false]; rintro rfl; exact h1 rfl)
 ·refine Qg (oF Bh rfl) rfl (Qg (oL rfl underlying3 (Cell.blk 1 rfl rfl)) rfl (Qg (oF Bh rfl) rfl (Qg (oL rfl underlying3 (Cell.blk 0 rfl rfl)) rfl (Qg (B4 rfl rfl rfl) rfl (Qm rfl (Qm rfl ?_))))))
  refine AR (t := 17) rfl (fun h2 => ?_) (fun h2 => ?_)
  ·refine Qk rfl (Qk rfl (Qk rfl (Qk rfl (Qk rfl (Qm rfl (Aq (AU rfl (Ax (Qm rfl (Aq (Ao (Ae ?_))))))))))))
   exact Am rfl rfl (by rw [decide_eq_false]; rintro rfl; exact h2 rfl)
  ·refine Qg (oF A0 rfl) rfl (Qg (oL rfl underlying3 (Cell.blk 1 rfl rfl)) rfl (Qg (oF A0 rfl) rfl (Qg (oL rfl underlying3 (Cell.blk 0 rfl rfl)) rfl (Qg (B4 rfl rfl rfl) rfl (Qm rfl (Aq ?_))))))
   refine AF rfl (fun h3 => ?_) (fun h3 => ?_)
   ·refine Ac (Ad (Qm rfl (Aq (Ao (Ae ?_)))))
    exact Am rfl rfl (by rw [decide_eq_false]; rintro rfl; exact h3 rfl)
   ·refine Ai (Ab (Ax (Qf Bc rfl (Ql rfl underlying24 (Cell.blk 1 rfl rfl) (Qf Bc rfl (Ql rfl underlying24 (Cell.blk 0 rfl rfl) (Qx (AG rfl call54 rfl (SA M.e N.e ev eu h hA hB _)) rfl (Qm rfl (Aq (Ao ?_))))))))))
    exact Am rfl rfl (by congr 1; rw [decide_eq_decide]; obtain ⟨a, b, c, d⟩ := M; obtain ⟨a', b', c', d'⟩ := N; simp only [FM.mk.injEq] at *; exact ⟨fun he => ⟨Decidable.not_not.1 h1, Decidable.not_not.1 h2, Decidable.not_not.1 h3, he⟩, fun he => he.2.2.2⟩)
end Go.Proofs.YtdnelknieikbaaaGreat
namespace Go.Proofs.YtdnelknieikbaaaGreat
open Tryz
open Go.Eng Go.RowKit Go.Lin
theorem TX (p : Int) (r k c : Nat) (f g : Nat → Nat → Int) (ev eu : Value) (h : Hp) (R : RtM p r k f) (S : RtM p k c g) (hR : RdL cI 1 h [] ev (mat r k f)) (hS : RdL cI 1 h [] eu (mat k c g)) :
  FnT Tryz.prog 21 #[.agg #[.int .i64 p, .int .i64 r, .int .i64 k, ev], .agg #[.int .i64 p, .int .i64 k, .int .i64 c, eu]] h [] (fun x h' ms' => h = h' ∧ ∃ v, x = .tuple #[v, .bool true] ∧ Ez v ms' (EM p r c (Fb p k f g))) := by
 have hb := R.bd
 have rl := R.rl
 have kl := R.cl
 have cl := S.cl
 refine Av func21 ntmps21 rfl rfl (fun w0 hw0 => ?_)
 simp only [A4]
 refine Ax ?_
 refine AS [_, _, _, _] rfl rfl (by rfl) rfl rfl rfl (fun g2 => ?_)
 refine AS [_, _, _, _] rfl rfl (by rfl) rfl rfl rfl (fun g3 => ?_)
 refine BZ [.int .i64 0, .int .i64 0, .int .i64 0, .slice none 0 0] rfl AI rfl rfl (fun g4 => Qm rfl (B3 (Qx (oG rfl underlying42 AI (Seg.blk 2 rfl)) rfl (Qx (oG rfl underlying42 AI (Seg.blk 1 rfl)) rfl (Qx (AG rfl call44 rfl (TP R S hR hS _)) rfl (Qm rfl (Aq (Ac (Ax (Qm rfl (Qm rfl (Qm rfl (Qg (oF A0 rfl) rfl (Qg (oL rfl underlying3 (Cell.blk 2 rfl rfl)) rfl (Qg (oF Bh rfl) rfl (Qg (oL rfl underlying3 (Cell.blk 1 rfl rfl)) rfl (Qg (B4 rfl rfl rfl) rfl (Qm rfl (Aq (AF rfl (fun hc => absurd hc (by omega)) (fun hc => Ai (Ab (Ax (Qf BE rfl (Ql rfl underlying3 (Cell.blk 2 rfl rfl) (Qf Bh rfl (Ql rfl underlying3 (Cell.blk 2 rfl rfl) (Qf A0 rfl (Ql rfl underlying3 (Cell.blk 1 rfl rfl) (Qc call23 rfl (FN p r c h R.i64) (fun v h1 ms1 l1 hF => ?_)))))))))))))))))))))))))))))))
 obtain ⟨rfl, ew, m, rfl, rfl, hO⟩ := hF
 rw [DO R.pr rl cl] at hO ⊢
 have he1 : ew.oneCell' = true := (hO.rd (h := h) (ms := [m]) (List.Mem.head _)).rd.one
 refine BZ [.int .i64 0, .int .i64 0, .int .i64 0, .slice none 0 0] rfl AI rfl rfl (fun g7 => ?_)
 refine Sa 0 [_, _, _, _] AI rfl (by simp [he1]) ?_
 refine Aq (Ac (Ax (Qm rfl (Aq (Ag ?_)))))
 refine AD (fun q s h' ms' => ∃ (i : Nat) (m : Hp), q = r - i ∧ s = [(2, .pointer (some ⟨g2, 0, none⟩)), (3, .pointer (some ⟨g3, 0, none⟩)), (4, .pointer (some ⟨g4, 0, none⟩)), (7, .pointer (some ⟨g7, 0, none⟩)), (8, .int .i64 i)] ∧ h = h' ∧ ms' = [AX g7 42 [.int .i64 p, .int .i64 r, .int .i64 c, ew], m, AX g4 42 [.int .i64 0, .int .i64 0, .int .i64 0, .slice none 0 0], AX g3 42 [.int .i64 p, .int .i64 k, .int .i64 c, eu], AX g2 42 [.int .i64 p, .int .i64 r, .int .i64 k, ev]] ∧ i ≤ r ∧ OwnL cI 1 3 m ew (mat r c (part p k f g i 0 0)))
  (r - 0) _ ⟨0, m, rfl, rfl, rfl, rfl, by omega, by rw [AO (g := fun _ _ => 0) (fun a _ b _ => JH p k f g a b)]; exact hO⟩ Qs ?_
 rintro q s h' ms' ⟨i, m, rfl, rfl, rfl, rfl, hi, hO⟩
 refine Ac (Ax (Qm rfl (Qf Bh rfl (Ql rfl underlying3 (Cell.blk 4 rfl rfl) (Qm rfl (Aq ?_))))))
 refine AF rfl (fun hlt => ?_) (fun hlt => ?_)
 ·have hir : i < r := by omega
  have b2 : r * k ≤ 400 * 400 := Nat.mul_le_mul rl kl
  have b3 : r * c ≤ 400 * 400 := Nat.mul_le_mul rl cl
  have b4 : k * c ≤ 400 * 400 := Nat.mul_le_mul kl cl
  have el : (mat r k f).length = r * k := AY _ _ _
  have el2 : (mat k c g).length = k * c := AY _ _ _
  refine Ai (Ab (Ac (Ag (Ax (Qm rfl (Aq (Ag ?_)))))))
  refine AD (fun q s h' ms' => ∃ (t : Nat) (m : Hp), q = k - t ∧ s = [(2, .pointer (some ⟨g2, 0, none⟩)), (3, .pointer (some ⟨g3, 0, none⟩)), (4, .pointer (some ⟨g4, 0, none⟩)), (7, .pointer (some ⟨g7, 0, none⟩)), (8, .int .i64 i), (9, .int .i64 t)] ∧ h = h' ∧ ms' = [AX g7 42 [.int .i64 p, .int .i64 r, .int .i64 c, ew], m, AX g4 42 [.int .i64 0, .int .i64 0, .int .i64 0, .slice none 0 0], AX g3 42 [.int .i64 p, .int .i64 k, .int .i64 c, eu], AX g2 42 [.int .i64 p, .int .i64 r, .int .i64 k, ev]] ∧ t ≤ k ∧ OwnL cI 1 3 m ew (mat r c (part p k f g i t 0)))
   (k - 0) _ ⟨0, m, rfl, rfl, rfl, rfl, by omega, hO⟩ Qs ?_
  rintro q s h' ms' ⟨t, m, rfl, rfl, rfl, rfl, ht, hO⟩
  refine Ac (Ax (Qm rfl (Qf A0 rfl (Ql rfl underlying3 (Cell.blk 4 rfl rfl) (Qm rfl (Aq ?_))))))
  refine AF rfl (fun hlt2 => ?_) (fun hlt2 => ?_)
  ·have htk : t < k := by omega
   have hix := Cp hir htk
   have hfb := R.en i hir t htk
   refine Ai (Ab (Ac (Ag (Ax (Qf Bc rfl (Ql rfl underlying24 (Cell.blk 4 rfl rfl) (Qm rfl (Qf A0 rfl (Ql rfl underlying3 (Cell.blk 4 rfl rfl) (Qx (oM rfl) rfl (Qm rfl (Qx (oA rfl) rfl (Qx (Ah (i * k + t) hR.rd.any rfl underlying24 A8 rfl rfl (by omega) (by omega)) rfl (Ql rfl underlying3 (hR.any.ent hir htk) (Qm rfl (B3 (Qm rfl (Aq (Ag ?_)))))))))))))))))))
   refine AD (fun q s h' ms' => ∃ (j : Nat) (m : Hp), q = c - j ∧ s = [(2, .pointer (some ⟨g2, 0, none⟩)), (3, .pointer (some ⟨g3, 0, none⟩)), (4, .pointer (some ⟨g4, 0, none⟩)), (7, .pointer (some ⟨g7, 0, none⟩)), (8, .int .i64 i), (9, .int .i64 t), (10, .int .i64 (f i t)), (11, .int .i64 j)] ∧ h = h' ∧ ms' = [AX g7 42 [.int .i64 p, .int .i64 r, .int .i64 c, ew], m, AX g4 42 [.int .i64 0, .int .i64 0, .int .i64 0, .slice none 0 0], AX g3 42 [.int .i64 p, .int .i64 k, .int .i64 c, eu], AX g2 42 [.int .i64 p, .int .i64 r, .int .i64 k, ev]] ∧ j ≤ c ∧ (f i t = 0 → j = 0) ∧ OwnL cI 1 3 m ew (mat r c (part p k f g i t j)))
    (c - 0) _ ⟨0, m, rfl, rfl, rfl, rfl, by omega, fun _ => rfl, hO⟩ Qs ?_
   rintro q s h' ms' ⟨j, m, rfl, rfl, rfl, rfl, hj, hj0, hO⟩
   refine Ac (Ax (Qm rfl (Qf A0 rfl (Ql rfl underlying3 (Cell.blk 3 rfl rfl) (Qm rfl (Qm rfl ?_))))))
   refine AR (t := 58) rfl (fun hlt3 => ?_) (fun hlt3 => ?_)
   ·refine Qg (As rfl rfl) rfl (Qg (Dd rfl rfl rfl) rfl (Qm rfl (Aq ?_)))
    refine AF rfl (fun hpos => ?_) (fun hpos => ?_)
    ·have hjc : j < c := by omega
     have hix2 := Cp hir hjc
     have hix3 := Cp htk hjc
     have el3' : (mat r c (part p k f g i t j)).length = r * c := AY _ _ _
     have hbp := NI (show 0 < p by omega) k f g i t j i j
     have hgb := S.en t htk j hjc
     have hbm := DF hfb hgb hb.2
     refine Ai (Ab (Ac (Ag (BB 34 Cd (by kernel_rfl) rfl (Wf Bc rfl (Wl rfl underlying24 (Cell.blk 0 rfl rfl) (Wm rfl (Wf A0 rfl (Wl rfl underlying3 (Cell.blk 3 rfl rfl) (AV (oM rfl) rfl rfl (Wm rfl (AV (oA rfl) rfl rfl (Wf Bc rfl (Wl rfl underlying24 (Cell.blk 0 rfl rfl) (Wm rfl (Wf A0 rfl (Wl rfl underlying3 (Cell.blk 3 rfl rfl) (AV (oM rfl) rfl rfl (Wm rfl (AV (oA rfl) rfl rfl (AV (Ah (i * c + j) (hO.rd (List.Mem.tail _ (List.Mem.head _))).rd rfl underlying24 A8 rfl rfl (by omega) (by omega)) rfl rfl (Wl rfl underlying3 ((hO.rd (List.Mem.tail _ (List.Mem.head _))).ent hir hjc) (Wm rfl (Wf Bc rfl (Wl rfl underlying24 (Cell.blk 3 rfl rfl) (Wm rfl (Wf A0 rfl (Wl rfl underlying3 (Cell.blk 3 rfl rfl) (AV (oM rfl) rfl rfl (Wm rfl (AV (oA rfl) rfl rfl (AV (Ah (t * c + j) hS.rd.any rfl underlying24 A8 rfl rfl (by omega) (by omega)) rfl rfl (Wl rfl underlying3 (hS.any.ent htk hjc) (AV (oM rfl) rfl rfl (AV (oA rfl) rfl rfl (Wf BE rfl (Wl rfl underlying3 (Cell.blk 4 rfl rfl) (AV (B0 rfl rfl rfl (by omega) (by omega)) rfl rfl (BC ?_)))))))))))))))))))))))))))))))))))))))
     refine Qx (Ah (i * c + j) (hO.rd (List.Mem.tail _ (List.Mem.head _))).rd rfl underlying24 A8 rfl rfl (by omega) (by omega)) rfl (Bu 1 (i * c + j) hO rfl A8 rfl rfl rfl (by omega) rfl rfl (fun m' hO' => Ak (Aj (Ab (Ad (Qm rfl (Qx (oA rfl) rfl (Qm rfl (Ak ?_)))))))))
     refine Al (c - (j + 1)) _ (by omega) ⟨j + 1, m', rfl, rfl, rfl, rfl, by omega, fun h0 => by omega, ?_⟩ Qs
     rw [C4 _ hjc, AO (fun a _ b _ => JC p k f g i t j a b)] at hO'
     exact hO'
    ·have hz : f i t = 0 := by omega
     obtain rfl := hj0 hz
     refine Aw (Aa (Aa (Af (Aj (Ab (Ad (Qm rfl (Qx (oA rfl) rfl (Qm rfl (Ak ?_))))))))))
     refine Al (k - (t + 1)) _ (by omega) ⟨t + 1, m, rfl, rfl, rfl, rfl, by omega, ?_⟩ Qs
     rw [AO (fun a _ b _ => OU p k f g i t a b hz)] at hO
     exact hO
   ·refine Qk rfl (Qk rfl (Qm rfl (Aq (Bb rfl (Aw (Aa (Aa (Af (Aj (Ab (Ad (Qm rfl (Qx (oA rfl) rfl (Qm rfl (Ak ?_)))))))))))))))
    obtain rfl : j = c := by omega
    refine Al (k - (t + 1)) _ (by omega) ⟨t + 1, m, rfl, rfl, rfl, rfl, by omega, ?_⟩ Qs
    rw [AO (fun a _ b hb => JI p k f g i t j a b hb)] at hO
    exact hO
  ·refine Aw (Aa (Aa (Af (Aj (Ab (Ad (Qm rfl (Qx (oA rfl) rfl (Qm rfl (Ak ?_))))))))))
   obtain rfl : t = k := by omega
   refine Al (r - (i + 1)) _ (by omega) ⟨i + 1, m, rfl, rfl, rfl, rfl, by omega, ?_⟩ Qs
   rw [AO (fun a _ b hb => Lb p t f g i a b)] at hO
   exact hO
 ·refine Aw (Aa (Aa (Af (Ab (Ax (Qx (oG rfl underlying42 AI (Seg.blk 0 rfl)) rfl ?_))))))
  refine Sa 2 [_, _, _, _] AI rfl (by simp [he1]) ?_
  refine Qm rfl (Aq (Ao ?_))
  obtain rfl : i = r := by omega
  refine AP 4 rfl (AP 3 rfl (AP 0 rfl ?_))
  exact CX (vs := [_, _, _, _]) 1 rfl rfl rfl underlying42 rfl AI rfl rfl (⟨rfl, _, rfl, ew, m, rfl, rfl, by rw [AO (fun a ha b hb => Lr p k f g i a b ha)] at hO; exact hO⟩)
end Go.Proofs.YtdnelknieikbaaaGreat
namespace Go.Proofs.YtdnelknieikbaaaGreat
open Tryz
open Go.Eng Go.RowKit Go.Lin
variable {n p : Int}
def Gf (n p : Int) : Int := n ^ (p.toNat - 2) % p
theorem F1 (hp : IsP p) (h1 : 1 ≤ n) (hn : n < p) : n * Gf n p % p = 1 := by
 obtain ⟨k, rfl⟩ := Int.eq_ofNat_of_zero_le (show 0 ≤ n by omega)
 exact Np hp (by omega) hn (Cg.mod _ _)
theorem Kh (hp : IsP p) (h1 : 1 ≤ n) (hn : n < p) : 1 ≤ Gf n p ∧ Gf n p < p := by
 have h2 := hp.1
 have h3 := F1 hp h1 hn
 have h4 : 0 ≤ Gf n p := Int.emod_nonneg _ (by omega)
 refine ⟨?_, Int.emod_lt_of_pos _ (by omega)⟩
 rcases (by omega : Gf n p = 0 ∨ 1 ≤ Gf n p) with h | h
 ·rw [h, Int.mul_zero, Int.zero_emod] at h3; omega
 ·exact h
theorem L3 {v : Int} (hp : IsP p) (h1 : 1 ≤ n) (hn : n < p) (hv : 0 ≤ v ∧ v < p) (h : n * v % p = 1) : v = Gf n p := by
 have h2 := hp.1
 have h3 := F1 hp h1 hn
 have hb := Kh hp h1 hn
 have c1 : Cg p (n * v) 1 := Cg.iff_mod.2 (by rw [h, Int.emod_eq_of_lt (by omega) (by omega)])
 have c2 : Cg p (n * Gf n p) 1 := Cg.iff_mod.2 (by rw [h3, Int.emod_eq_of_lt (by omega) (by omega)])
 have c3 : Cg p (v * (n * Gf n p)) v := by have := Cg.mul (Cg.refl p v) c2; rwa [Int.mul_one] at this
 have c4 : Cg p (v * (n * Gf n p)) (Gf n p) := by
  have := Cg.mul c1 (Cg.refl p (Gf n p))
  rw [Int.one_mul] at this
  exact Cg.trans (Cg.of_eq (by rw [← Int.mul_assoc, Int.mul_comm v n])) this
 exact (c3.symm.trans c4).eq hv ⟨by omega, hb.2⟩
theorem Ry (n p : Int) (h : Hp) (hp : IsP p) (h1 : 1 ≤ n) (hn : n < p) (ms : List Hp) : Dq Tryz.prog 81 #[.int .i64 n, .int .i64 p] h ms (.int .i64 (Gf n p)) := by
 refine Ds ?_ ms
 have hb : 2 ≤ p ∧ p ≤ 997 := ⟨hp.1, hp.2.1⟩
 have ho := Kh hp h1 hn
 have hi := F1 hp h1 hn
 refine Av func81 ntmps81 rfl rfl (fun w0 hw0 => ?_)
 simp only [A4]
 refine Ax (Qm rfl (Aq (Ac (Ax (Qm rfl (Aq (Ag ?_)))))))
 refine AD (fun q s h' ms' => ∃ (k : Nat), q = 1000 - k ∧ s = [(0, .int .i64 n), (1, .int .i64 p), (5, .int .i64 k)] ∧ h = h' ∧ ms' = [] ∧ 1 ≤ k ∧ (k : Int) ≤ Gf n p)
  (1000 - 1) _ ⟨1, rfl, rfl, rfl, rfl, by omega, by omega⟩ Qs ?_
 rintro q s h' ms' ⟨k, rfl, rfl, rfl, rfl, hk, hko⟩
 have hbm := DF (p := p) (a := n) (b := k) ⟨by omega, hn⟩ ⟨by omega, by omega⟩ hb.2
 refine Ac (Ax (Qm rfl (Qm rfl (Qm rfl (Aq ?_)))))
 refine AF rfl (fun hc => ?_) (fun hc => absurd (by omega) hc)
 refine Ai (Ab (Ac (Ag (Ax (Qm rfl (Qm rfl (Qx (oM rfl) rfl (Qm rfl (Qx (B0 rfl rfl rfl (by omega) (by omega)) rfl (Qm rfl (Aq ?_)))))))))))
 refine AF rfl (fun he => ?_) (fun he => ?_)
 ·refine Ac (Ad (Qm rfl (Qm rfl (Aq (Ao (Ap (Ae (Ae (Ap (Ae ?_))))))))))
  exact Am rfl rfl (by rw [← L3 hp h1 hn ⟨by omega, by omega⟩ he])
 ·refine Ai (Aj (Ab (Ad (Qm rfl (Qx (oA rfl) rfl (Qm rfl (Ak ?_)))))))
  refine Al (1000 - (k + 1)) _ (by omega) ⟨k + 1, rfl, rfl, rfl, rfl, by omega, ?_⟩ Qs
  rcases (by omega : (k : Int) = Gf n p ∨ (k : Int) < Gf n p) with h2 | h2
  ·rw [h2] at he; exact absurd hi he
  ·omega
def I5 (l : List Int) : Int := TE l fun n => decide (n ≠ 0)
theorem FW (l : List Int) (vl : Value) (h : Hp) (hR : RdL cI 1 h [] vl l) (ms : List Hp) : Dq Tryz.prog 80 #[vl] h ms (.int .i64 (I5 l)) := by
 refine Ds ?_ ms
 have hl := hR.len_le
 refine Av func80 ntmps80 rfl rfl (fun w0 hw0 => ?_)
 simp only [A4]
 refine Ax (Qm rfl (Aq (Ac (Ax (Qm rfl (Aq (Ag ?_)))))))
 refine AD (fun n s h' ms' => ∃ (k : Nat), n = l.length - k ∧ s = [(0, vl), (3, .int .i64 k)] ∧ h = h' ∧ ms' = [] ∧ k ≤ l.length ∧ ∀ j (hj : j < l.length), j < k → decide (l[j] ≠ 0) = false)
  (l.length - 0) _ ⟨0, rfl, rfl, rfl, rfl, by omega, fun j hj h => by omega⟩ Qs ?_
 rintro n s h' ms' ⟨k, rfl, rfl, rfl, rfl, hk, hno⟩
 refine Ac (Ax (Qm rfl (Qm rfl (Qx (AJ hR.rd.any rfl underlying24 rfl) rfl (Qm rfl (Aq ?_))))))
 refine AF rfl (fun hlt => ?_) (fun hlt => ?_)
 ·have hlt' : k < l.length := by omega
  refine Ai (Ab (Ac (Ag (Ax (Qm rfl (Qm rfl (Qx (Ah _ hR.rd.any rfl underlying24 A8 rfl rfl rfl (by omega)) rfl (Ql rfl underlying3 (hR.any.cell0 hlt' rfl) (Qm rfl (Aq ?_))))))))))
  refine AF rfl (fun hpk => ?_) (fun hpk => ?_)
  ·refine Ac (Ad (Qm rfl (Qm rfl (Aq (Ao (Ap (Ae (Ae (Ap (Ae ?_))))))))))
   exact Am rfl rfl (by unfold I5; rw [GA hlt' (decide_eq_true hpk) fun j hj => hno j _ hj])
  ·refine Ai (Aj (Ab (Ad (Qm rfl (Qx (oA rfl) rfl (Qm rfl (Ak ?_)))))))
   refine Al (l.length - (k + 1)) _ (by omega) ⟨k + 1, rfl, rfl, rfl, rfl, by omega, fun j hj h1 => ?_⟩ Qs
   rcases (by omega : j < k ∨ j = k) with h2 | rfl
   ·exact hno j hj h2
   ·exact decide_eq_false hpk
 ·refine Aw (Aa (Aa (Af (Ab (Ax (Qm rfl (Aq (Ao ?_))))))))
  exact Am rfl rfl (by unfold I5; rw [Hc fun j hj => hno j hj (by omega)])
end Go.Proofs.YtdnelknieikbaaaGreat
namespace Go.Proofs.YtdnelknieikbaaaGreat
open Tryz
open Go.Eng Go.RowKit Go.Lin
theorem La (n : Nat) (f : Nat → Int) : vec n f ++ [f n] = vec (n + 1) f := by
 unfold vec
 rw [List.range_succ, List.map_append]
 rfl
theorem Jo (p : Int) (r c : Nat) (f : Nat → Nat → Int) (w : Nat → Int) (ev vv : Value) (h : Hp) (R : RtM p r c f) (hw : ∀ j, j < c → 0 ≤ w j ∧ w j < p) (hR : RdL cI 1 h [] ev (mat r c f)) (hV : RdL cI 1 h [] vv (vec c w)) :
  FnT Tryz.prog 83 #[.agg #[.int .i64 p, .int .i64 r, .int .i64 c, ev], vv] h [] (fun x h' ms' => h.le h' ∧ ∃ m, ms' = [m] ∧ OwnL cI 1 3 m x (vec r (D2 p c f w))) := by
 have o1 := hR.rd.one
 have hb := R.bd
 have rl := R.rl
 have cl := R.cl
 have ew := AQ c w
 have hrc : r * c ≤ 400 * 400 := Nat.mul_le_mul rl cl
 have el : (mat r c f).length = r * c := AY _ _ _
 refine Av func83 ntmps83 rfl rfl (fun w0 hw0 => ?_)
 simp only [A4]
 refine Ax ?_
 refine AS [_, _, _, _] rfl rfl (by rfl) rfl rfl rfl (fun g2 => ?_)
 refine Qm rfl (Aq (By 0 rfl fun h1 l1 hS => ?_))
 have hR := hR.up l1
 have hV := hV.up l1
 have hA := Seg.all hS
 have hA0 := hA 0 _ rfl
 refine Ax (Qm rfl (Aq (Ac (Ax (Qm rfl (Aq (Ag (BX ?_))))))))
 refine AD (fun q s hh ms' => ∃ (i : Nat) (v : Value) (m : Hp), q = r - i ∧ s = [(1, vv), (2, .pointer (some ⟨g2, 0, none⟩)), (5, v), (6, .int .i64 i)] ∧ h1 = hh ∧ ms' = [m] ∧ i ≤ r ∧ OwnL cI 1 3 m v (vec i (D2 p c f w)))
  (r - 0) _ ⟨0, _, _, rfl, rfl, rfl, rfl, by omega, OwnL.nil Br⟩ Qs ?_
 rintro q s hh ms' ⟨i, v, m, rfl, rfl, rfl, rfl, hi, hO⟩
 refine Ac (Ax (Qm rfl (Qf Bh rfl (Ql rfl underlying3 (hA _ _ rfl _) (Qm rfl (Aq ?_))))))
 refine AF rfl (fun hlt => ?_) (fun hlt => ?_)
 ·have hir : i < r := by omega
  refine Ai (Ab (Ac (Ag (Ax (Qm rfl (Aq (Ac (Ax (Qm rfl (Aq (Ag ?_)))))))))))
  refine AD (fun q s hh ms' => ∃ (j : Nat) (x : Int), q = c - j ∧ s = [(1, vv), (2, .pointer (some ⟨g2, 0, none⟩)), (5, v), (6, .int .i64 i), (7, .int .i64 x), (8, .int .i64 j)] ∧ h1 = hh ∧ ms' = [m] ∧ j ≤ c ∧ x = sm j (fun t => f i t * w t) % p)
   (c - 0) _ ⟨0, 0, rfl, rfl, rfl, rfl, by omega, (Int.zero_emod p).symm⟩ Qs ?_
  rintro q s hh ms' ⟨j, x, rfl, rfl, rfl, rfl, hj, hx⟩
  have x0 : 0 ≤ x := by rw [hx]; exact Int.emod_nonneg _ (by omega)
  have x1 : x < p := by rw [hx]; exact Int.emod_lt_of_pos _ (by omega)
  refine Ac (Ax (Qm rfl (Qf A0 rfl (Ql rfl underlying3 (hA _ _ rfl _) (Qm rfl (Aq ?_))))))
  refine AF rfl (fun hlt2 => ?_) (fun hlt2 => ?_)
  ·have hjc : j < c := by omega
   have hix := Cp hir hjc
   have hbm := DF (R.en i hir j hjc) (hw j hjc) hb.2
   refine Ai (Ab (Ac (Ag (BB 19 Cd (by kernel_rfl) rfl (Wm rfl (Wf Bc rfl (Wl rfl underlying24 (hA _ _ rfl _) (Wm rfl (Wf A0 rfl (Wl rfl underlying3 (hA _ _ rfl _) (AV (oM rfl) rfl rfl (Wm rfl (AV (oA rfl) rfl rfl (AV (Ah (i * c + j) hR.rd.any rfl underlying24 A8 rfl rfl (by omega) (by omega)) rfl rfl (Wl rfl underlying3 (hR.any.ent hir hjc) (Wm rfl (Wm rfl (AV (Ah _ hV.rd.any rfl underlying24 A8 rfl rfl rfl (by omega)) rfl rfl (Wl rfl underlying3 (hV.any.ev hjc) (AV (oM rfl) rfl rfl (AV (oA rfl) rfl rfl (Wf BE rfl (Wl rfl underlying3 (hA0 _) (BC (Qx (B0 rfl rfl rfl (by omega) (by omega)) rfl (Qm rfl (Ak (Aj (Ab (Ad (Qm rfl (Qx (oA rfl) rfl (Qm rfl (Ak ?_))))))))))))))))))))))))))))))))))
   refine Al (c - (j + 1)) _ (by omega) ⟨j + 1, (x + f i j * w j) % p, rfl, rfl, rfl, rfl, by omega, ?_⟩ Qs
   rw [hx, Int.emod_add_emod]
   rfl
  ·obtain rfl : j = c := by omega
   have evi := AQ i (D2 p j f w)
   refine Aw (Aa (Aa (Af (Ab (Ad (Qm rfl (Qm rfl ?_)))))))
   refine AB [_] rfl underlying24 A8 rfl (by rfl) rfl rfl (by omega) rfl rfl rfl (fun g43 => ?_)
   refine Bm 1 hO (RdL.one Br (List.Mem.head _) rfl) rfl underlying24 A8 rfl (by omega) rfl rfl rfl Cv (by simp only [evi, List.length_singleton]; omega) (by simp only [evi, List.length_singleton]; omega) rfl rfl rfl (fun v' m' hO' => ?_)
   refine Qm rfl (Ak (Aj (Ab (Ad (Qm rfl (Qx (oA rfl) rfl (Qm rfl (Ak (A5 ?_)))))))))
   refine Al (r - (i + 1)) _ (by omega) ⟨i + 1, v', m', rfl, rfl, rfl, rfl, by omega, ?_⟩ Qs
   rw [hx] at hO'
   rw [← La]
   exact hO'
 ·refine Aw (Aa (Aa (Af (Ab (Ax (Qm rfl (Qm rfl (Aq (Ao ?_)))))))))
  exact Am rfl rfl (⟨l1, m, rfl, by rw [show i = r by omega] at hO; exact hO⟩)
end Go.Proofs.YtdnelknieikbaaaGreat
namespace Go.Proofs.YtdnelknieikbaaaGreat
open Go.Eng Go.RowKit Go.Lin
theorem Red.fin {p : Int} {r c : Nat} {f F : Nat → Nat → Int} {pv : List Nat} (hl : r ≤ pv.length) : ∀ (d j : Nat), Red p r c f F pv j → Red p r c f F pv (j + d)
 | 0, j, R => R
 | d + 1, j, R => by
  have := (Red.fin hl d j R).skip fun i hi hli => by omega
  exact this
def SQ (p : Int) (t k : Nat) (v : Int) (F : Nat → Nat → Int) (n a b : Nat) : Int := if b < n then De p t k v F a b else F a b
theorem Sj (p : Int) (t k : Nat) (v : Int) (F : Nat → Nat → Int) (a b : Nat) : SQ p t k v F 0 a b = F a b := if_neg (by omega)
theorem Va (p : Int) (t k : Nat) (v : Int) (F : Nat → Nat → Int) (n a : Nat) : SQ p t k v F n a n = F a n := if_neg (by omega)
theorem QX (p : Int) (t k : Nat) (v : Int) (F : Nat → Nat → Int) (n a b : Nat) : DB (DB (SQ p t k v F n) k n (F t n)) t n (F k n * v % p) a b = SQ p t k v F (n + 1) a b := by
 unfold DB SQ De FE
 by_cases h1 : a = t ∧ b = n
 ·obtain ⟨rfl, rfl⟩ := h1
  simp
 ·rw [if_neg h1]
  by_cases h2 : a = k ∧ b = n
  ·obtain ⟨rfl, rfl⟩ := h2
   have : ¬ a = t := fun e => h1 ⟨e, rfl⟩
   simp [this]
  ·rw [if_neg h2]
   by_cases h3 : b < n
   ·have h4 : b < n + 1 := by omega
    simp only [h3, h4, if_true]
   ·by_cases h4 : b < n + 1
    ·have hb : b = n := by omega
     have ha : ¬ a = t := fun e => h1 ⟨e, hb⟩
     have hk : ¬ a = k := fun e => h2 ⟨e, hb⟩
     simp only [h3, h4, ha, hk, if_true, if_false]
    ·simp only [h3, h4, if_false]
theorem TF (p : Int) (t k j : Nat) (v : Int) (F : Nat → Nat → Int) (c a b : Nat) (hb : b < c) : SQ p t k v F c a b = Hi p t k j v F 0 a b := by
 unfold SQ Hi
 rw [if_pos hb, if_neg (by omega)]
def PF (p : Int) (t k j : Nat) (v : Int) (F : Nat → Nat → Int) (i n a b : Nat) : Int := if a < i ∨ (a = i ∧ b < n) then J0 p t k j v F a b else De p t k v F a b
theorem LX (p : Int) (t k j : Nat) (v : Int) (F : Nat → Nat → Int) (i a b : Nat) : PF p t k j v F i 0 a b = Hi p t k j v F i a b := by
 unfold PF Hi
 by_cases h : a < i
 ·rw [if_pos (.inl h), if_pos h]
 ·rw [if_neg (by omega), if_neg h]
theorem PS (p : Int) (t k j : Nat) (v : Int) (F : Nat → Nat → Int) (i n a b : Nat) (hi : i ≠ t) : DB (PF p t k j v F i n) i n ((De p t k v F i n + (p - De p t k v F i j) * De p t k v F t n) % p) a b = PF p t k j v F i (n + 1) a b := by
 unfold DB PF
 by_cases h : a = i ∧ b = n
 ·obtain ⟨rfl, rfl⟩ := h
  rw [if_pos ⟨rfl, rfl⟩, if_pos (by omega)]
  unfold J0
  rw [if_neg hi, Int.mul_comm]
 ·rw [if_neg h]
  by_cases h2 : a < i ∨ (a = i ∧ b < n)
  ·rw [if_pos h2, if_pos (by omega)]
  ·rw [if_neg h2, if_neg (by omega)]
theorem UX (p : Int) (t k j : Nat) (v : Int) (F : Nat → Nat → Int) (i n : Nat) : PF p t k j v F i n i n = De p t k v F i n := if_neg (by omega)
theorem V3 (p : Int) (t k j : Nat) (v : Int) (F : Nat → Nat → Int) (i n b : Nat) : PF p t k j v F i n t b = De p t k v F t b := by
 unfold PF J0; rw [if_pos rfl]; split <;> rfl
theorem T3 (p : Int) (t k j : Nat) (v : Int) (F : Nat → Nat → Int) (i c a b : Nat) (hb : b < c) : PF p t k j v F i c a b = Hi p t k j v F (i + 1) a b := by
 unfold PF Hi
 by_cases h : a < i ∨ (a = i ∧ b < c)
 ·rw [if_pos h, if_pos (by omega)]
 ·rw [if_neg h, if_neg (by omega)]
end Go.Proofs.YtdnelknieikbaaaGreat
namespace Go.Proofs.YtdnelknieikbaaaGreat
open Tryz
open Go.Eng Go.RowKit Go.Lin
theorem MA (p : Int) (r c : Nat) (f : Nat → Nat → Int) (ev : Value) (h : Hp) (hp : IsP p) (hr : r ≤ 400) (hc : c ≤ 800) (hf : UO p r c f) (hR : RdL cI 1 h [] ev (mat r c f)) :
  FnT Tryz.prog 86 #[.agg #[.int .i64 p, .int .i64 r, .int .i64 c, ev]] h [] (fun x h' ms' => h.le h' ∧ ∃ (F : Nat → Nat → Int) (pv : List Nat) (eu vp : Value) (m m2 : Hp), x = .tuple #[.agg #[.int .i64 p, .int .i64 r, .int .i64 c, eu], vp] ∧ ms' = [m, m2] ∧ OwnL cI 1 3 m eu (mat r c F) ∧ OwnL cI 1 3 m2 vp (HY pv) ∧ Ho p r c f F pv) := by
 have hb : 2 ≤ p ∧ p ≤ 997 := ⟨hp.1, hp.2.1⟩
 have e1 := hR.rd.one
 have b2 : r * c ≤ 400 * 800 := Nat.mul_le_mul hr hc
 have el : (mat r c f).length = r * c := AY _ _ _
 refine Av func86 ntmps86 rfl rfl (fun w0 hw0 => ?_)
 simp only [A4]
 refine Ax ?_
 refine AS [_, _, _, _] rfl rfl (by rfl) rfl rfl rfl (fun g1 => ?_)
 refine BZ [.int .i64 0, .int .i64 0, .int .i64 0, .slice none 0 0] rfl AI rfl rfl (fun g2 => Qm rfl (Aq (By 1 rfl fun h' hle hS => ?_)))
 have hR := hR.up hle
 have hA := Seg.all hS
 have hA0 := hA 0 _ rfl
 refine Ax (Qf BE rfl (Ql rfl underlying3 (hA0 _) (Qm rfl (B3 (Qf A0 rfl (Ql rfl underlying3 (hA _ _ rfl _) (Qm rfl (Aq ?_))))))))
 refine Bv (fun s hh ms' => ∃ (m : Hp) (eu : Value) (g6 : Nat), s = [(1, .pointer (some ⟨g1, 0, none⟩)), (2, .pointer (some ⟨g2, 0, none⟩)), (4, .int .i64 p), (5, .int .i64 c), (6, .pointer (some ⟨g6, 0, none⟩))] ∧ h' = hh ∧ ms' = [AX g6 42 [.int .i64 p, .int .i64 r, .int .i64 c, eu], m, AX g2 42 [.int .i64 0, .int .i64 0, .int .i64 0, .slice none 0 0]] ∧ OwnL cI 1 3 m eu (mat r c f)) ?_ (fun s h ms hI => ?_)
 ·refine AW (n := 11) (bs := [true, true, true, true, false, true, true, false, false, false, false]) [true, true, true, true, false, true, true] Cd (by kernel_rfl) (by kernel_rfl) rfl rfl (Qq rfl (QF Bh rfl (QL rfl underlying3 (hA _ _ rfl _) (Qq rfl (QF Bc rfl (QL rfl underlying24 (hA _ _ rfl _) ?_))))))
  unfold CD
  simp only [List.cons_append, List.nil_append]
  refine A2 [4, 9] (by kernel_rfl) rfl ?_
  refine Az rfl ?_ ?_
  ·refine AZ [] [] [] rfl underlying24 A8 rfl (by omega) (by kernel_rfl) (by repeat (first | exact trivial | refine ⟨⟨by first | rfl | exact (hR.rd.any).cells | exact ((hO1.rd (h := h) (ms := [m1]) (List.Mem.head _)).rd).cells | exact Rd.cells ‹_› | exact (RdL.rd ‹_›).cells, rfl, rfl⟩, ?_⟩)) rfl rfl rfl rfl (fun g25 => ?_)
   refine Qw (A2 [7, 9] (by kernel_rfl) rfl ?_)
   refine Az rfl ?_ ?_
   ·refine Bm 0 (OwnL.blk (F := cI) (el := 3) (g := g25) (l := ([] : List Int)) 0 Br rfl (by omega)) hR.any rfl underlying24 A8 rfl (by omega) rfl rfl rfl Cv (by simp; omega) (by simp; omega) rfl rfl rfl (fun v1 m1 hO1 => ?_)
    rw [List.nil_append] at hO1
    have ov : v1.oneCell' = true := (hO1.rd (h := h) (ms := [m1]) (List.Mem.head _)).rd.one
    refine Qw ?_
    refine An 8 29 (by kernel_rfl) rfl (Hp.le_refl _) rfl (AT Gh [.int .i64 0, .int .i64 0, .int .i64 0, .slice none 0 0] [(0, _), (1, _), (2, _), (3, _)] [_, _, _, _] rfl AI rfl rfl (by repeat (first | exact trivial | refine ⟨⟨rfl, rfl, rfl⟩, ?_⟩ | refine ⟨⟨((hO1.rd (h := h) (ms := [m1]) (List.Mem.head _)).rd).cells, rfl, rfl⟩, ?_⟩)) rfl) ?_
    refine Qo 9 rfl (BZ [.int .i64 0, .int .i64 0, .int .i64 0, .slice none 0 0] rfl AI rfl rfl (fun g6 => Qw (Qo 10 rfl ?_)))
    refine Sa 0 [_, _, _, _] AI rfl (by simp [ov]) ?_
    refine Qw (Qe ?_)
    exact AA _ ⟨m1, v1, g6, rfl, rfl, rfl, hO1⟩ Qs
   refine Az rfl ?_ ?_
   ·refine BZ [.int .i64 0, .int .i64 0, .int .i64 0, .slice none 0 0] rfl AI rfl rfl (fun g6 => Qw (Qo 7 rfl ?_))
    refine Bm 1 (OwnL.blk (F := cI) (el := 3) (g := g25) (l := ([] : List Int)) 0 Br rfl (by omega)) hR.any rfl underlying24 A8 rfl (by omega) rfl rfl rfl Cv (by simp; omega) (by simp; omega) rfl rfl rfl (fun v1 m1 hO1 => ?_)
    rw [List.nil_append] at hO1
    have ov : v1.oneCell' = true := (hO1.rd (h := h) (ms := [m1]) (List.Mem.head _)).rd.one
    refine Qw ?_
    refine An 8 29 (by kernel_rfl) rfl (Hp.le_refl _) rfl (AT Gh [.int .i64 0, .int .i64 0, .int .i64 0, .slice none 0 0] [(0, _), (1, _), (2, _), (3, _)] [_, _, _, _] rfl AI rfl rfl (by repeat (first | exact trivial | refine ⟨⟨rfl, rfl, rfl⟩, ?_⟩ | refine ⟨⟨((hO1.rd (h := h) (ms := [m1]) (List.Mem.head _)).rd).cells, rfl, rfl⟩, ?_⟩)) rfl) ?_
    refine Qo 10 rfl ?_
    refine Sa 0 [_, _, _, _] AI rfl (by simp [ov]) ?_
    refine Qw (Qe ?_)
    exact AA _ ⟨m1, v1, g6, rfl, rfl, rfl, hO1⟩ Qs
   exact A3
  refine Az rfl ?_ ?_
  ·refine BZ [.int .i64 0, .int .i64 0, .int .i64 0, .slice none 0 0] rfl AI rfl rfl (fun g6 => Qw (Qo 4 rfl ?_))
   refine AZ [] [] [] rfl underlying24 A8 rfl (by omega) (by kernel_rfl) (by repeat (first | exact trivial | refine ⟨⟨by first | rfl | exact (hR.rd.any).cells | exact ((hO1.rd (h := h) (ms := [m1]) (List.Mem.head _)).rd).cells | exact Rd.cells ‹_› | exact (RdL.rd ‹_›).cells, rfl, rfl⟩, ?_⟩)) rfl rfl rfl rfl (fun g25 => ?_)
   refine Qw (Qo 7 rfl ?_)
   refine Bm 0 (OwnL.blk (F := cI) (el := 3) (g := g25) (l := ([] : List Int)) 0 Br rfl (by omega)) hR.any rfl underlying24 A8 rfl (by omega) rfl rfl rfl Cv (by simp; omega) (by simp; omega) rfl rfl rfl (fun v1 m1 hO1 => ?_)
   rw [List.nil_append] at hO1
   have ov : v1.oneCell' = true := (hO1.rd (h := h) (ms := [m1]) (List.Mem.head _)).rd.one
   refine Qw ?_
   refine An 8 29 (by kernel_rfl) rfl (Hp.le_refl _) rfl (AT Gh [.int .i64 0, .int .i64 0, .int .i64 0, .slice none 0 0] [(0, _), (1, _), (2, _), (3, _)] [_, _, _, _] rfl AI rfl rfl (by repeat (first | exact trivial | refine ⟨⟨rfl, rfl, rfl⟩, ?_⟩ | refine ⟨⟨((hO1.rd (h := h) (ms := [m1]) (List.Mem.head _)).rd).cells, rfl, rfl⟩, ?_⟩)) rfl) ?_
   refine Qo 10 rfl ?_
   refine Sa 1 [_, _, _, _] AI rfl (by simp [ov]) ?_
   refine Qw (Qe ?_)
   exact A9 (AA _ ⟨m1, v1, g6, rfl, rfl, rfl, hO1⟩ Qs)
  exact A3
 obtain ⟨m, eu, g6, rfl, rfl, rfl, hO⟩ := hI
 ·have e2 : eu.oneCell' = true := (hO.rd (h := h) (ms := [m]) (List.Mem.head _)).rd.one
  refine BX (Ea (ms' := [AX g6 42 [.int .i64 p, .int .i64 r, .int .i64 c, eu], m, Hp.emp, AX g2 42 [.int .i64 0, .int .i64 0, .int .i64 0, .slice none 0 0]]) ((List.Perm.swap _ _ _).trans ((List.Perm.swap _ _ _).cons _)) (Ax (Qm rfl (B3 (Qm rfl (Aq (Ac (Ax (Qm rfl (Aq (Ag ?_)))))))))))
  refine AD (fun q s hh ms' => ∃ (j : Nat) (F : Nat → Nat → Int) (pv : List Nat) (vp : Value) (m m2 : Hp), q = c - j ∧ s = [(1, .pointer (some ⟨g1, 0, none⟩)), (2, .pointer (some ⟨g2, 0, none⟩)), (4, .int .i64 p), (5, .int .i64 c), (6, .pointer (some ⟨g6, 0, none⟩)), (7, vp), (8, .int .i64 (pv.length : Nat)), (9, .int .i64 j)] ∧ h' = hh ∧ ms' = [AX g6 42 [.int .i64 p, .int .i64 r, .int .i64 c, eu], m, m2, AX g2 42 [.int .i64 0, .int .i64 0, .int .i64 0, .slice none 0 0]] ∧ j ≤ c ∧ OwnL cI 1 3 m eu (mat r c F) ∧ OwnL cI 1 3 m2 vp (HY pv) ∧ Red p r c f F pv j)
   (c - 0) _ ⟨0, f, [], _, m, _, rfl, rfl, rfl, rfl, by omega, hO, OwnL.nil Br, Red.start hf⟩ Qs ?_
  rintro q s hh ms' ⟨j, F, pv, vp, m, m2, rfl, rfl, rfl, rfl, hj, hO, hO2, hRed⟩
  have ovp := (DA (h := h') (ms := [m2]) hO2 (List.Mem.head _)).one
  have hlr := hRed.len
  refine Ac (Ax (Qm rfl (Qm rfl (Qm rfl (Qm rfl ?_)))))
  refine AR (t := 33) rfl (fun hlt => ?_) (fun hlt => ?_)
  ·have hjc : j < c := by omega
   refine Qg (As rfl rfl) rfl (Qg (oF Bh rfl) rfl (Qg (oL rfl underlying3 (hA _ _ rfl _)) rfl (Qg (Dy rfl rfl rfl) rfl (Qm rfl (Aq ?_)))))
   refine AF rfl (fun hlt0 => ?_) (fun hlt0 => ?_)
   ·have htr : pv.length < r := by omega
    refine Ai (Ab (Ac (Ag (Ax (Qm rfl (Qm rfl (Aq (Ac (Ag ?_)))))))))
    refine AD (fun q s hh ms' => ∃ (i : Nat), q = r - i ∧ s = [(1, .pointer (some ⟨g1, 0, none⟩)), (2, .pointer (some ⟨g2, 0, none⟩)), (4, .int .i64 p), (5, .int .i64 c), (6, .pointer (some ⟨g6, 0, none⟩)), (7, vp), (8, .int .i64 pv.length), (9, .int .i64 j), (10, .int .i64 i)] ∧ h' = hh ∧ ms' = [AX g6 42 [.int .i64 p, .int .i64 r, .int .i64 c, eu], m, m2, AX g2 42 [.int .i64 0, .int .i64 0, .int .i64 0, .slice none 0 0]] ∧ pv.length ≤ i ∧ i ≤ r ∧ ∀ a, pv.length ≤ a → a < i → F a j = 0)
     (r - pv.length) _ ⟨pv.length, rfl, rfl, rfl, rfl, by omega, by omega, fun a h1 h2 => by omega⟩ Qs ?_
    rintro q s hh ms' ⟨i, rfl, rfl, rfl, rfl, hli, hir, hno⟩
    have elF : (mat r c F).length = r * c := AY _ _ _
    refine Ac (Ax (Qm rfl (Qf Bh rfl (Ql rfl underlying3 (hA _ _ rfl _) (Qm rfl (Qm rfl ?_))))))
    refine AR (t := 46) rfl (fun hi => ?_) (fun hi => ?_)
    ·have hi : i < r := by omega
     have hix := Cp hi hjc
     have hFi := hRed.bd i hi j hjc
     refine Qg (oF Bc rfl) rfl (Qg (oL rfl underlying24 (Cell.blk 0 rfl rfl)) rfl (Qg (As rfl rfl) rfl (Qg (As rfl rfl) rfl (Qg (oM rfl) rfl (Qg (As rfl rfl) rfl (Qg (oA rfl) rfl (Qg (Ah (i * c + j) (hO.rd (List.Mem.tail _ (List.Mem.head _))).rd rfl underlying24 A8 rfl rfl (by omega) (by omega)) rfl (Qg (oL rfl underlying3 ((hO.rd (List.Mem.tail _ (List.Mem.head _))).ent hi hjc)) rfl (Qg (EJ rfl rfl rfl) rfl (Qm rfl (Aq ?_)))))))))))
     refine AF rfl (fun hz => ?_) (fun hz => ?_)
     ·refine Ai (Ab (Ag (Ad (Qm rfl (Qx (oA rfl) rfl (Qm rfl (Ak (Aj ?_))))))))
      refine Al (r - (i + 1)) _ (by omega) ⟨i + 1, rfl, rfl, rfl, rfl, by omega, by omega, fun a h1 h2 => ?_⟩ Qs
      rcases (by omega : a < i ∨ a = i) with h3 | rfl
      ·exact hno a h1 h3
      ·exact hz
     ·refine Aw (Aa (Aa (Af (Ab (Ac (Ax (Qm rfl (Qf Bh rfl (Ql rfl underlying3 (hA _ _ rfl _) (Qm rfl (Aq (AF rfl (fun hc => absurd hc (by omega)) (fun hc => Ai (Ab (Ax (Qf Bc rfl (Ql rfl underlying24 (Cell.blk 0 rfl rfl) (Qm rfl (Qm rfl (Qx (oM rfl) rfl (Qm rfl (Qx (oA rfl) rfl (Qx (Ah (i * c + j) (hO.rd (List.Mem.tail _ (List.Mem.head _))).rd rfl underlying24 A8 rfl rfl (by omega) (by omega)) rfl (Ql rfl underlying3 ((hO.rd (List.Mem.tail _ (List.Mem.head _))).ent hi hjc) (Qm rfl (Qx (AG rfl call81 rfl (Ry (F i j) p _ hp (by omega) (by omega) _)) rfl (Qm rfl (Aq (Ac (Ax (Qm rfl (Aq (Ag ?_)))))))))))))))))))))))))))))))))
      have ho1 := Kh hp (show 1 ≤ F i j by omega) hFi.2
      have ho2 := F1 hp (show 1 ≤ F i j by omega) hFi.2
      generalize Gf (F i j) p = v at *
      refine AD (fun q s hh ms' => ∃ (b : Nat) (m : Hp), q = c - b ∧ s = [(1, .pointer (some ⟨g1, 0, none⟩)), (2, .pointer (some ⟨g2, 0, none⟩)), (4, .int .i64 p), (5, .int .i64 c), (6, .pointer (some ⟨g6, 0, none⟩)), (7, vp), (8, .int .i64 pv.length), (9, .int .i64 j), (10, .int .i64 i), (11, .int .i64 v), (12, .int .i64 b)] ∧ h' = hh ∧ ms' = [AX g6 42 [.int .i64 p, .int .i64 r, .int .i64 c, eu], m, m2, AX g2 42 [.int .i64 0, .int .i64 0, .int .i64 0, .slice none 0 0]] ∧ b ≤ c ∧ OwnL cI 1 3 m eu (mat r c (SQ p pv.length i v F b)))
       (c - 0) _ ⟨0, m, rfl, rfl, rfl, rfl, by omega, by rw [AO (fun a _ b _ => Sj p pv.length i v F a b)]; exact hO⟩ Qs ?_
      rintro q s hh ms' ⟨b, m, rfl, rfl, rfl, rfl, hbc, hO⟩
      refine Ac (Ax (Qm rfl (Qm rfl (Qm rfl (Aq ?_)))))
      refine AF rfl (fun hltb => ?_) (fun hltb => ?_)
      ·have hb' : b < c := by omega
       have hxi := Cp hi hb'
       have hxt := Cp htr hb'
       have hFb := hRed.bd i hi b hb'
       have hbm := DF hFb (p := p) ⟨show 0 ≤ v by omega, ho1.2⟩ hb.2
       have els : (mat r c (SQ p pv.length i v F b)).length = r * c := AY _ _ _
       have hat := Va p pv.length i v F b
       refine Ai (Ab (Ac (Ag (Ax (Qf Bc rfl (Ql rfl underlying24 (Cell.blk 0 rfl rfl) (Qm rfl (Qm rfl (Qx (oM rfl) rfl (Qm rfl (Qx (oA rfl) rfl (Qx (Ah (i * c + b) (hO.rd (List.Mem.tail _ (List.Mem.head _))).rd rfl underlying24 A8 rfl rfl (by omega) (by omega)) rfl (Ql rfl underlying3 ((hat i ▸ (hO.rd (List.Mem.tail _ (List.Mem.head _))).ent hi hb')) (Qm rfl (Aq (Ac (BB 16 Cd (by kernel_rfl) rfl (Wf Bc rfl (Wl rfl underlying24 (Cell.blk 0 rfl rfl) (Wm rfl (Wm rfl (AV (oM rfl) rfl rfl (Wm rfl (AV (oA rfl) rfl rfl (Wf Bc rfl (Wl rfl underlying24 (Cell.blk 0 rfl rfl) (Wm rfl (Wm rfl (AV (oM rfl) rfl rfl (Wm rfl (AV (oA rfl) rfl rfl (AV (Ah (pv.length * c + b) (hO.rd (List.Mem.tail _ (List.Mem.head _))).rd rfl underlying24 A8 rfl rfl (by omega) (by omega)) rfl rfl (Wl rfl underlying3 ((hat pv.length ▸ (hO.rd (List.Mem.tail _ (List.Mem.head _))).ent htr hb')) (BC (Qx (Ah (i * c + b) (hO.rd (List.Mem.tail _ (List.Mem.head _))).rd rfl underlying24 A8 rfl rfl (by omega) (by omega)) rfl (Bu 1 (i * c + b) hO rfl A8 rfl rfl rfl (by omega) rfl rfl (fun m1 hO1 => ?_)))))))))))))))))))))))))))))))))))))
       rw [C4 _ hb'] at hO1
       have els1 : (mat r c (DB (SQ p pv.length i v F b) i b (F pv.length b))).length = r * c := AY _ _ _
       refine Aq (BB 12 Cd (by kernel_rfl) rfl (Wf Bc rfl (Wl rfl underlying24 (Cell.blk 0 rfl rfl) (Wm rfl (Wm rfl (AV (oM rfl) rfl rfl (Wm rfl (AV (oA rfl) rfl rfl (Wm rfl (Wm rfl (AV (oM rfl) rfl rfl (Wm rfl (AV (B0 rfl rfl rfl (by omega) (by omega)) rfl rfl (BC (Qx (Ah (pv.length * c + b) (hO1.rd (List.Mem.tail _ (List.Mem.head _))).rd rfl underlying24 A8 rfl rfl (by omega) (by omega)) rfl (Bu 1 (pv.length * c + b) hO1 rfl A8 rfl rfl rfl (by omega) rfl rfl (fun m2' hO2' => ?_)))))))))))))))))
       rw [C4 _ hb', AO (fun a _ b' _ => QX p pv.length i v F b a b')] at hO2'
       refine Ak (Aj (Ab (Ad (Qm rfl (Qx (oA rfl) rfl (Qm rfl (Ak ?_)))))))
       refine Al (c - (b + 1)) _ (by omega) ⟨b + 1, m2', rfl, rfl, rfl, rfl, by omega, hO2'⟩ Qs
      ·obtain rfl : b = c := by omega
       rw [AO (fun a _ b' hb' => TF p pv.length i j v F b a b' hb')] at hO
       have hb2 := R2 (v := v) hb.1 htr hi hRed.bd
       refine Aw (Aa (Aa (Af (Ab (Ac (Ax (Qm rfl (Aq (Ag ?_)))))))))
       refine AD (fun q s hh ms' => ∃ (k : Nat) (m : Hp), q = r - k ∧ s = [(1, .pointer (some ⟨g1, 0, none⟩)), (2, .pointer (some ⟨g2, 0, none⟩)), (4, .int .i64 p), (5, .int .i64 b), (6, .pointer (some ⟨g6, 0, none⟩)), (7, vp), (8, .int .i64 pv.length), (9, .int .i64 j), (10, .int .i64 i), (11, .int .i64 v), (14, .int .i64 k)] ∧ h' = hh ∧ ms' = [AX g6 42 [.int .i64 p, .int .i64 r, .int .i64 b, eu], m, m2, AX g2 42 [.int .i64 0, .int .i64 0, .int .i64 0, .slice none 0 0]] ∧ k ≤ r ∧ OwnL cI 1 3 m eu (mat r b (Hi p pv.length i j v F k)))
        (r - 0) _ ⟨0, m, rfl, rfl, rfl, rfl, by omega, hO⟩ Qs ?_
       rintro q s hh ms' ⟨k, m, rfl, rfl, rfl, rfl, hk, hO⟩
       refine Ac (Ax (Qm rfl (Qf Bh rfl (Ql rfl underlying3 (hA _ _ rfl _) (Qm rfl (Aq ?_))))))
       refine AF rfl (fun hltk => ?_) (fun hltk => ?_)
       ·have hkr : k < r := by omega
        have hxk := Cp hkr hjc
        have hn := hb2 k hkr j hjc
        have hkk := L4 p pv.length i j v F k j
        have elk : (mat r b (Hi p pv.length i j v F k)).length = r * b := AY _ _ _
        refine Ai (Ab (Ac (Ag (Ax (Qf Bc rfl (Ql rfl underlying24 (Cell.blk 0 rfl rfl) (Qm rfl (Qm rfl (Qx (oM rfl) rfl (Qm rfl (Qx (oA rfl) rfl (Qx (Ah (k * b + j) (hO.rd (List.Mem.tail _ (List.Mem.head _))).rd rfl underlying24 A8 rfl rfl (by omega) (by omega)) rfl (Ql rfl underlying3 ((hkk ▸ (hO.rd (List.Mem.tail _ (List.Mem.head _))).ent hkr hjc)) (Qm rfl (B3 (Qm rfl (Aq (Ag ?_))))))))))))))))))
        refine AD (fun q s hh ms' => ∃ (d : Nat) (m : Hp), q = b - d ∧ s = [(1, .pointer (some ⟨g1, 0, none⟩)), (2, .pointer (some ⟨g2, 0, none⟩)), (4, .int .i64 p), (5, .int .i64 b), (6, .pointer (some ⟨g6, 0, none⟩)), (7, vp), (8, .int .i64 pv.length), (9, .int .i64 j), (10, .int .i64 i), (11, .int .i64 v), (14, .int .i64 k), (15, .int .i64 (De p pv.length i v F k j)), (16, .int .i64 d)] ∧ h' = hh ∧ ms' = [AX g6 42 [.int .i64 p, .int .i64 r, .int .i64 b, eu], m, m2, AX g2 42 [.int .i64 0, .int .i64 0, .int .i64 0, .slice none 0 0]] ∧ d ≤ b ∧ ((k = pv.length ∨ De p pv.length i v F k j = 0) → d = 0) ∧ OwnL cI 1 3 m eu (mat r b (PF p pv.length i j v F k d)))
         (b - 0) _ ⟨0, m, rfl, rfl, rfl, rfl, by omega, fun _ => rfl, by rw [AO (fun a _ b' _ => LX p pv.length i j v F k a b')]; exact hO⟩ Qs ?_
        rintro q s hh ms' ⟨d, m, rfl, rfl, rfl, rfl, hd, hd0, hO⟩
        have hdone : (k = pv.length ∨ De p pv.length i v F k j = 0) → OwnL cI 1 3 m eu (mat r b (Hi p pv.length i j v F (k + 1))) := fun hx => by
         obtain rfl := hd0 hx
         rw [AO (fun a _ b' _ => LX p pv.length i j v F k a b'), AO (fun a _ b' hb' => IJ p pv.length i j v F k a b' (by rcases hx with hx | hx; exact .inl hx; exact .inr ⟨hx, hb2 k hkr b' hb'⟩))] at hO
         exact hO
        refine Ac (Ax (Qm rfl (Qm rfl (Qm rfl (Qm rfl ?_)))))
        refine AR (t := 137) rfl (fun hq1 => ?_) (fun hq1 => ?_)
        ·have hdb : d < b := by omega
         refine Qg (As rfl rfl) rfl (Qg (As rfl rfl) rfl (Qg (B4 rfl rfl rfl) rfl (Qm rfl (Qm rfl ?_))))
         refine AR (t := 142) rfl (fun hq2 => ?_) (fun hq2 => ?_)
         ·have hkt : k ≠ pv.length := by omega
          refine Qg (As rfl rfl) rfl (Qg (Dd rfl rfl rfl) rfl (Qm rfl (Aq ?_)))
          refine AF rfl (fun hq3 => ?_) (fun hq3 => ?_)
          ·have hxd := Cp hkr hdb
           have hxt := Cp htr hdb
           have hv1 := hb2 k hkr d hdb
           have hv2 := hb2 pv.length htr d hdb
           have hka := UX p pv.length i j v F k d
           have hkt2 := V3 p pv.length i j v F k d d
           have hbm := DF (p := p) (a := p - De p pv.length i v F k j) ⟨by omega, by omega⟩ hv2 hb.2
           have elp : (mat r b (PF p pv.length i j v F k d)).length = r * b := AY _ _ _
           refine Ai (Ab (Ac (Ag (BB 32 Cd (by kernel_rfl) rfl (Wf Bc rfl (Wl rfl underlying24 (Cell.blk 0 rfl rfl) (Wm rfl (Wm rfl (AV (oM rfl) rfl rfl (Wm rfl (AV (oA rfl) rfl rfl (Wf Bc rfl (Wl rfl underlying24 (Cell.blk 0 rfl rfl) (Wm rfl (Wm rfl (AV (oM rfl) rfl rfl (Wm rfl (AV (oA rfl) rfl rfl (AV (Ah (k * b + d) (hO.rd (List.Mem.tail _ (List.Mem.head _))).rd rfl underlying24 A8 rfl rfl (by omega) (by omega)) rfl rfl (Wl rfl underlying3 ((hka ▸ (hO.rd (List.Mem.tail _ (List.Mem.head _))).ent hkr hdb)) (Wm rfl (Wm rfl (AV (oS rfl) rfl rfl (Wf Bc rfl (Wl rfl underlying24 (Cell.blk 0 rfl rfl) (Wm rfl (Wm rfl (AV (oM rfl) rfl rfl (Wm rfl (AV (oA rfl) rfl rfl (AV (Ah (pv.length * b + d) (hO.rd (List.Mem.tail _ (List.Mem.head _))).rd rfl underlying24 A8 rfl rfl (by omega) (by omega)) rfl rfl (Wl rfl underlying3 ((hkt2 ▸ (hO.rd (List.Mem.tail _ (List.Mem.head _))).ent htr hdb)) (AV (oM rfl) rfl rfl (AV (oA rfl) rfl rfl (Wm rfl (AV (B0 rfl rfl rfl (by omega) (by omega)) rfl rfl (BC (Qx (Ah (k * b + d) (hO.rd (List.Mem.tail _ (List.Mem.head _))).rd rfl underlying24 A8 rfl rfl (by omega) (by omega)) rfl (Bu 1 (k * b + d) hO rfl A8 rfl rfl rfl (by omega) rfl rfl (fun m1 hO1 => ?_))))))))))))))))))))))))))))))))))))))))
           rw [C4 _ hdb, AO (fun a _ b' _ => PS p pv.length i j v F k d a b' hkt)] at hO1
           refine Ak (Aj (Ab (Ad (Qm rfl (Qx (oA rfl) rfl (Qm rfl (Ak ?_)))))))
           refine Al (b - (d + 1)) _ (by omega) ⟨d + 1, m1, rfl, rfl, rfl, rfl, by omega, fun hx => by omega, hO1⟩ Qs
          ·refine Aw (Aa (Aa (Af (Aj (Ab (Ad (Qm rfl (Qx (oA rfl) rfl (Qm rfl (Ak ?_))))))))))
           refine Al (r - (k + 1)) _ (by omega) ⟨k + 1, m, rfl, rfl, rfl, rfl, by omega, hdone (.inr (by omega))⟩ Qs
         ·refine Qk rfl (Qk rfl (Qm rfl (Aq (Bb rfl (Aw (Aa (Aa (Af (Aj (Ab (Ad (Qm rfl (Qx (oA rfl) rfl (Qm rfl (Ak ?_)))))))))))))))
          refine Al (r - (k + 1)) _ (by omega) ⟨k + 1, m, rfl, rfl, rfl, rfl, by omega, hdone (.inl (by omega))⟩ Qs
        ·refine Qk rfl (Qk rfl (Qk rfl (Qm rfl (Qm rfl (Qk rfl (Qk rfl (Qm rfl (Aq (Bb rfl (Aw (Aa (Aa (Af (Aj (Ab (Ad (Qm rfl (Qx (oA rfl) rfl (Qm rfl (Ak ?_))))))))))))))))))))
         obtain rfl : d = b := by omega
         refine Al (r - (k + 1)) _ (by omega) ⟨k + 1, m, rfl, rfl, rfl, rfl, by omega, by rw [AO (fun a _ b' hb' => T3 p pv.length i j v F k d a b' hb')] at hO; exact hO⟩ Qs
       ·obtain rfl : k = r := by omega
        refine Aw (Aa (Aa (Af (Ab (Ax (Qm rfl (Qm rfl ?_)))))))
        refine AB [_] rfl underlying24 A8 rfl (by rfl) rfl rfl (by omega) rfl rfl rfl (fun g183 => ?_)
        refine Bm 3 hO2 (RdL.one Br (List.Mem.head _) rfl) rfl underlying24 A8 rfl (by omega) rfl rfl rfl Cv (by simp only [EF, List.length_singleton]; omega) (by simp only [EF, List.length_singleton]; omega) rfl rfl rfl (fun vp' mv hOv => ?_)
        rw [LV] at hOv
        refine Qm rfl (IA (Qm rfl (Qx (oA rfl) rfl (Qm rfl (Ak (Aj (Ab (Ad (Qm rfl (Qx (oA rfl) rfl (Qm rfl (Ak (A5 ?_)))))))))))))
        have hlen1 : (pv ++ [j]).length = pv.length + 1 := by simp
        refine Al (b - (j + 1)) [(1, .pointer (some ⟨g1, 0, none⟩)), (2, .pointer (some ⟨g2, 0, none⟩)), (4, .int .i64 p), (5, .int .i64 b), (6, .pointer (some ⟨g6, 0, none⟩)), (7, vp'), (8, .int .i64 ((pv.length + 1 : Nat) : Int)), (9, .int .i64 ((j + 1 : Nat) : Int))] (by omega) ⟨j + 1, J0 p pv.length i j v F, pv ++ [j], vp', m, mv, rfl, by rw [hlen1], rfl, rfl, by omega, by rw [AO (fun a ha b' _ => NZ p pv.length i j v F k a b' ha)] at hO; exact hO, hOv, hRed.step hb.1 hi hli hjc ho2⟩ Qs
    ·refine Qk rfl (Qk rfl (Qk rfl (Qk rfl (Qk rfl (Qk rfl (Qk rfl (Qk rfl (Qk rfl (Qk rfl (Qm rfl (Aq (Bb rfl (Aw (Aa (Aa (Af (Ab (Ac (Ax (Qm rfl (Qf Bh rfl (Ql rfl underlying3 (hA _ _ rfl _) (Qm rfl (Aq ?_))))))))))))))))))))))))
     refine AF rfl (fun hc => ?_) (fun hc => absurd (by omega) hc)
     refine Aw (Aa (Af (Ab (Ad (Qm rfl (Qx (oA rfl) rfl (Qm rfl (Ak ?_))))))))
     refine Al (c - (j + 1)) _ (by omega) ⟨j + 1, F, pv, vp, m, m2, rfl, rfl, rfl, rfl, by omega, hO, hO2, hRed.skip fun a ha hl => hno a hl (by omega)⟩ Qs
   ·have hfin := Red.fin (show r ≤ pv.length by omega) (c - j) j hRed
    rw [show j + (c - j) = c by omega] at hfin
    refine Aw (Aa (Aa (Af (Ab (Ax (Qx (oG rfl underlying42 AI (Seg.blk 0 rfl)) rfl (Qm rfl ?_)))))))
    refine Sa 3 [_, _, _, _] AI rfl (by simp [e2]) ?_
    refine Qm rfl (Aq (Ao (A5 ?_)))
    exact CX (vs := [_, _, _, _]) 2 rfl rfl rfl underlying42 rfl AI rfl rfl (⟨hle, F, pv, eu, vp, m, m2, rfl, rfl, hO, hO2, ⟨hfin⟩⟩)
  ·obtain rfl : j = c := by omega
   refine Qk rfl (Qk rfl (Qk rfl (Qk rfl (Qm rfl (Aq (Bb rfl (Aw (Aa (Aa (Af (Ab (Ax (Qx (oG rfl underlying42 AI (Seg.blk 0 rfl)) rfl (Qm rfl ?_))))))))))))))
   refine Sa 3 [_, _, _, _] AI rfl (by simp [e2]) ?_
   refine Qm rfl (Aq (Ao (A5 ?_)))
   exact CX (vs := [_, _, _, _]) 2 rfl rfl rfl underlying42 rfl AI rfl rfl (⟨hle, F, pv, eu, vp, m, m2, rfl, rfl, hO, hO2, ⟨hRed⟩⟩)
end Go.Proofs.YtdnelknieikbaaaGreat
namespace Go.Proofs.YtdnelknieikbaaaGreat
open Tryz
open Go.Eng Go.RowKit Go.Lin
def VecB (d : Nat → Nat) (fr n : Nat) (es : List Value) (v : Nat → Nat → Int) (m : Hp) : Prop := Bag n (fun k x => OwnL cI 1 3 x (es.getD k undef) (vec (d (fr + k)) (v (fr + k)))) m
def StO (d : Nat → Nat) (g fr to : Nat) (v : Nat → Nat → Int) (m : Hp) : Prop :=
 ∃ (vv : Value) (es : List Value) (ma mb : Hp), fr ≤ to ∧ m = (AX g 110 [.int .i64 fr, .int .i64 to, vv]).join (ma.join mb) ∧ (AX g 110 [.int .i64 fr, .int .i64 to, vv]).disj (ma.join mb) ∧ ma.disj mb ∧ OwnL cV 1 24 ma vv es ∧ es.length = to + 1 - fr ∧ VecB d fr es.length es v mb
def We (h : Hp) (d : Nat → Nat) (g fr to : Nat) (v : Nat → Nat → Int) : Prop :=
 ∃ (vv : Value) (es : List Value), fr ≤ to ∧ Seg h [] ⟨g, 0, none⟩ [.int .i64 fr, .int .i64 to, vv] ∧ RdL cV 1 h [] vv es ∧ es.length = to + 1 - fr ∧ ∀ k (hk : k < es.length), RdL cI 1 h [] es[k] (vec (d (fr + k)) (v (fr + k)))
theorem Ev {es : List Value} {k : Nat} (hk : k < es.length) : es.getD k undef = es[k] := by simp [List.getD, hk]
theorem VecB.rd {d : Nat → Nat} {fr n : Nat} {es : List Value} {v : Nat → Nat → Int} {m h : Hp} (B : VecB d fr n es v m) (hl : m.le h) (hn : n = es.length) : ∀ k (hk : k < es.length), RdL cI 1 h [] es[k] (vec (d (fr + k)) (v (fr + k))) := fun k hk => by
 obtain ⟨x, hx, O⟩ := Bag.all B k (by omega)
 rw [Ev hk] at O
 exact O.rdh (Hp.le_trans hx hl)
theorem StO.rd {d : Nat → Nat} {g fr to : Nat} {v : Nat → Nat → Int} {m h : Hp} (S : StO d g fr to v m) (hl : m.le h) : We h d g fr to v := by
 obtain ⟨vv, es, ma, mb, h0, rfl, h1, h2, h3, h4, h5⟩ := S
 have l1 : ma.le h := Hp.le_trans (Hp.le_trans Hp.le_joinl (Hp.le_joinr h1)) hl
 have l2 : mb.le h := Hp.le_trans (Hp.le_trans (Hp.le_joinr h2) (Hp.le_joinr h1)) hl
 exact ⟨vv, es, h0, Seg.ofLe (Hp.le_trans Hp.le_joinl hl), h3.rdh l1, h4, h5.rd l2 rfl⟩
theorem Wu (a : Addr) : a.add 0 = a := by unfold Addr.add; simp
theorem SO (d : Nat → Nat) (g fr to : Nat) (v : Nat → Nat → Int) (h : Hp) (hS : We h d g fr to v) (ht : to ≤ 1000) : ∃ u, (∀ ms, Dq Tryz.prog 107 #[.pointer (some ⟨g, 0, none⟩)] h ms u) ∧ RdL cI 1 h [] u (vec (d to) (v to)) := by
 obtain ⟨vv, es, h0, h1, h2, h3, h4⟩ := hS
 have hk : to - fr < es.length := by omega
 refine ⟨es[to - fr], fun ms => Ds ?_ ms, by have := h4 (to - fr) hk; rwa [show fr + (to - fr) = to by omega] at this⟩
 have hA := Seg.all h1
 have hlen : ((es.length : Nat) : Int) = (to : Int) + 1 - fr := by omega
 have hn : es.length ≤ 1001 := by omega
 refine Av func107 ntmps107 rfl rfl (fun w0 hw0 => ?_)
 simp only [A4]
 refine Ax (Qm rfl (Aq (Ac (AW (n := 15) (bs := [true, true, true, true, true, true, true, true, true, true, true, true, true, true, false]) [true, true, true, true, true, true, true, true, true, true, true, true, true, true] Cd (by kernel_rfl) (by kernel_rfl) rfl rfl (Qq rfl (Qq rfl (QF C7 rfl (QF CY rfl (QL rfl underlying62 (hA 2 _ rfl _) (Qq rfl (Qq rfl (QF C7 rfl (QF CY rfl (QL rfl underlying62 (hA 2 _ rfl _) (Qp rfl (AJ h2.rd.any rfl underlying62 rfl) (Qp rfl (oS rfl) (Qp rfl (Ah (to - fr) h2.rd.any rfl underlying62 BN rfl rfl (by omega) (by omega)) (QL rfl underlying24 (h2.any.cell0 hk rfl) ?_))))))))))))))))))
 unfold CD
 simp only [List.cons_append, List.nil_append]
 refine Qo 14 rfl (Qm rfl (Qw (Qe (Ab (Ao ?_)))))
 exact Am rfl rfl (rfl)
end Go.Proofs.YtdnelknieikbaaaGreat
