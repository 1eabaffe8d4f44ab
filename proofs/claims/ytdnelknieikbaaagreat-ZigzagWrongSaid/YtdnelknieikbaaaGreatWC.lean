/- A part of the proof. -/
import Derived.Test.YtdnelknieikbaaaGreatWB
set_option linter.unusedSimpArgs false
set_option linter.unusedVariables false
set_option maxRecDepth 100000
namespace Go.Proofs.YtdnelknieikbaaaGreat
open Go.Proofs.Tryz
open Go.Eng Go.RowKit Go.Lin
def Fb (p : Int) (k : Nat) (f g : Nat → Nat → Int) (i j : Nat) : Int := sm k (fun t => f i t * g t j) % p
def part (p : Int) (k : Nat) (f g : Nat → Nat → Int) (i t j a b : Nat) : Int := sm (if a < i then k else if a = i then (if b < j then t + 1 else t) else 0) (fun t => f a t * g t b) % p
theorem JH (p : Int) (k : Nat) (f g : Nat → Nat → Int) (a b : Nat) : part p k f g 0 0 0 a b = 0 := by
 unfold part
 rw [if_neg (by omega)]
 by_cases h : a = 0
 ·rw [if_pos h, if_neg (by omega)]; exact Int.zero_emod p
 ·rw [if_neg h]; exact Int.zero_emod p
theorem JC (p : Int) (k : Nat) (f g : Nat → Nat → Int) (i t j a b : Nat) : DB (part p k f g i t j) i j ((part p k f g i t j i j + f i t * g t j) % p) a b = part p k f g i t (j + 1) a b := by
 unfold DB
 by_cases h : a = i ∧ b = j
 ·obtain ⟨rfl, rfl⟩ := h
  rw [if_pos ⟨rfl, rfl⟩]
  unfold part
  rw [if_neg (by omega), if_pos rfl, if_neg (by omega), if_neg (by omega), if_pos rfl, if_pos (by omega), Int.emod_add_emod]
  rfl
 ·rw [if_neg h]
  unfold part
  by_cases h1 : a < i
  ·rw [if_pos h1, if_pos h1]
  ·rw [if_neg h1, if_neg h1]
   by_cases h2 : a = i
   ·rw [if_pos h2, if_pos h2]
    by_cases h3 : b < j
    ·rw [if_pos h3, if_pos (by omega)]
    ·rw [if_neg h3, if_neg (by omega)]
   ·rw [if_neg h2, if_neg h2]
theorem JI (p : Int) (k : Nat) (f g : Nat → Nat → Int) (i t c a b : Nat) (hb : b < c) : part p k f g i t c a b = part p k f g i (t + 1) 0 a b := by
 unfold part
 by_cases h1 : a < i
 ·rw [if_pos h1, if_pos h1]
 ·rw [if_neg h1, if_neg h1]
  by_cases h2 : a = i
  ·rw [if_pos h2, if_pos h2, if_pos hb, if_neg (by omega)]
  ·rw [if_neg h2, if_neg h2]
theorem Lb (p : Int) (k : Nat) (f g : Nat → Nat → Int) (i a b : Nat) : part p k f g i k 0 a b = part p k f g (i + 1) 0 0 a b := by
 unfold part
 by_cases h1 : a < i
 ·rw [if_pos h1, if_pos (by omega)]
 ·rw [if_neg h1]
  by_cases h2 : a = i
  ·rw [if_pos h2, if_neg (by omega), if_pos (by omega)]
  ·rw [if_neg h2, if_neg (by omega)]
   by_cases h3 : a = i + 1
   ·rw [if_pos h3, if_neg (by omega)]
   ·rw [if_neg h3]
theorem Lr (p : Int) (k : Nat) (f g : Nat → Nat → Int) (r a b : Nat) (ha : a < r) : part p k f g r 0 0 a b = Fb p k f g a b := by
 unfold part Fb
 rw [if_pos ha]
theorem NI {p : Int} (hp : 0 < p) (k : Nat) (f g : Nat → Nat → Int) (i t j a b : Nat) : 0 ≤ part p k f g i t j a b ∧ part p k f g i t j a b < p :=
 ⟨Int.emod_nonneg _ (by omega), Int.emod_lt_of_pos _ hp⟩
theorem DF {a b p : Int} (ha : 0 ≤ a ∧ a < p) (hb : 0 ≤ b ∧ b < p) (hp : p ≤ 997) : 0 ≤ a * b ∧ a * b ≤ 994009 := by
 refine ⟨Int.mul_nonneg ha.1 hb.1, ?_⟩
 have := Int.mul_le_mul (show a ≤ 997 by omega) (show b ≤ 997 by omega) hb.1 (by omega : (0 : Int) ≤ 997)
 omega
theorem Gq (p : Int) (r k c : Nat) (f g : Nat → Nat → Int) (ev eu : Value) (h : Hp) (R : RtM p r k f) (S : RtM p k c g) (hR : RdL cI 1 h [] ev (mat r k f)) (hS : RdL cI 1 h [] eu (mat k c g)) :
  FnT Tryz.prog 98 #[.agg #[.int .i64 p, .int .i64 r, .int .i64 k, ev], .agg #[.int .i64 p, .int .i64 k, .int .i64 c, eu]] h [] (fun x h' ms' => h = h' ∧ ∃ v, x = .tuple #[v, .bool true] ∧ Ez v ms' (EM p r c (Fb p k f g))) := by
 have hb := R.bd
 have rl := R.rl
 have kl := R.cl
 have cl := S.cl
 refine Av func98 ntmps98 rfl rfl (fun w0 hw0 => ?_)
 simp only [A4]
 refine Ax ?_
 refine AS [_, _, _, _] rfl rfl (by rfl) rfl rfl rfl (fun g2 => ?_)
 refine AS [_, _, _, _] rfl rfl (by rfl) rfl rfl rfl (fun g3 => ?_)
 refine BZ [.int .i64 0, .int .i64 0, .int .i64 0, .slice none 0 0] rfl AI rfl rfl (fun g4 => Qm rfl (Aq (Ac (Ax (Qx (oG rfl underlying42 AI (Seg.blk 2 rfl)) rfl (Qx (oG rfl underlying42 AI (Seg.blk 1 rfl)) rfl (Qx (AG rfl call121 rfl (MT R S hR hS _)) rfl (Qm rfl (Qm rfl (Qg (oF A0 rfl) rfl (Qg (oL rfl underlying3 (Cell.blk 2 rfl rfl)) rfl (Qg (oF Bh rfl) rfl (Qg (oL rfl underlying3 (Cell.blk 1 rfl rfl)) rfl (Qg (B4 rfl rfl rfl) rfl (Qm rfl (Aq (AF rfl (fun hc => absurd hc (by omega)) (fun hc => Ai (Ab (Ax (Qf BE rfl (Ql rfl underlying3 (Cell.blk 2 rfl rfl) (Qf Bh rfl (Ql rfl underlying3 (Cell.blk 2 rfl rfl) (Qf A0 rfl (Ql rfl underlying3 (Cell.blk 1 rfl rfl) (Qc call106 rfl (GB p r c h R.i64) (fun v h1 ms1 l1 hF => ?_))))))))))))))))))))))))))))
 obtain ⟨rfl, ew, m, rfl, rfl, hO⟩ := hF
 rw [DO R.pr rl cl] at hO ⊢
 have he1 : ew.oneCell' = true := (hO.rd (h := h) (ms := [m]) (List.Mem.head _)).rd.one
 refine BZ [.int .i64 0, .int .i64 0, .int .i64 0, .slice none 0 0] rfl AI rfl rfl (fun g6 => ?_)
 refine Sa 0 [_, _, _, _] AI rfl (by simp [he1]) ?_
 refine Aq (Ac (Ax (Qf Bh rfl (Ql rfl underlying3 (Cell.blk 4 rfl rfl) (Qm rfl (Aq (Ag ?_)))))))
 refine AD (fun q s h' ms' => ∃ (i : Nat) (m : Hp), q = r - i ∧ s = [(2, .pointer (some ⟨g2, 0, none⟩)), (3, .pointer (some ⟨g3, 0, none⟩)), (4, .pointer (some ⟨g4, 0, none⟩)), (6, .pointer (some ⟨g6, 0, none⟩)), (33, .int .i64 r), (34, .int .i64 i)] ∧ h = h' ∧ ms' = [AX g6 42 [.int .i64 p, .int .i64 r, .int .i64 c, ew], m, AX g4 42 [.int .i64 0, .int .i64 0, .int .i64 0, .slice none 0 0], AX g3 42 [.int .i64 p, .int .i64 k, .int .i64 c, eu], AX g2 42 [.int .i64 p, .int .i64 r, .int .i64 k, ev]] ∧ i ≤ r ∧ OwnL cI 1 3 m ew (mat r c (part p k f g i 0 0)))
  (r - 0) _ ⟨0, m, rfl, rfl, rfl, rfl, by omega, by rw [AO (g := fun _ _ => 0) (fun a _ b _ => JH p k f g a b)]; exact hO⟩ Qs ?_
 rintro q s h' ms' ⟨i, m, rfl, rfl, rfl, rfl, hi, hO⟩
 refine Ax (Qm rfl (Aq (Ac ?_)))
 refine AF rfl (fun hlt => ?_) (fun hlt => ?_)
 ·have hir : i < r := by omega
  have e1 : (i + 1) * k = i * k + k := by rw [Nat.add_mul, Nat.one_mul]
  have b1 : (i + 1) * k ≤ r * k := Nat.mul_le_mul_right k hir
  have b2 : r * k ≤ 400 * 400 := Nat.mul_le_mul rl kl
  have el : (mat r k f).length = r * k := AY _ _ _
  have e3 : ((i : Int) + 1) * k = i * k + k := by rw [Int.add_mul, Int.one_mul]
  refine Ai (Ab (Ac (Ag (Ax (Qm rfl (Qm rfl (B3 (Qf Bc rfl (Ql rfl underlying24 (Cell.blk 4 rfl rfl) (Qm rfl (Qf A0 rfl (Ql rfl underlying3 (Cell.blk 4 rfl rfl) (Qx (oM rfl) rfl (Qm rfl (Qx (oA rfl) rfl (Qf A0 rfl (Ql rfl underlying3 (Cell.blk 4 rfl rfl) (Qx (oM rfl) rfl (Qx (C5 (i * k) ((i + 1) * k) hR.rd.any rfl underlying24 A8 rfl rfl rfl (by omega) (by omega) (by omega) (by omega)) rfl (Qx (AJ (hR.row hir).rd.any rfl underlying24 rfl) rfl (Qm rfl (Aq (Ag ?_)))))))))))))))))))))))
  refine AD (fun q s h' ms' => ∃ (t : Nat) (m : Hp), q = k - t ∧ s = [(2, .pointer (some ⟨g2, 0, none⟩)), (3, .pointer (some ⟨g3, 0, none⟩)), (4, .pointer (some ⟨g4, 0, none⟩)), (6, .pointer (some ⟨g6, 0, none⟩)), (7, .int .i64 i), (33, .int .i64 r), (34, .int .i64 i), (48, Ch 1 ev (i * k) ((i + 1) * k)), (49, .int .i64 ((vec k (f i)).length : Nat)), (50, .int .i64 t)] ∧ h = h' ∧ ms' = [AX g6 42 [.int .i64 p, .int .i64 r, .int .i64 c, ew], m, AX g4 42 [.int .i64 0, .int .i64 0, .int .i64 0, .slice none 0 0], AX g3 42 [.int .i64 p, .int .i64 k, .int .i64 c, eu], AX g2 42 [.int .i64 p, .int .i64 r, .int .i64 k, ev]] ∧ t ≤ k ∧ OwnL cI 1 3 m ew (mat r c (part p k f g i t 0)))
   (k - 0) _ ⟨0, m, rfl, rfl, rfl, rfl, by omega, hO⟩ Qs ?_
  rintro q s h' ms' ⟨t, m, rfl, rfl, rfl, rfl, ht, hO⟩
  have ek := AQ k (f i)
  refine Ax (Qm rfl (Aq (Ac ?_)))
  refine AF rfl (fun hlt2 => ?_) (fun hlt2 => ?_)
  ·have htk : t < k := by omega
   have d1 : (t + 1) * c = t * c + c := by rw [Nat.add_mul, Nat.one_mul]
   have c1 : (t + 1) * c ≤ k * c := Nat.mul_le_mul_right c htk
   have c2 : k * c ≤ 400 * 400 := Nat.mul_le_mul kl cl
   have el2 : (mat k c g).length = k * c := AY _ _ _
   have d3 : ((t : Int) + 1) * c = t * c + c := by rw [Int.add_mul, Int.one_mul]
   refine Ai (Ab (Ac (Ag (Ax (Qm rfl (Qx (Ah _ (hR.row hir).rd.any rfl underlying24 A8 rfl rfl rfl (by omega)) rfl (Ql rfl underlying3 ((hR.row hir).any.ev htk) (Qm rfl (Qm rfl (B3 (Qf Bc rfl (Ql rfl underlying24 (Cell.blk 3 rfl rfl) (Qm rfl (Qf A0 rfl (Ql rfl underlying3 (Cell.blk 3 rfl rfl) (Qx (oM rfl) rfl (Qm rfl (Qx (oA rfl) rfl (Qf A0 rfl (Ql rfl underlying3 (Cell.blk 3 rfl rfl) (Qx (oM rfl) rfl (Qx (C5 (t * c) ((t + 1) * c) hS.rd.any rfl underlying24 A8 rfl rfl rfl (by omega) (by omega) (by omega) (by omega)) rfl (Qx (AJ (hS.row htk).rd.any rfl underlying24 rfl) rfl (Qm rfl (Aq (Ag ?_))))))))))))))))))))))))))
   refine AD (fun q s h' ms' => ∃ (j : Nat) (m : Hp), q = c - j ∧ s = [(2, .pointer (some ⟨g2, 0, none⟩)), (3, .pointer (some ⟨g3, 0, none⟩)), (4, .pointer (some ⟨g4, 0, none⟩)), (6, .pointer (some ⟨g6, 0, none⟩)), (7, .int .i64 i), (9, .int .i64 (f i t)), (33, .int .i64 r), (34, .int .i64 i), (48, Ch 1 ev (i * k) ((i + 1) * k)), (49, .int .i64 ((vec k (f i)).length : Nat)), (50, .int .i64 t), (66, Ch 1 eu (t * c) ((t + 1) * c)), (67, .int .i64 ((vec c (g t)).length : Nat)), (68, .int .i64 j)] ∧ h = h' ∧ ms' = [AX g6 42 [.int .i64 p, .int .i64 r, .int .i64 c, ew], m, AX g4 42 [.int .i64 0, .int .i64 0, .int .i64 0, .slice none 0 0], AX g3 42 [.int .i64 p, .int .i64 k, .int .i64 c, eu], AX g2 42 [.int .i64 p, .int .i64 r, .int .i64 k, ev]] ∧ j ≤ c ∧ OwnL cI 1 3 m ew (mat r c (part p k f g i t j)))
    (c - 0) _ ⟨0, m, rfl, rfl, rfl, rfl, by omega, hO⟩ Qs ?_
   rintro q s h' ms' ⟨j, m, rfl, rfl, rfl, rfl, hj, hO⟩
   have ec := AQ c (g t)
   refine Ax (Qm rfl (Aq (Ac ?_)))
   refine AF rfl (fun hlt3 => ?_) (fun hlt3 => ?_)
   ·have hjc : j < c := by omega
    have hix := Cp hir hjc
    have hrc : r * c ≤ 400 * 400 := Nat.mul_le_mul rl cl
    have el3' : (mat r c (part p k f g i t j)).length = r * c := AY _ _ _
    have hbp := NI (show 0 < p by omega) k f g i t j i j
    have hbm := DF (R.en i hir t htk) (S.en t htk j hjc) hb.2
    have hfb := R.en i hir t htk
    have hgb := S.en t htk j hjc
    refine Ai (Ab (Ac (Ag (Ax (Qm rfl (Qx (Ah _ (hS.row htk).rd.any rfl underlying24 A8 rfl rfl rfl (by omega)) rfl (Ql rfl underlying3 ((hS.row htk).any.ev hjc) (Qm rfl (Qm rfl (B3 (Qm rfl (Qf A0 rfl (Ql rfl underlying3 (Cell.blk 3 rfl rfl) (Qx (oM rfl) rfl (Qm rfl (Qx (oA rfl) rfl (Qm rfl (Aq (BB 15 Cd (by kernel_rfl) rfl (Wf Bc rfl (Wl rfl underlying24 (Cell.blk 0 rfl rfl) (Wm rfl (Wf Bc rfl (Wl rfl underlying24 (Cell.blk 0 rfl rfl) (Wm rfl (AV (Ah (i * c + j) (hO.rd (List.Mem.tail _ (List.Mem.head _))).rd rfl underlying24 A8 rfl rfl (by omega) (by omega)) rfl rfl (Wl rfl underlying3 ((hO.rd (ms := [AX g6 42 [.int .i64 p, .int .i64 r, .int .i64 c, ew], m, AX g4 42 [.int .i64 0, .int .i64 0, .int .i64 0, .slice none 0 0], AX g3 42 [.int .i64 p, .int .i64 k, .int .i64 c, eu], AX g2 42 [.int .i64 p, .int .i64 r, .int .i64 k, ev]]) (List.Mem.tail _ (List.Mem.head _))).ent hir hjc) (Wm rfl (Wm rfl (AV (oM rfl) rfl rfl (AV (oA rfl) rfl rfl (Wf BE rfl (Wl rfl underlying3 (Cell.blk 4 rfl rfl) (AV (B0 rfl rfl rfl (by omega) (by omega)) rfl rfl (BC (Qx (Ah (i * c + j) (hO.rd (List.Mem.tail _ (List.Mem.head _))).rd rfl underlying24 A8 rfl rfl (by omega) (by omega)) rfl (Bu 1 (i * c + j) hO rfl A8 rfl rfl rfl (by omega) rfl rfl (fun m' hO' => Ak (Aj ?_)))))))))))))))))))))))))))))))))))))))
    refine Ab (Ad (Qx (oA rfl) rfl (Qm rfl (Ak ?_))))
    refine Al (c - (j + 1)) _ (by omega) ⟨j + 1, m', rfl, rfl, rfl, rfl, by omega, ?_⟩ Qs
    rw [C4 _ hjc, AO (fun a _ b _ => JC p k f g i t j a b)] at hO'
    exact hO'
   ·refine Aw (Aa (Aa (Af (Aj (Ab (Ad (Qx (oA rfl) rfl (Qm rfl (Ak ?_)))))))))
    obtain rfl : j = c := by omega
    refine Al (k - (t + 1)) _ (by omega) ⟨t + 1, m, rfl, rfl, rfl, rfl, by omega, ?_⟩ Qs
    rw [AO (fun a _ b hb => JI p k f g i t j a b hb)] at hO
    exact hO
  ·refine Aw (Aa (Aa (Af (Aj (Ab (Ad (Qx (oA rfl) rfl (Qm rfl (Ak ?_)))))))))
   obtain rfl : t = k := by omega
   refine Al (r - (i + 1)) _ (by omega) ⟨i + 1, m, rfl, rfl, rfl, rfl, by omega, ?_⟩ Qs
   rw [AO (fun a _ b hb => Lb p t f g i a b)] at hO
   exact hO
 ·refine Aw (Aa (Aa (Af (Ab (Ax (Qx (oG rfl underlying42 AI (Seg.blk 0 rfl)) rfl ?_))))))
  refine Sa 2 [_, _, _, _] AI rfl (by simp [he1]) ?_
  refine Qm rfl (Aq (Ao ?_))
  obtain rfl : i = r := by omega
  refine AP 4 rfl (AP 3 rfl (AP 0 rfl ?_))
  exact CX (vs := [_, _, _, _]) 1 rfl rfl rfl underlying42 rfl AI rfl rfl (⟨rfl, _, rfl, ew, m, rfl, rfl, by rw [AO (fun a ha b hb => Lr p k f g i a b ha)] at hO; exact hO⟩)
end Go.Proofs.YtdnelknieikbaaaGreat
namespace Go.Proofs.YtdnelknieikbaaaGreat
open Go.Proofs.Tryz
open Go.Eng Go.RowKit Go.Lin
def jn (c : Nat) (f g : Nat → Nat → Int) (i j : Nat) : Int := if j < c then f i j else g i (j - c)
theorem Vg (c c' : Nat) (f g : Nat → Nat → Int) (k : Nat) : mat k (c + c') (jn c f g) ++ vec c (f k) ++ vec c' (g k) = mat (k + 1) (c + c') (jn c f g) := by
 rw [List.append_assoc, SI, ← Hh]
 rfl
theorem NC (p : Int) (r c c' : Nat) (f g : Nat → Nat → Int) (ev eu : Value) (h : Hp) (R : RtM p r c f) (S : RtM p r c' g) (hR : RdL cI 1 h [] ev (mat r c f)) (hS : RdL cI 1 h [] eu (mat r c' g)) :
  FnT Tryz.prog 137 #[.agg #[.int .i64 p, .int .i64 r, .int .i64 c, ev], .agg #[.int .i64 p, .int .i64 r, .int .i64 c', eu]] h [] (fun x h' ms' => h.le h' ∧ Ez x ms' (EM p r (c + c') (jn c f g))) := by
 have hb := R.bd
 have rl := R.rl
 have kl := R.cl
 have cl := S.cl
 have o1 := hR.rd.one
 have o2 := hS.rd.one
 refine Av func137 ntmps137 rfl rfl (fun w0 hw0 => ?_)
 simp only [A4]
 refine Ax ?_
 refine AS [_, _, _, _] rfl rfl (by rfl) rfl rfl rfl (fun g2 => ?_)
 refine BD fun h1 l1 hA => ?_
 have hR := hR.up l1
 have hS := hS.up l1
 refine AS [_, _, _, _] rfl rfl (by rfl) rfl rfl rfl (fun g3 => ?_)
 refine BD fun h2 l2 hB => ?_
 have hR := hR.up l2
 have hS := hS.up l2
 have hA := Seg.all (hA.le l2)
 have hB := Seg.all hB
 have l12 := Hp.le_trans l1 l2
 have hA0 := hA 0 _ rfl
 have hB0 := hB 0 _ rfl
 refine BZ [.int .i64 0, .int .i64 0, .int .i64 0, .slice none 0 0] rfl AI rfl rfl (fun g4 => B3 (Qf BE rfl (Ql rfl underlying3 (hA _ _ rfl _) (Qf Bh rfl (Ql rfl underlying3 (hA _ _ rfl _) (Qf A0 rfl (Ql rfl underlying3 (hA _ _ rfl _) (Qf A0 rfl (Ql rfl underlying3 (hB _ _ rfl _) (Qx (oA rfl) rfl ?_))))))))))
 refine Qx (AT Gh [.int .i64 0, .int .i64 0, .int .i64 0, .slice none 0 0] [(0, _), (1, _), (2, _)] [_, _, _, _] rfl AI rfl rfl (by repeat (first | exact trivial | refine ⟨⟨rfl, rfl, rfl⟩, ?_⟩)) rfl) rfl ?_
 refine BZ [.int .i64 0, .int .i64 0, .int .i64 0, .slice none 0 0] rfl AI rfl rfl (fun g5 => ?_)
 refine Sa 0 [_, _, _, _] AI rfl (by simp [Value.oneCell']) ?_
 refine Aq (Ac (Ax (Qf Bh rfl (Ql rfl underlying3 (hA _ _ rfl _) (Qm rfl (Aq (Ag (BX ?_))))))))
 refine AD (fun q s h' ms' => ∃ (k : Nat) (m : Hp) (ek : Value), q = r - k ∧ s = [(2, .pointer (some ⟨g2, 0, none⟩)), (3, .pointer (some ⟨g3, 0, none⟩)), (4, .pointer (some ⟨g4, 0, none⟩)), (5, .pointer (some ⟨g5, 0, none⟩)), (18, .int .i64 r), (19, .int .i64 k)] ∧ h2 = h' ∧ ms' = [m, AX g5 42 [.int .i64 p, .int .i64 r, .int .i64 (c + c'), ek], AX g4 42 [.int .i64 0, .int .i64 0, .int .i64 0, .slice none 0 0]] ∧ k ≤ r ∧ OwnL cI 1 3 m ek (mat k (c + c') (jn c f g)))
  (r - 0) _ ⟨0, _, _, rfl, rfl, rfl, rfl, by omega, by unfold mat; rw [Nat.zero_mul]; exact OwnL.nil Br⟩ Qs ?_
 rintro q s h' ms' ⟨k, m, ek, rfl, rfl, rfl, rfl, hk, hO⟩
 have oe : ek.oneCell' = true := (hO.rd (h := h2) (ms := [m]) (List.Mem.head _)).rd.one
 refine Ax (Qm rfl (Aq (Ac ?_)))
 refine AF rfl (fun hlt => ?_) (fun hlt => ?_)
 ·have hkr : k < r := by omega
  have e1 : (k + 1) * c = k * c + c := by rw [Nat.add_mul, Nat.one_mul]
  have b1 : (k + 1) * c ≤ r * c := Nat.mul_le_mul_right c hkr
  have b2 : r * c ≤ 400 * 400 := Nat.mul_le_mul rl kl
  have el : (mat r c f).length = r * c := AY _ _ _
  have e3 : ((k : Int) + 1) * c = k * c + c := by rw [Int.add_mul, Int.one_mul]
  have e1' : (k + 1) * c' = k * c' + c' := by rw [Nat.add_mul, Nat.one_mul]
  have b1' : (k + 1) * c' ≤ r * c' := Nat.mul_le_mul_right c' hkr
  have b2' : r * c' ≤ 400 * 400 := Nat.mul_le_mul rl cl
  have el' : (mat r c' g).length = r * c' := AY _ _ _
  have e3' : ((k : Int) + 1) * c' = k * c' + c' := by rw [Int.add_mul, Int.one_mul]
  have z1 : (mat k (c + c') (jn c f g)).length = k * (c + c') := AY _ _ _
  have z2 : k * (c + c') ≤ 400 * 800 := Nat.mul_le_mul (by omega) (by omega)
  have z3 := AQ c (f k)
  have z4 := AQ c' (g k)
  refine Ai (Ab (Ac (Ag (Ax (Qm rfl (Qm rfl (Aq (AW (n := 30) (bs := [true, false, true, true, true, true, true, true, true, true, true, true, true, true, false, true, true, true, true, true, true, true, true, true, true, true, true, false, true, false]) [true, false, true, true, true, true, true, true, true, true, true, true, true, true, false, true, true, true, true, true, true, true, true, true, true, true, true, false, true] Cd (by kernel_rfl) (by kernel_rfl) rfl rfl (QF Bc rfl (QF Bc rfl (QL rfl underlying24 (hA _ _ rfl _) (Qq rfl (QF A0 rfl (QL rfl underlying3 (hA _ _ rfl _) (Qp rfl (oM rfl) (Qq rfl (Qp rfl (oA rfl) (QF A0 rfl (QL rfl underlying3 (hA _ _ rfl _) (Qp rfl (oM rfl) (Qp rfl (C5 (k * c) ((k + 1) * c) hR.rd.any rfl underlying24 A8 rfl rfl rfl (by omega) (by omega) (by omega) (by omega)) (QF Bc rfl (QL rfl underlying24 (hB _ _ rfl _) (Qq rfl (QF A0 rfl (QL rfl underlying3 (hB _ _ rfl _) (Qp rfl (oM rfl) (Qq rfl (Qp rfl (oA rfl) (QF A0 rfl (QL rfl underlying3 (hB _ _ rfl _) (Qp rfl (oM rfl) (Qp rfl (C5 (k * c') ((k + 1) * c') hS.rd.any rfl underlying24 A8 rfl rfl rfl (by omega) (by omega) (by omega) (by omega)) (QF Bc rfl ?_))))))))))))))))))))))))))))))))))
  unfold CD
  simp only [List.cons_append, List.nil_append]
  refine Qo 1 rfl (Ql rfl underlying24 (Cell.blk 1 rfl rfl) (Qw (Qo 14 rfl ?_)))
  refine Bm 0 hO (hR.row hkr).any rfl underlying24 A8 rfl (by omega) rfl rfl rfl Cv (by simp only [List.length_append, z1, z3, z4]; omega) (by simp only [List.length_append, z1, z3, z4]; omega) rfl rfl rfl (fun v1 m1 hO1 => ?_)
  refine Qw (Qo 27 rfl ?_)
  refine Bm 0 hO1 (hS.row hkr).any rfl underlying24 A8 rfl (by omega) rfl rfl rfl Cv (by simp only [List.length_append, z1, z3, z4]; omega) (by simp only [List.length_append, z1, z3, z4]; omega) rfl rfl rfl (fun v2 m2 hO2 => ?_)
  refine Qw ?_
  have ov2 : v2.oneCell' = true := (hO2.rd (h := h2) (ms := [m2]) (List.Mem.head _)).rd.one
  refine Qo 29 rfl ?_
  refine AK 1 _ rfl BN rfl rfl (by assumption) rfl rfl (by (simp; done)) rfl rfl ?_
  refine Qw (Qe (Aj (Ab (Ad (Qx (oA rfl) rfl (Qm rfl (Ak ?_)))))))
  refine Al (r - (k + 1)) _ (by omega) ⟨k + 1, m2, v2, rfl, rfl, rfl, rfl, by omega, by rw [Vg] at hO2; exact hO2⟩ Qs
 ·refine Aw (Aa (Aa (Af (Ab (Ax (Qx (oG rfl underlying42 AI (Seg.blk 1 rfl)) rfl ?_))))))
  refine Sa 2 [_, _, _, _] AI rfl (by simp [oe]) ?_
  refine Aq (Ao ?_)
  obtain rfl : k = r := by omega
  refine AP 1 rfl ?_
  exact Cl (vs := [_, _, _, _]) 1 rfl rfl underlying42 rfl AI rfl rfl (⟨l12, ek, m, rfl, rfl, hO⟩)
end Go.Proofs.YtdnelknieikbaaaGreat
namespace Go.Proofs.YtdnelknieikbaaaGreat
open Go.Proofs.Tryz
open Go.Eng Go.RowKit Go.Lin
def cR (p : Int) (r c : Nat) (ev : Value) (ov : List Value) : List Value := .int .i64 p :: .int .i64 r :: .int .i64 c :: ev :: ov
abbrev BR (g : Nat) (p : Int) (r c : Nat) (ev : Value) (ov : List Value) : Hp := AX g 184 (cR p r c ev ov)
theorem HT (g : Nat) (p : Int) (r c : Nat) (f : Nat → Nat → Int) (ev : Value) (ov : List Value) (i : Nat) (h : Hp) (hS : Seg h [] ⟨g, 0, none⟩ (cR p r c ev ov)) (hR : RdL cI 1 h [] ev (mat r c f)) (hi : i < r) (hr : r ≤ 400) (hc : c ≤ 800) :
  Dq Tryz.prog 146 #[.pointer (some ⟨g, 0, none⟩), .int .i64 i] h [] (Ch 1 ev (i * c) ((i + 1) * c)) := by
 refine FnT.toV ?_
 have hA := Seg.all hS
 have hA0 := hA 0 _ rfl
 have e1 : (i + 1) * c = i * c + c := by rw [Nat.add_mul, Nat.one_mul]
 have b1 : (i + 1) * c ≤ r * c := Nat.mul_le_mul_right c hi
 have b2 : r * c ≤ 400 * 800 := Nat.mul_le_mul hr hc
 have el : (mat r c f).length = r * c := AY _ _ _
 have e3 : ((i : Int) + 1) * c = i * c + c := by rw [Int.add_mul, Int.one_mul]
 have hz : ∀ a : Addr, (a.add 0).add 3 = a.add 3 := fun a => by rw [A6]
 refine Av func146 ntmps146 rfl rfl (fun w0 hw0 => ?_)
 simp only [A4]
 refine Ax (Qm rfl (Aq (Ac (AW (n := 22) (bs := [true, true, true, true, true, true, true, true, true, true, true, true, true, true, true, true, true, true, true, true, true, false]) [true, true, true, true, true, true, true, true, true, true, true, true, true, true, true, true, true, true, true, true, true] Cd (by kernel_rfl) (by kernel_rfl) rfl rfl (Qq rfl (Qq rfl (QF ED rfl (QF Bc rfl (QL rfl underlying24 (hA _ _ rfl _) (Qq rfl (Qq rfl (Qq rfl (QF ED rfl (QF A0 rfl (QL rfl underlying3 (hA _ _ rfl _) (Qp rfl (oM rfl) (Qq rfl (Qp rfl (oA rfl) (Qq rfl (Qq rfl (QF ED rfl (QF A0 rfl (QL rfl underlying3 (hA _ _ rfl _) (Qp rfl (oM rfl) (Qp rfl (C5 (i * c) ((i + 1) * c) hR.rd.any rfl underlying24 A8 rfl rfl rfl (by omega) (by omega) (by omega) (by omega)) ?_)))))))))))))))))))))))))
 unfold CD
 simp only [List.cons_append, List.nil_append]
 refine Qo 21 rfl (Qm rfl (Qw (Qe (Ab (Ao ?_)))))
 exact Am rfl rfl (rfl)
end Go.Proofs.YtdnelknieikbaaaGreat
namespace Go.Proofs.YtdnelknieikbaaaGreat
open Go.Proofs.Tryz
open Go.Eng Go.RowKit Go.Lin
def turn (f : Nat → Nat → Int) (i : Nat) (G : Nat → Int) (k a b : Nat) : Int := if a = i ∧ b < k then G b else f a b
theorem turn_zero (f : Nat → Nat → Int) (i : Nat) (G : Nat → Int) (a b : Nat) : turn f i G 0 a b = f a b := if_neg (by omega)
theorem turn_at (f : Nat → Nat → Int) (i : Nat) (G : Nat → Int) (k : Nat) : turn f i G k i k = f i k := if_neg (by omega)
theorem turn_ne (f : Nat → Nat → Int) (i : Nat) (G : Nat → Int) (k a b : Nat) (h : a ≠ i) : turn f i G k a b = f a b := if_neg (by omega)
theorem turn_step (f : Nat → Nat → Int) (i : Nat) (G : Nat → Int) (k a b : Nat) : DB (turn f i G k) i k (G k) a b = turn f i G (k + 1) a b := by
 unfold DB turn
 by_cases h : a = i ∧ b = k
 ·rw [if_pos h, if_pos (by omega), h.2]
 ·rw [if_neg h]
  by_cases h2 : a = i ∧ b < k
  ·rw [if_pos h2, if_pos (by omega)]
  ·rw [if_neg h2, if_neg (by omega)]
theorem turn_all (f : Nat → Nat → Int) (i : Nat) (G : Nat → Int) (c a b : Nat) (hb : b < c) : turn f i G c a b = if a = i then G b else f a b := by
 unfold turn
 by_cases h : a = i
 ·rw [if_pos ⟨h, hb⟩, if_pos h]
 ·rw [if_neg (fun x => h x.1), if_neg h]
theorem Nl (r c : Nat) (f : Nat → Nat → Int) (i : Nat) (G : Nat → Int) (ev : Value) (m : Hp) (cf : FuncId) (fs : List Value) (h : Hp) (hO : OwnL cI 1 3 m ev (mat r c f)) (hi : i < r) (hr : r ≤ 400) (hc : c ≤ 800)
  (hcf : ∀ xs w, (callFunc cf xs).run Tryz.prog w = .ok (.enter cf xs) w)
  (hG : ∀ k, k < c → ∀ m', OwnL cI 1 3 m' ev (mat r c (turn f i G k)) → Dq Tryz.prog cf (fs ++ [Value.int .i64 k, Value.int .i64 (f i k)] ++ []).toArray h [m'] (.int .i64 (G k))) :
  FnT Tryz.prog 148 #[Ch 1 ev (i * c) ((i + 1) * c), .func (.func cf) fs.toArray #[]] h [m] (fun x h' ms' => h = h' ∧ ∃ m', ms' = [m'] ∧ OwnL cI 1 3 m' ev (mat r c fun a b => if a = i then G b else f a b)) := by
 have ec := AQ c (f i)
 refine Av func148 ntmps148 rfl rfl (fun w0 hw0 => ?_)
 simp only [A4]
 refine Ax (Qm rfl (Qx (AJ ((hO.rd (h := h) (ms := [m]) (List.Mem.head _)).row hi).rd rfl underlying24 rfl) rfl (Qm rfl (Aq (Ag ?_)))))
 refine AD (fun q s h' ms' => ∃ (k : Nat) (m : Hp), q = c - k ∧ s = [(0, Ch 1 ev (i * c) ((i + 1) * c)), (1, .func (.func cf) fs.toArray #[]), (6, Ch 1 ev (i * c) ((i + 1) * c)), (7, .int .i64 ((vec c (f i)).length : Nat)), (8, .int .i64 k)] ∧ h = h' ∧ ms' = [m] ∧ k ≤ c ∧ OwnL cI 1 3 m ev (mat r c (turn f i G k)))
  (c - 0) _ ⟨0, m, rfl, rfl, rfl, rfl, by omega, by rw [AO (fun a _ b _ => turn_zero f i G a b)]; exact hO⟩ Qs ?_
 rintro q s h' ms' ⟨k, m, rfl, rfl, rfl, rfl, hk, hO⟩
 refine Ax (Qm rfl (Aq (Ac ?_)))
 refine AF rfl (fun hlt => ?_) (fun hlt => ?_)
 ·have hkc : k < c := by omega
  have ek := AQ c (turn f i G k i)
  have hcell : Cell h [m] ((Bl (Ch 1 ev (i * c) ((i + 1) * c))).add (k * 1)) (.int .i64 (f i k)) := by
   have := ((hO.rd (h := h) (ms := [m]) (List.Mem.head _)).row hi).ev hkc
   rw [turn_at] at this
   exact this
  refine Ai (Ab (Ac (Ag (Ax (Qm rfl (Qx (Ah _ ((hO.rd (h := h) (ms := [m]) (List.Mem.head _)).row hi).rd rfl underlying24 A8 rfl rfl rfl (by omega)) rfl (Ql rfl underlying3 (hcell) (Qm rfl (Qm rfl (IA (Qm rfl (Qm rfl (Qm rfl (Qm rfl (Qm rfl (Qx (En (cs := []) rfl rfl hcf rfl (hG k hkc m hO)) rfl (Qx (Ah _ ((hO.rd (h := h) (ms := [m]) (List.Mem.head _)).row hi).rd rfl underlying24 A8 rfl rfl rfl (by omega)) rfl (EW 0 i k hO hi hkc rfl A8 rfl rfl rfl rfl rfl (fun m' hO' => Ak (Aj (Ab (Ad (Qx (oA rfl) rfl (Qm rfl (Ak ?_)))))))))))))))))))))))))
  refine Al (c - (k + 1)) _ (by omega) ⟨k + 1, m', rfl, rfl, rfl, rfl, by omega, by rw [AO (fun a _ b _ => turn_step f i G k a b)] at hO'; exact hO'⟩ Qs
 ·refine Aw (Aa (Aa (Af ?_)))
  obtain rfl : k = c := by omega
  exact B6 rfl (⟨rfl, m, rfl, by rw [AO (fun a _ b hb => turn_all f i G k a b hb)] at hO; exact hO⟩)
end Go.Proofs.YtdnelknieikbaaaGreat
namespace Go.Proofs.YtdnelknieikbaaaGreat
open Go.Proofs.Tryz
open Go.Eng Go.RowKit Go.Lin
def swp (f : Nat → Nat → Int) (i j k a b : Nat) : Int := if b < k then f (FE i j a) b else f a b
theorem K7 (f : Nat → Nat → Int) (i j k a b : Nat) : DB (DB (swp f i j k) i k (f j k)) j k (f i k) a b = swp f i j (k + 1) a b := by
 unfold DB swp FE
 by_cases h1 : a = j ∧ b = k
 ·obtain ⟨rfl, rfl⟩ := h1
  rw [if_pos ⟨rfl, rfl⟩, if_pos (by omega)]
  by_cases h2 : a = i
  ·subst h2; rw [if_pos rfl]
  ·rw [if_neg h2, if_pos rfl]
 ·rw [if_neg h1]
  by_cases h2 : a = i ∧ b = k
  ·obtain ⟨rfl, rfl⟩ := h2
   rw [if_pos ⟨rfl, rfl⟩, if_pos (by omega), if_pos rfl]
  ·rw [if_neg h2]
   by_cases h3 : b < k
   ·simp only [h3, show b < k + 1 by omega, if_true]
   ·by_cases h4 : b < k + 1
    ·have hbk : b = k := by omega
     have hai : ¬ a = i := fun e => h2 ⟨e, hbk⟩
     have haj : ¬ a = j := fun e => h1 ⟨e, hbk⟩
     simp only [h3, h4, hai, haj, if_true, if_false]
    ·simp only [h3, h4, if_false]
theorem U5 (f : Nat → Nat → Int) (i j k a : Nat) : swp f i j k a k = f a k := if_neg (by omega)
theorem Rf (f : Nat → Nat → Int) (i j a b : Nat) : swp f i j 0 a b = f a b := if_neg (by omega)
theorem TT (f : Nat → Nat → Int) (i j c a b : Nat) (hb : b < c) : swp f i j c a b = f (FE i j a) b := if_pos hb
theorem T9 (g : Nat) (p : Int) (r c : Nat) (f : Nat → Nat → Int) (ev : Value) (ov : List Value) (m : Hp) (i j : Nat) (h : Hp) (hO : OwnL cI 1 3 m ev (mat r c f)) (hi : i < r) (hj : j < r) (hr : r ≤ 400) (hc : c ≤ 800) :
  FnT Tryz.prog 147 #[.pointer (some ⟨g, 0, none⟩), .int .i64 i, .int .i64 j] h [BR g p r c ev ov, m] (fun x h' ms' => h = h' ∧ ∃ m', ms' = [BR g p r c ev ov, m'] ∧ OwnL cI 1 3 m' ev (mat r c fun a b => f (FE i j a) b)) := by
 have hRi := (hO.rd (h := h) (ms := [m]) (List.Mem.head _)).row hi
 have ec := AQ c (f i)
 refine Av func147 ntmps147 rfl rfl (fun w0 hw0 => ?_)
 simp only [A4]
 refine Ax (Qm rfl (Qm rfl (Qx (AG rfl call146 rfl (CN fun h' hl hm => HT g p r c f ev ov _ h' (Seg.ofLe (hm _ (List.Mem.head _))) (hO.rdh (hm _ (List.Mem.tail _ (List.Mem.head _)))) (by assumption) hr hc)) rfl (Qm rfl (Qm rfl (Qx (AG rfl call146 rfl (CN fun h' hl hm => HT g p r c f ev ov _ h' (Seg.ofLe (hm _ (List.Mem.head _))) (hO.rdh (hm _ (List.Mem.tail _ (List.Mem.head _)))) (by assumption) hr hc)) rfl (Qm rfl (Qm rfl (B3 (Qm rfl (Qx (CH hRi.rd rfl underlying24 rfl) rfl (Qm rfl (Aq (Ag ?_))))))))))))))
 refine AD (fun q s h' ms' => ∃ (k : Nat) (m : Hp), q = c - k ∧ s = [(6, Ch 1 ev (i * c) ((i + 1) * c)), (7, Ch 1 ev (j * c) ((j + 1) * c)), (16, .int .i64 ((vec c (f i)).length : Nat)), (17, .int .i64 k)] ∧ h = h' ∧ ms' = [BR g p r c ev ov, m] ∧ k ≤ c ∧ OwnL cI 1 3 m ev (mat r c (swp f i j k)))
  (c - 0) _ ⟨0, m, rfl, rfl, rfl, rfl, by omega, by rw [AO (fun a _ b _ => Rf f i j a b)]; exact hO⟩ Qs ?_
 rintro q s h' ms' ⟨k, m, rfl, rfl, rfl, rfl, hk, hO⟩
 have eci := AQ c (swp f i j k i)
 have ecj := AQ c (swp f i j k j)
 refine Ax (Qm rfl (Aq (Ac ?_)))
 refine AF rfl (fun hlt => ?_) (fun hlt => ?_)
 ·have hkc : k < c := by omega
  have hR2 := fun i hi => (hO.rd (h := h) (ms := [BR g p r c ev ov, m]) (List.Mem.tail _ (List.Mem.head _))).row (i := i) hi
  have hcell : ∀ i (hi : i < r), Cell h [BR g p r c ev ov, m] ((Bl (Ch 1 ev (i * c) ((i + 1) * c))).add (k * 1)) (.int .i64 (f i k)) := fun i hi => by
   have := (hR2 i hi).ev hkc
   rw [U5] at this
   exact this
  refine Ai (Ab ?_)
  refine Bv (fun s h' ms' => ∃ (m : Hp), s = [(6, Ch 1 ev (i * c) ((i + 1) * c)), (7, Ch 1 ev (j * c) ((j + 1) * c)), (16, .int .i64 ((vec c (f i)).length : Nat)), (17, .int .i64 k)] ∧ h = h' ∧ ms' = [BR g p r c ev ov, m] ∧ OwnL cI 1 3 m ev (mat r c (swp f i j (k + 1)))) ?_ (fun s h ms hI => ?_)
  ·refine Ag (Ax (Qm rfl (Qm rfl (Aq (AW (n := 16) (bs := [true, true, true, true, true, true, true, false, true, true, true, false, true, false, true, false]) [true, true, true, true, true, true, true, false, true, true, true, false, true, false, true] Cd (by kernel_rfl) (by kernel_rfl) rfl rfl (Qq rfl (Qq rfl (Qq rfl (Qq rfl (Qq rfl (Qq rfl (Qp rfl (Bo _ (hR2 j hj).rd rfl underlying24 A8 rfl rfl rfl (by omega)) (Qq rfl (Qq rfl (Qp rfl (Bo _ (hR2 i hi).rd rfl underlying24 A8 rfl rfl rfl (by omega)) (Qp rfl (Bo _ (hR2 i hi).rd rfl underlying24 A8 rfl rfl rfl (by omega)) (Qp rfl (Bo _ (hR2 j hj).rd rfl underlying24 A8 rfl rfl rfl (by omega)) ?_)))))))))))))))))
   unfold CD
   simp only [List.cons_append, List.nil_append]
   refine A2 [7, 11] (by kernel_rfl) rfl ?_
   refine Az rfl ?_ ?_
   ·refine Ql rfl underlying3 (hcell j hj) (Qw (Qo 11 rfl (Ql rfl underlying3 (hcell i hi) (Qw (Qo 13 rfl (EW 1 i k hO hi hkc rfl A8 rfl rfl rfl rfl rfl (fun m1 hO1 => Qw (Qo 15 rfl (EW 1 j k hO1 hj hkc rfl A8 rfl rfl rfl rfl rfl (fun m2 hO2 => Qw (Qe (Aj ?_))))))))))))
    refine AA _ ⟨m2, rfl, rfl, rfl, by rw [AO (fun a _ b _ => K7 f i j k a b)] at hO2; exact hO2⟩ Qs
   refine Az rfl ?_ ?_
   ·refine Ql rfl underlying3 (hcell i hi) (Qw (Qo 7 rfl (Ql rfl underlying3 (hcell j hj) (Qw (Qo 13 rfl (EW 1 i k hO hi hkc rfl A8 rfl rfl rfl rfl rfl (fun m1 hO1 => Qw (Qo 15 rfl (EW 1 j k hO1 hj hkc rfl A8 rfl rfl rfl rfl rfl (fun m2 hO2 => Qw (Qe (Aj ?_))))))))))))
    refine AA _ ⟨m2, rfl, rfl, rfl, by rw [AO (fun a _ b _ => K7 f i j k a b)] at hO2; exact hO2⟩ Qs
   exact A3
  obtain ⟨m, rfl, rfl, rfl, hO⟩ := hI
  ·refine Ad (Qx (oA rfl) rfl (Qm rfl (Ak ?_)))
   refine Al (c - (k + 1)) _ (by omega) ⟨k + 1, m, rfl, rfl, rfl, rfl, by omega, hO⟩ Qs
 ·refine Aw (Aa (Aa (Af ?_)))
  obtain rfl : k = c := by omega
  exact B6 rfl (⟨rfl, m, rfl, by rw [AO (fun a _ b hb => TT f i j k a b hb)] at hO; exact hO⟩)
end Go.Proofs.YtdnelknieikbaaaGreat
namespace Go.Proofs.YtdnelknieikbaaaGreat
open Go.Proofs.Tryz
open Go.Eng Go.RowKit Go.Lin
variable {p : Int} {n : Nat} {ov : List Int}
theorem Cg.pow {a b : Int} (h : Cg p a b) : ∀ n : Nat, Cg p (a ^ n) (b ^ n)
 | 0 => Cg.of_eq (by rw [Int.pow_zero, Int.pow_zero])
 | n + 1 => by rw [Int.pow_succ, Int.pow_succ]; exact Cg.mul (Cg.pow h n) h
theorem Np (hp : IsP p) (h1 : 1 ≤ n) (hn : (n : Int) < p) {out : Int} (ho : Cg p out ((n : Int) ^ (p.toNat - 2))) : (n : Int) * out % p = 1 := by
 have h2 := hp.1
 have hd : ¬ p.toNat ∣ n := fun hd => by have := Nat.le_of_dvd (by omega) hd; omega
 have hf := PU hp.prm hd
 have h3 : Cg p ((n : Int) * out) ((n : Int) ^ (p.toNat - 1)) := by
  have := Cg.mul (Cg.refl p (n : Int)) ho
  rw [show p.toNat - 1 = (p.toNat - 2) + 1 by omega, Int.pow_succ, Int.mul_comm _ (n : Int)]
  exact this
 have h4 : (n : Int) ^ (p.toNat - 1) % p = 1 := by
  have h5 : ((n ^ (p.toNat - 1) % p.toNat : Nat) : Int) = 1 := by rw [hf]; rfl
  rw [Int.natCast_emod, Int.natCast_pow, Int.toNat_of_nonneg (by omega)] at h5
  exact h5
 rw [Cg.iff_mod.1 h3, h4]
def Ovk (p : Int) (ov : List Int) : Prop := ov.length = 998 ∧ ∀ n (h : n < ov.length), ov[n] = 0 ∨ (0 < ov[n] ∧ ov[n] < p ∧ (n : Int) * ov[n] % p = 1)
theorem UL {r c : Nat} {ev : Value} (hn : n < ov.length) : (cR p r c ev (ov.flatMap cI))[4 + n * 1]? = some (.int .i64 ov[n]) := by
 have := Ey Br ov n hn 0 (.int .i64 ov[n]) rfl
 rw [Nat.add_zero] at this
 rw [show 4 + n * 1 = n * 1 + 4 by omega]
 exact this
theorem Ve {r c : Nat} {ev : Value} (x : Int) : (cR p r c ev (ov.flatMap cI)).set (4 + n * 1) (.int .i64 x) = cR p r c ev ((ov.set n x).flatMap cI) := by
 rw [show 4 + n * 1 = n + 1 + 1 + 1 + 1 by omega, ← Vc]
 rfl
theorem Ovk.set (H : Ovk p ov) {x : Int} (h0 : 0 < x) (h1 : x < p) (h2 : (n : Int) * x % p = 1) : Ovk p (ov.set n x) := by
 refine ⟨by simp [H.1], fun k hk => ?_⟩
 rw [List.getElem_set]
 by_cases e : n = k
 ·subst e; rw [if_pos rfl]; exact .inr ⟨h0, h1, h2⟩
 ·rw [if_neg e]; exact H.2 k (by simpa using hk)
theorem KM (a : Int) (e : Nat) : a ^ e = (a * a) ^ (e / 2) * a ^ (e % 2) := by
 conv => lhs; rw [← Nat.div_add_mod e 2, Int.pow_add, Int.pow_mul]
 rw [show a ^ 2 = a * a by rw [Int.pow_succ, Int.pow_succ, Int.pow_zero, Int.one_mul]]
theorem Py (g : Nat) (p : Int) (r c : Nat) (ev : Value) (ov : List Int) (n : Nat) (h : Hp) (hp : IsP p) (hov : Ovk p ov) (h1n : 1 ≤ n) (hn : (n : Int) < p) :
  FnT Tryz.prog 149 #[.pointer (some ⟨g, 0, none⟩), .int .i64 n] h [BR g p r c ev (ov.flatMap cI)] (fun x h' ms' => h = h' ∧ ∃ (v : Int) (ov' : List Int), x = .int .i64 v ∧ ms' = [BR g p r c ev (ov'.flatMap cI)] ∧ Ovk p ov' ∧ 0 < v ∧ v < p ∧ (n : Int) * v % p = 1) := by
 have hb : 2 ≤ p ∧ p ≤ 997 := ⟨hp.1, hp.2.1⟩
 have hl := hov.1
 have hnl : n < ov.length := by omega
 have hc := hov.2 n hnl
 have hcell : Cell h [BR g p r c ev (ov.flatMap cI)] (((⟨g, 0, none⟩ : Addr).add 4).add (n * 1)) (.int .i64 ov[n]) := by
  rw [A6]
  exact Cell.blk 0 rfl (UL hnl)
 have hP : ∀ ov' : List Value, Cell h [BR g p r c ev ov'] (((⟨g, 0, none⟩ : Addr).add 0).add 0) (.int .i64 p) := fun ov' => by
  rw [A6]
  exact Cell.blk 0 rfl rfl
 refine Av func149 ntmps149 rfl rfl (fun w0 hw0 => ?_)
 simp only [A4]
 refine Ax (Qm rfl (Aq (Ac (Ax (Qm rfl (Qm rfl (Qm rfl (Qf Kb rfl (Qx (C8 (n) rfl underlying182 A8 rfl rfl (by omega) (by omega)) rfl (Ql rfl underlying3 (hcell) (Qm rfl (Aq ?_))))))))))))
 refine AF rfl (fun hpos => ?_) (fun hpos => ?_)
 ·have hc : 0 < ov[n] ∧ ov[n] < p ∧ (n : Int) * ov[n] % p = 1 := by
   rcases hc with h0 | h0
   ·omega
   ·exact h0
  refine Ax (Qm rfl (Qm rfl (Qm rfl (Qf Kb rfl (Qx (C8 (n) rfl underlying182 A8 rfl rfl (by omega) (by omega)) rfl (Ql rfl underlying3 (hcell) (Qm rfl (Aq (Ao (Ae ?_))))))))))
  exact Am rfl rfl (⟨rfl, _, ov, rfl, rfl, hov, hc.1, hc.2.1, hc.2.2⟩)
 ·refine Ai (Ab (Ax (Qm rfl (Qm rfl (Qm rfl (Aq (Ac (Ax (Qm rfl (Qm rfl (Qf ED rfl (Qf BE rfl (Ql rfl underlying3 (hP _) (Qx (oS rfl) rfl (Qm rfl (Aq (Ag ?_)))))))))))))))))
  refine AD (fun q s h' ms' => ∃ (e : Nat) (out pw y : Int), q = e ∧ s = [(0, .pointer (some ⟨g, 0, none⟩)), (1, .int .i64 n), (5, .int .i64 out), (6, .int .i64 pw), (7, .int .i64 y)] ∧ h = h' ∧ ms' = [BR g p r c ev (ov.flatMap cI)] ∧ y = e ∧ e ≤ 1000 ∧ 0 ≤ out ∧ out < p ∧ 0 ≤ pw ∧ pw < p ∧ Cg p (out * pw ^ e) ((n : Int) ^ (p.toNat - 2)))
   (p.toNat - 2) _ ⟨p.toNat - 2, 1, (n : Int), p - 2, rfl, rfl, rfl, rfl, by omega, by omega, by omega, by omega, by omega, by omega, by rw [Int.one_mul]; exact Cg.refl _ _⟩ Qs ?_
  rintro e s h' ms' ⟨e', out, pw, y, rfl, rfl, rfl, rfl, rfl, he, o1, o2, q1, q2, hcg⟩
  have b1 := DF ⟨o1, o2⟩ ⟨q1, q2⟩ hb.2
  have b2 := DF ⟨q1, q2⟩ ⟨q1, q2⟩ hb.2
  have m1 := Int.emod_nonneg (out * pw) (show p ≠ 0 by omega)
  have m2 := Int.emod_lt_of_pos (out * pw) (show 0 < p by omega)
  have m3 := Int.emod_nonneg (pw * pw) (show p ≠ 0 by omega)
  have m4 := Int.emod_lt_of_pos (pw * pw) (show 0 < p by omega)
  have hh : Cg p ((pw * pw % p) ^ (e / 2)) ((pw * pw) ^ (e / 2)) := Cg.pow (Cg.mod _ _) _
  refine Ac (Ax (Qm rfl (Qm rfl (Aq ?_))))
  refine AF rfl (fun hlt => ?_) (fun hlt => ?_)
  ·refine Ai (Ab (Ac (Ag (Ac (Ax (Qm rfl (Qx (Vk rfl rfl rfl (by omega)) rfl (Qm rfl (Aq ?_)))))))))
   refine AF rfl (fun hodd => ?_) (fun hodd => ?_)
   ·refine Ad (Qm rfl (Qm rfl (Qx (oM rfl) rfl (Qm rfl (Qm rfl (Qf ED rfl (Qf BE rfl (Ql rfl underlying3 (hP _) (Qx (B0 rfl rfl rfl (by omega) (by omega)) rfl (Qm rfl (IA (Qm rfl (Qm rfl (Qx (oM rfl) rfl (Qm rfl (Qm rfl (Qf ED rfl (Qf BE rfl (Ql rfl underlying3 (hP _) (Qx (B0 rfl rfl rfl (by omega) (by omega)) rfl (Qm rfl (Ak (Aj (Ab (Ad (Qm rfl (Qx (Nd (n := 1) rfl rfl rfl (by omega)) rfl (Qm rfl (Ak ?_)))))))))))))))))))))))))))))
    refine Al (e / 2) _ (by omega) ⟨e / 2, out * pw % p, pw * pw % p, ((e / 2 : Nat) : Int), rfl, rfl, rfl, rfl, rfl, by omega, m1, m2, m3, m4, ?_⟩ Qs
    refine Cg.trans (Cg.mul (Cg.mod _ _) hh) (Cg.trans (Cg.of_eq ?_) hcg)
    rw [KM pw e, show e % 2 = 1 by omega, Int.pow_succ, Int.pow_zero, Int.one_mul, Int.mul_assoc, Int.mul_comm pw]
   ·refine Ai (Ab (Ad (Qm rfl (Qm rfl (Qx (oM rfl) rfl (Qm rfl (Qm rfl (Qf ED rfl (Qf BE rfl (Ql rfl underlying3 (hP _) (Qx (B0 rfl rfl rfl (by omega) (by omega)) rfl (Qm rfl (Ak (Aj (Ab (Ad (Qm rfl (Qx (Nd (n := 1) rfl rfl rfl (by omega)) rfl (Qm rfl (Ak ?_))))))))))))))))))))
    refine Al (e / 2) _ (by omega) ⟨e / 2, out, pw * pw % p, ((e / 2 : Nat) : Int), rfl, rfl, rfl, rfl, rfl, by omega, o1, o2, m3, m4, ?_⟩ Qs
    refine Cg.trans (Cg.mul (Cg.refl _ _) hh) (Cg.trans (Cg.of_eq ?_) hcg)
    rw [KM pw e, show e % 2 = 0 by omega, Int.pow_zero, Int.mul_one]
  ·obtain rfl : e = 0 := by omega
   rw [Int.pow_zero, Int.mul_one] at hcg
   have hinv := Np hp h1n hn hcg
   have hout : 0 < out := by
    rcases (by omega : out = 0 ∨ 0 < out) with h0 | h0
    ·subst h0; simp at hinv
    ·exact h0
   refine Aw (Aa (Aa (Af (Ab (Ax (Qm rfl (Qm rfl (Qm rfl (Qm rfl (Qf Kb rfl (Qx (C8 (n) rfl underlying182 A8 rfl rfl (by omega) (by omega)) rfl ?_)))))))))))
   refine AK 0 (4 + n * 1) rfl A8 rfl rfl rfl rfl (A6 _ _ _) (by show _ < (_ :: _ :: _ :: _ :: _ : List Value).length; simp only [List.length_cons, BL Br, hl]; omega) rfl rfl ?_
   rw [Ve]
   refine B3 (Qm rfl (Qm rfl (Aq (Ao ?_))))
   exact Am rfl rfl (⟨rfl, out, ov.set n out, rfl, rfl, hov.set hout o2 hinv, hout, o2, hinv⟩)
theorem Sd (g : Nat) (p : Int) (r c : Nat) (ev : Value) (ov : List Int) (n : Int) (h : Hp) (hp : IsP p) (hov : Ovk p ov) (h1n : 1 ≤ n) (hn : n < p) :
  FnT Tryz.prog 149 #[.pointer (some ⟨g, 0, none⟩), .int .i64 n] h [BR g p r c ev (ov.flatMap cI)] (fun x h' ms' => h = h' ∧ ∃ (v : Int) (ov' : List Int), x = .int .i64 v ∧ ms' = [BR g p r c ev (ov'.flatMap cI)] ∧ Ovk p ov' ∧ 0 < v ∧ v < p ∧ n * v % p = 1) := by
 obtain ⟨k, rfl⟩ := Int.eq_ofNat_of_zero_le (show 0 ≤ n by omega)
 exact Py g p r c ev ov k h hp hov (by omega) hn
end Go.Proofs.YtdnelknieikbaaaGreat
namespace Go.Proofs.YtdnelknieikbaaaGreat
open Go.Proofs.Tryz
open Go.Eng Go.RowKit Go.Lin
theorem SU (t p k n : Int) (h : Hp) (hp : IsP p) (hn : 0 ≤ n ∧ n < p) (ht : 0 ≤ t ∧ t < p) (ms : List Hp) :
  Dq Tryz.prog 150 #[.agg #[.slice none 0 0, .int .i64 t, .int .i64 p], .int .i64 k, .int .i64 n] h ms (.int .i64 (n * t % p)) := by
 refine Ds ?_ ms
 have hb : 2 ≤ p ∧ p ≤ 997 := ⟨hp.1, hp.2.1⟩
 have b1 := DF hn ht hb.2
 refine Av func150 ntmps150 rfl rfl (fun w0 hw0 => ?_)
 simp only [A4]
 refine Ax ?_
 refine AS [_, _, _] rfl rfl (by rfl) rfl rfl rfl (fun g3 => ?_)
 refine Qm rfl (B3 (Qm rfl (Qf N4 rfl (Ql rfl underlying3 (Cell.blk 0 rfl rfl) (Qx (oM rfl) rfl (Qf NH rfl (Ql rfl underlying3 (Cell.blk 0 rfl rfl) (Qx (B0 rfl rfl rfl (by omega) (by omega)) rfl (Qm rfl (Aq (Ao ?_)))))))))))
 exact Am rfl rfl (rfl)
theorem Vu (r c : Nat) (F : Nat → Nat → Int) (ev : Value) (at_ k : Nat) (t p n : Int) (h : Hp) (hR : RdL cI 1 h [] ev (mat r c F)) (ha : at_ < r) (hk : k < c) (hp : IsP p) (hn : 0 ≤ n ∧ n < p) (hF : 0 ≤ F at_ k ∧ F at_ k < p) (ht : 0 ≤ t ∧ t < p) :
  Dq Tryz.prog 151 #[.agg #[Ch 1 ev (at_ * c) ((at_ + 1) * c), .int .i64 t, .int .i64 p], .int .i64 k, .int .i64 n] h [] (.int .i64 ((n + F at_ k * t) % p)) := by
 refine FnT.toV ?_
 have hb : 2 ≤ p ∧ p ≤ 997 := ⟨hp.1, hp.2.1⟩
 have b1 := DF hF ht hb.2
 have hRa := hR.row ha
 have ea := AQ c (F at_)
 refine Av func151 ntmps151 rfl rfl (fun w0 hw0 => ?_)
 simp only [A4]
 refine Ax ?_
 refine AS [_, _, _] rfl rfl (by rfl) rfl rfl rfl (fun g3 => ?_)
 refine Qm rfl (Aq (AL fun h' hle hS => ?_))
 have hRa := hRa.up hle
 have hA := Seg.all hS
 have hA0 := hA 0 _ rfl
 refine Ac (AW (n := 14) (bs := [true, true, true, true, true, true, true, true, true, true, true, true, true, false]) [true, true, true, true, true, true, true, true, true, true, true, true, true] Cd (by kernel_rfl) (by kernel_rfl) rfl rfl (Qq rfl (QF TB rfl (QL rfl underlying24 (hA _ _ rfl _) (Qq rfl (Qp rfl (Ah (k) hRa.rd.any rfl underlying24 A8 rfl rfl (by omega) (by omega)) (QL rfl underlying3 (hRa.any.ev hk) (QF N4 rfl (QL rfl underlying3 (hA _ _ rfl _) (Qp rfl (oM rfl) (Qp rfl (oA rfl) (QF NH rfl (QL rfl underlying3 (hA _ _ rfl _) (Qp rfl (B0 rfl rfl rfl (by omega) (by omega)) ?_))))))))))))))
 unfold CD
 simp only [List.cons_append, List.nil_append]
 refine Qo 13 rfl (Qm rfl (Qw (Qe (Ab (Ao ?_)))))
 exact Am rfl rfl (rfl)
theorem DS (l : List Int) (v : Value) (h : Hp) (hR : RdL cI 1 h [] v l) (hl : l.length ≤ 1000000) : FnT Tryz.prog 51 #[v] h [] (fun x h' ms' => h = h' ∧ ∃ m, ms' = [m] ∧ OwnL cI 1 3 m x l) := by
 refine Av func51 ntmps51 rfl rfl (fun w0 hw0 => ?_)
 simp only [A4]
 refine Ax (Qm rfl (Aq (Ac (Ax (Qm rfl (Qx (Ru hR.rd.any rfl underlying24 rfl rfl) rfl (Aq ?_)))))))
 refine BJ rfl (fun hn => ?_) (fun hn => ?_)
 ·have h0 := O9 hR.rd hn
  obtain rfl : l = [] := List.eq_nil_of_length_eq_zero h0
  refine Ax (Qm rfl (Aq (Ao (Ae (IN ?_)))))
  exact Am rfl rfl (⟨rfl, _, rfl, OwnL.nil Br⟩)
 ·refine Ai (Ab (Ax ?_))
  refine AZ [] [] [] rfl underlying24 A8 rfl (by omega) (by kernel_rfl) (by repeat (first | exact trivial | refine ⟨⟨by first | rfl | exact (hR.rd.any).cells | exact Rd.cells ‹_› | exact (RdL.rd ‹_›).cells, rfl, rfl⟩, ?_⟩)) rfl rfl rfl rfl (fun g5 => ?_)
  refine Qm rfl ?_
  have hO : OwnL cI 1 3 (AX g5 3 []) (.slice (some ⟨g5, 0, none⟩) 0 0) [] := OwnL.blk (l := ([] : List Int)) 0 Br rfl (by omega)
  refine Bm 0 hO hR.any rfl underlying24 A8 rfl (by omega) rfl rfl rfl Cv (by simp; omega) (by simp; omega) rfl rfl rfl (fun v' m' hO' => ?_)
  refine Qm rfl (Aq (Ao ?_))
  exact Am rfl rfl (⟨rfl, m', rfl, hO'⟩)
theorem Uy {o : Oper} {s : Ay} {h : Hp} {ms : List Hp} {x : Operand} {p : Int} {r c : Nat} {ev' : Value} (ho : o.op = .build 184 #[(0, x)]) (hx : ev s x = some (.agg #[.int .i64 p, .int .i64 r, .int .i64 c, ev'])) (h1 : ev'.oneCell' = true) :
  OX Tryz.prog o s h ms (.agg (cR p r c ev' (List.replicate 998 (.int .i64 0))).toArray) :=
 AT V5 ([.int .i64 0, .int .i64 0, .int .i64 0, .slice none 0 0] ++ List.replicate 998 (.int .i64 0)) [(0, [.int .i64 p, .int .i64 r, .int .i64 c, ev'])] _ (lp := [(0, x)]) (vs := [(0, .agg #[.int .i64 p, .int .i64 r, .int .i64 c, ev'])]) ho V1 (by kernel_rfl) (by simp only [S7, hx]) ⟨⟨rfl, rfl, rfl⟩, trivial⟩ rfl
end Go.Proofs.YtdnelknieikbaaaGreat
namespace Go.Proofs.YtdnelknieikbaaaGreat
open Go.Proofs.Tryz
open Go.Eng Go.RowKit Go.Lin
def HY (pv : List Nat) : List Int := pv.map fun (k : Nat) => (k : Int)
theorem EF (pv : List Nat) : (HY pv).length = pv.length := by simp [HY]
theorem DA {h : Hp} {ms : List Hp} {m2 : Hp} {vp : Value} {pv : List Nat} (O : OwnL cI 1 3 m2 vp (HY pv)) (hm : m2 ∈ ms) : Rd h ms vp 1 pv.length ((HY pv).flatMap cI) := by
 have := (O.rd (h := h) hm).rd
 rwa [EF] at this
theorem Wx (p : Int) : Ovk p (List.replicate 998 0) := ⟨List.length_replicate, fun n hn => .inl (List.getElem_replicate _)⟩
def Hi (p : Int) (t i j : Nat) (v : Int) (F : Nat → Nat → Int) (k a b : Nat) : Int := if a < k then J0 p t i j v F a b else De p t i v F a b
theorem Uw (p : Int) (t i j : Nat) (v : Int) (F : Nat → Nat → Int) (k b : Nat) : Hi p t i j v F k t b = De p t i v F t b := by
 unfold Hi; split
 ·unfold J0; rw [if_pos rfl]
 ·rfl
theorem L4 (p : Int) (t i j : Nat) (v : Int) (F : Nat → Nat → Int) (k b : Nat) : Hi p t i j v F k k b = De p t i v F k b := if_neg (by omega)
theorem RN (p : Int) (t i j : Nat) (v : Int) (F : Nat → Nat → Int) (k a b : Nat) (hk : k ≠ t) : (if a = k then (De p t i v F k b + De p t i v F t b * (p - De p t i v F k j)) % p else Hi p t i j v F k a b) = Hi p t i j v F (k + 1) a b := by
 unfold Hi
 by_cases h : a = k
 ·subst h
  rw [if_pos rfl, if_pos (by omega)]
  unfold J0
  rw [if_neg hk]
 ·rw [if_neg h]
  by_cases h2 : a < k
  ·rw [if_pos h2, if_pos (by omega)]
  ·rw [if_neg h2, if_neg (by omega)]
theorem IJ (p : Int) (t i j : Nat) (v : Int) (F : Nat → Nat → Int) (k a b : Nat) (h : k = t ∨ (De p t i v F k j = 0 ∧ 0 ≤ De p t i v F k b ∧ De p t i v F k b < p)) : Hi p t i j v F k a b = Hi p t i j v F (k + 1) a b := by
 unfold Hi
 by_cases h1 : a < k
 ·rw [if_pos h1, if_pos (by omega)]
 ·rw [if_neg h1]
  by_cases h2 : a = k
  ·subst h2
   rw [if_pos (by omega)]
   unfold J0
   rcases h with rfl | ⟨h3, h4, h5⟩
   ·rw [if_pos rfl]
   ·by_cases h6 : a = t
    ·rw [if_pos h6, h6]
    ·rw [if_neg h6, h3, Int.sub_zero, Int.add_mul_emod_self_right, Int.emod_eq_of_lt h4 h5]
  ·rw [if_neg (by omega)]
theorem P5 (p : Int) (t i j : Nat) (v : Int) (F : Nat → Nat → Int) (a b : Nat) : (if a = t then F (FE t i t) b * v % p else F (FE t i a) b) = Hi p t i j v F 0 a b := by
 unfold Hi De
 rw [if_neg (show ¬ a < 0 by omega)]
theorem NZ (p : Int) (t i j : Nat) (v : Int) (F : Nat → Nat → Int) (r a b : Nat) (ha : a < r) : Hi p t i j v F r a b = J0 p t i j v F a b := if_pos ha
theorem R2 {p : Int} (hp : 2 ≤ p) {r c t i : Nat} {v : Int} {F : Nat → Nat → Int} (ht : t < r) (hi : i < r) (hF : ∀ a, a < r → ∀ b, b < c → 0 ≤ F a b ∧ F a b < p) (a : Nat) (ha : a < r) (b : Nat) (hb : b < c) : 0 ≤ De p t i v F a b ∧ De p t i v F a b < p := by
 unfold De; split
 ·exact ⟨Int.emod_nonneg _ (by omega), Int.emod_lt_of_pos _ (by omega)⟩
 ·exact hF _ (FH ht hi ha) b hb
theorem LV (pv : List Nat) (j : Nat) : HY pv ++ [(j : Int)] = HY (pv ++ [j]) := by simp [HY]
theorem Tw {h : Hp} {ms : List Hp} {g : Nat} {p : Int} {r c : Nat} {ev : Value} {ov : List Value} (hm : ms[0]? = some (BR g p r c ev ov)) : Seg h ms ((⟨g, 0, none⟩ : Addr).add 0) [.int .i64 p, .int .i64 r, .int .i64 c, ev] := fun k u hu => by
 rw [A6, Nat.zero_add]
 refine Cell.blk 0 hm ?_
 rcases k with _ | _ | _ | _ | k
 ·exact hu
 ·exact hu
 ·exact hu
 ·exact hu
 ·simp at hu
structure Ho (p : Int) (r c : Nat) (f F : Nat → Nat → Int) (pv : List Nat) : Prop where
 red : Red p r c f F pv c
theorem JN (p : Int) (r c : Nat) (f : Nat → Nat → Int) (ev : Value) (h : Hp) (hp : IsP p) (hr : r ≤ 400) (hc : c ≤ 800) (hf : UO p r c f) (hR : RdL cI 1 h [] ev (mat r c f)) :
  FnT Tryz.prog 136 #[.agg #[.int .i64 p, .int .i64 r, .int .i64 c, ev]] h [] (fun x h' ms' => h.le h' ∧ ∃ (F : Nat → Nat → Int) (pv : List Nat) (eu vp : Value) (m m2 : Hp), x = .tuple #[.agg #[.int .i64 p, .int .i64 r, .int .i64 c, eu], vp] ∧ ms' = [m, m2] ∧ OwnL cI 1 3 m eu (mat r c F) ∧ OwnL cI 1 3 m2 vp (HY pv) ∧ Ho p r c f F pv) := by
 have hb : 2 ≤ p ∧ p ≤ 997 := ⟨hp.1, hp.2.1⟩
 have e1 := hR.rd.one
 have b2 : r * c ≤ 400 * 800 := Nat.mul_le_mul hr hc
 have el : (mat r c f).length = r * c := AY _ _ _
 refine Av func136 ntmps136 rfl rfl (fun w0 hw0 => ?_)
 simp only [A4]
 refine Ax ?_
 refine AS [_, _, _, _] rfl rfl (by rfl) rfl rfl rfl (fun g1 => ?_)
 refine BZ [.int .i64 0, .int .i64 0, .int .i64 0, .slice none 0 0] rfl AI rfl rfl (fun g2 => Qm rfl (Aq (Re (Ax (Qf Bc rfl (Ql rfl underlying24 (Cell.blk 1 rfl rfl) (Qc call51 rfl (DS (mat r c f) ev h hR (by omega)) (fun eu h1 ms1 l1 hF => ?_))))))))
 obtain ⟨rfl, m, rfl, hO⟩ := hF
 have e2 : eu.oneCell' = true := (hO.rd (h := h) (ms := [m]) (List.Mem.head _)).rd.one
 refine Qf Bc rfl ?_
 refine AK 2 _ rfl BN rfl rfl (by assumption) rfl rfl (by (simp; done)) rfl rfl ?_
 refine Aq (By 2 rfl fun h' hle hS => ?_)
 have hA := Seg.all hS
 have hA0 := hA 0 _ rfl
 refine Ax (Qx (oG rfl underlying42 AI (Seg.any hS)) rfl (Qx (Uy rfl rfl e2) rfl (AS (cR p r c eu (List.replicate 998 (.int .i64 0))) rfl rfl rfl rfl rfl rfl (fun g17 => ?_))))
 rw [Q8]
 refine Qm rfl (B3 (Qm rfl (Aq (Ac (QI (Ab (BX (Ea (ms' := [BR g17 p r c eu ((List.replicate 998 0).flatMap cI), m, Hp.emp, AX g2 42 [.int .i64 0, .int .i64 0, .int .i64 0, .slice none 0 0]]) ((List.Perm.swap _ _ _).trans ((List.Perm.swap _ _ _).cons _)) (Ac (Ax (Qf A0 rfl (Ql rfl underlying3 (hA _ _ rfl _) (Qm rfl (Aq (Ag ?_)))))))))))))))
 refine AD (fun q s hh ms' => ∃ (j : Nat) (F : Nat → Nat → Int) (pv : List Nat) (vp : Value) (ov : List Int) (m m2 : Hp), q = c - j ∧ s = [(1, .pointer (some ⟨g1, 0, none⟩)), (2, .pointer (some ⟨g2, 0, none⟩)), (4, .pointer (some ⟨g17, 0, none⟩)), (5, vp), (19, .int .i64 c), (20, .int .i64 j)] ∧ h' = hh ∧ ms' = [BR g17 p r c eu (ov.flatMap cI), m, m2, AX g2 42 [.int .i64 0, .int .i64 0, .int .i64 0, .slice none 0 0]] ∧ j ≤ c ∧ OwnL cI 1 3 m eu (mat r c F) ∧ OwnL cI 1 3 m2 vp (HY pv) ∧ Red p r c f F pv j ∧ Ovk p ov)
  (c - 0) _ ⟨0, f, [], _, List.replicate 998 0, m, _, rfl, rfl, rfl, rfl, by omega, hO, OwnL.nil Br, Red.start hf, Wx p⟩ Qs ?_
 rintro q s hh ms' ⟨j, F, pv, vp, ov, m, m2, rfl, rfl, rfl, rfl, hj, hO, hO2, hRed, hov⟩
 have hP := fun ms hm => DA (h := h') (ms := ms) hO2 hm
 have ovp := (hP [m2] (List.Mem.head _)).one
 have hlr := hRed.len
 refine Ax (Qm rfl (Aq (Ac ?_)))
 refine AF rfl (fun hlt => ?_) (fun hlt => ?_)
 ·have hjc : j < c := by omega
  refine Ai (Ab (Ac (Ag (Ax (Qm rfl (Qm rfl (B3 (Qm rfl (Qx (AJ (hP _ (List.Mem.tail _ (List.Mem.tail _ (List.Mem.head _)))) rfl underlying24 rfl) rfl (Qm rfl (B3 (Qm rfl (Qm rfl (Aq (Ag ?_)))))))))))))))
  refine AD (fun q s hh ms' => ∃ (i : Nat), q = r - i ∧ s = [(1, .pointer (some ⟨g1, 0, none⟩)), (2, .pointer (some ⟨g2, 0, none⟩)), (4, .pointer (some ⟨g17, 0, none⟩)), (5, vp), (6, .int .i64 j), (7, .int .i64 pv.length), (8, .int .i64 i), (19, .int .i64 c), (20, .int .i64 j)] ∧ h' = hh ∧ ms' = [BR g17 p r c eu (ov.flatMap cI), m, m2, AX g2 42 [.int .i64 0, .int .i64 0, .int .i64 0, .slice none 0 0]] ∧ pv.length ≤ i ∧ i ≤ r ∧ ∀ a, pv.length ≤ a → a < i → F a j = 0)
   (r - pv.length) _ ⟨pv.length, rfl, rfl, rfl, rfl, by omega, by omega, fun a h1 h2 => by omega⟩ Qs ?_
  rintro q s hh ms' ⟨i, rfl, rfl, rfl, rfl, hli, hir, hno⟩
  have hRow := fun i hi => (hO.rd (h := h') (ms := [m]) (List.Mem.head _)).row (i := i) hi
  have hcell : ∀ i, i < r → ∀ ms, m ∈ ms → Cell h' ms ((Bl (Ch 1 eu (i * c) ((i + 1) * c))).add (j * 1)) (.int .i64 (F i j)) := fun i hi ms hm => ((hO.rd (h := h') hm).row hi).ev hjc
  refine Ac (Ax (Qm rfl (Qf Bh rfl (Ql rfl underlying3 (hA _ _ rfl _) (Qm rfl (Aq ?_))))))
  refine AF rfl (fun hlt2 => ?_) (fun hlt2 => ?_)
  ·have hi : i < r := by omega
   have ec := AQ c (F i)
   refine Ai (Ab (Ac (Ag (Ac (Ax (Qm rfl (Qm rfl (Qx (AG rfl call146 rfl (CN fun h' hl hm => HT g17 p r c F eu _ _ h' (Seg.ofLe (hm _ (List.Mem.head _))) (hO.rdh (hm _ (List.Mem.tail _ (List.Mem.head _)))) (by assumption) hr hc)) rfl (Qm rfl (Qx (Bo (j) (hRow i hi).rd rfl underlying24 A8 rfl rfl (by omega) (by omega)) rfl (Ql rfl underlying3 (hcell i hi _ (List.Mem.tail _ (List.Mem.head _))) (Qm rfl (Aq ?_)))))))))))))
   refine AF rfl (fun hz => ?_) (fun hz => ?_)
   ·refine Aw (Aa (Af (Ab (Ad (Qm rfl (Qx (oA rfl) rfl (Qm rfl (Ak ?_))))))))
    refine Al (r - (i + 1)) _ (by omega) ⟨i + 1, rfl, rfl, rfl, rfl, by omega, by omega, fun a h1 h2 => ?_⟩ Qs
    rcases (by omega : a < i ∨ a = i) with h3 | rfl
    ·exact hno a h1 h3
    ·exact hz
   ·have ht : pv.length < r := by omega
    refine Ai (Ab (Ax (Qm rfl (Qm rfl (Qm rfl ?_)))))
    have hFi := hRed.bd i hi j hjc
    have hd0 := hRed.bd
    have hsi : FE pv.length i pv.length = i := by simp [FE]
    refine Bs (pre := [BR g17 p r c eu (ov.flatMap cI), m]) rfl call147 rfl (T9 g17 p r c F eu _ m pv.length i h' hO ht hi hr hc) rfl rfl rfl rfl (fun x h2 ms2 l2 hF => ?_)
    obtain ⟨rfl, m, rfl, hO⟩ := hF
    have hcell1 : ∀ ms, m ∈ ms → Cell h' ms ((Bl (Ch 1 eu (pv.length * c) ((pv.length + 1) * c))).add (j * 1)) (.int .i64 (F i j)) := fun ms hm => by
     have := ((hO.rd (h := h') hm).row ht).ev hjc
     rw [hsi] at this
     exact this
    have hRow1 := fun i hi => (hO.rd (h := h') (ms := [m]) (List.Mem.head _)).row (i := i) hi
    have ec1 := AQ c (fun b => F (FE pv.length i pv.length) b)
    refine Aq (Ac (AW (n := 16) (bs := [true, true, false, true, true, true, false, true, false, false, false, true, true, false, false, false]) [true, true, false, true, true, true, false, true, false, false, false, true, true] Cd (by kernel_rfl) (by kernel_rfl) rfl rfl (Qq rfl (Qq rfl (Qq rfl (Qq rfl (Qq rfl (Qq rfl (QF BE rfl (QL rfl underlying3 (hA0 _) ?_))))))))))
    unfold CD
    simp only [List.cons_append, List.nil_append]
    refine Qo 2 rfl (Qx (AG rfl call146 rfl (CN fun h' hl hm => HT g17 p r c (fun a b => F (FE pv.length i a) b) eu _ _ h' (Seg.ofLe (hm _ (List.Mem.head _))) (hO.rdh (hm _ (List.Mem.tail _ (List.Mem.head _)))) (by assumption) hr hc)) rfl (Qw (Qo 6 rfl (Qx (AG rfl call146 rfl (CN fun h' hl hm => HT g17 p r c (fun a b => F (FE pv.length i a) b) eu _ _ h' (Seg.ofLe (hm _ (List.Mem.head _))) (hO.rdh (hm _ (List.Mem.tail _ (List.Mem.head _)))) (by assumption) hr hc)) rfl (Qw (Qo 8 rfl (Qx (Bo (j) (hRow1 pv.length ht).rd rfl underlying24 A8 rfl rfl (by omega) (by omega)) rfl (Qw (Qo 9 rfl (Ql rfl underlying3 (hcell1 _ (List.Mem.tail _ (List.Mem.head _))) (Qw (Qo 10 rfl (Bs (pre := [BR g17 p r c eu (ov.flatMap cI)]) rfl call149 rfl (Sd g17 p r c eu ov (F i j) h' hp hov (by omega) (by omega)) rfl rfl rfl rfl (fun x h2 ms2 l2 hv => ?_))))))))))))))
    obtain ⟨rfl, v, ov, rfl, rfl, hov, hv0, hvp, hv1⟩ := hv
    refine Qw (Qo 13 rfl ?_)
    refine Qx (AT Uv [.slice none 0 0, .int .i64 0, .int .i64 0] [(0, _), (1, _), (2, _)] [_, _, _] rfl Uk rfl rfl (by repeat (first | exact trivial | refine ⟨⟨rfl, rfl, rfl⟩, ?_⟩ | refine ⟨⟨((hRow1 pv.length ht).rd).cells, rfl, rfl⟩, ?_⟩)) rfl) rfl ?_
    refine Qw (Qo 14 rfl (Qx (CE rfl rfl rfl) rfl (Qw (Qo 15 rfl (Fe ?_)))))
    refine Bs (pre := [m]) rfl call148 rfl (Nl r c (fun a b => F (FE pv.length i a) b) pv.length (fun b => F (FE pv.length i pv.length) b * v % p) eu m 150 [.agg #[.slice none 0 0, .int .i64 v, .int .i64 p]] h' hO ht hr hc call150 (fun k hk m' hO' => SU v p k _ h' hp (hd0 _ (by rw [hsi]; exact hi) k hk) ⟨Int.le_of_lt hv0, hvp⟩ _)) rfl rfl rfl rfl (fun x h2 ms2 l2 hE => ?_)
    obtain ⟨rfl, m, rfl, hO⟩ := hE
    refine Fe (Qw (Qe (Ab (Ac (Ax (Qf Bh rfl (Ql rfl underlying3 (hA _ _ rfl _) (Qm rfl (Aq (Ag ?_))))))))))
    have hb2 := R2 (v := v) hb.1 ht hi hd0
    refine AD (fun q s hh ms' => ∃ (k : Nat) (m : Hp), q = r - k ∧ s = [(1, .pointer (some ⟨g1, 0, none⟩)), (2, .pointer (some ⟨g2, 0, none⟩)), (4, .pointer (some ⟨g17, 0, none⟩)), (5, vp), (6, .int .i64 j), (7, .int .i64 pv.length), (19, .int .i64 c), (20, .int .i64 j), (60, .int .i64 r), (61, .int .i64 k)] ∧ h' = hh ∧ ms' = [BR g17 p r c eu (ov.flatMap cI), m, m2, AX g2 42 [.int .i64 0, .int .i64 0, .int .i64 0, .slice none 0 0]] ∧ k ≤ r ∧ OwnL cI 1 3 m eu (mat r c (Hi p pv.length i j v F k)))
     (r - 0) _ ⟨0, m, rfl, rfl, rfl, rfl, by omega, by rw [AO (fun a _ b _ => P5 p pv.length i j v F a b)] at hO; exact hO⟩ Qs ?_
    rintro q s hh ms' ⟨k, m, rfl, rfl, rfl, rfl, hkr, hO⟩
    have hcell2 : ∀ a, a < r → ∀ ms, m ∈ ms → Cell h' ms ((Bl (Ch 1 eu (a * c) ((a + 1) * c))).add (j * 1)) (.int .i64 (Hi p pv.length i j v F k a j)) := fun a ha ms hm => ((hO.rd (h := h') hm).row ha).ev hjc
    have hRow2 := fun i hi => (hO.rd (h := h') (ms := [m]) (List.Mem.head _)).row (i := i) hi
    refine Ax (Qm rfl (Aq (Ac ?_)))
    refine AF rfl (fun hltk => ?_) (fun hltk => ?_)
    ·have hk : k < r := by omega
     have eck := AQ c (Hi p pv.length i j v F k k)
     have hn := hb2 k hk j hjc
     have hkk := L4 p pv.length i j v F k
     refine Ai (Ab (Ac (Ag (Ax (Qm rfl (Qm rfl (B3 (Qm rfl (Qm rfl (Qx (AG rfl call146 rfl (CN fun h' hl hm => HT g17 p r c (Hi p pv.length i j v F k) eu _ _ h' (Seg.ofLe (hm _ (List.Mem.head _))) (hO.rdh (hm _ (List.Mem.tail _ (List.Mem.head _)))) (by assumption) hr hc)) rfl (Qm rfl (Qx (Bo (j) (hRow2 k hk).rd rfl underlying24 A8 rfl rfl (by omega) (by omega)) rfl (Ql rfl underlying3 ((hkk j ▸ hcell2 k hk _ (List.Mem.tail _ (List.Mem.head _)))) (Qm rfl (B3 (Qm rfl (Qm rfl (Qm rfl (Qm rfl ?_)))))))))))))))))))
     refine AR (t := 73) rfl (fun hkt => ?_) (fun hkt => ?_)
     ·have hkt' : k ≠ pv.length := by omega
      refine Qg (As rfl rfl) rfl (Qg (Dd rfl rfl rfl) rfl (Qm rfl (Aq ?_)))
      refine AF rfl (fun hn0 => ?_) (fun hn0 => ?_)
      ·refine AW (n := 15) (bs := [true, true, false, true, true, false, true, true, true, true, true, true, false, false, false]) [true, true, false, true, true, false, true, true, true, true, true, true] Cd (by kernel_rfl) (by kernel_rfl) rfl rfl (Qq rfl (Qq rfl (Qq rfl (Qq rfl (QF BE rfl (QL rfl underlying3 (hA0 _) (Qq rfl (Qp rfl (oS rfl) (QF BE rfl (QL rfl underlying3 (hA0 _) ?_))))))))))
       unfold CD
       simp only [List.cons_append, List.nil_append]
       refine Qo 2 rfl (Qx (AG rfl call146 rfl (CN fun h' hl hm => HT g17 p r c (Hi p pv.length i j v F k) eu _ _ h' (Seg.ofLe (hm _ (List.Mem.head _))) (hO.rdh (hm _ (List.Mem.tail _ (List.Mem.head _)))) (by assumption) hr hc)) rfl (Qw (Qo 5 rfl (Qx (AG rfl call146 rfl (CN fun h' hl hm => HT g17 p r c (Hi p pv.length i j v F k) eu _ _ h' (Seg.ofLe (hm _ (List.Mem.head _))) (hO.rdh (hm _ (List.Mem.tail _ (List.Mem.head _)))) (by assumption) hr hc)) rfl (Qw (Qo 12 rfl ?_))))))
       refine Qx (AT Uv [.slice none 0 0, .int .i64 0, .int .i64 0] [(0, _), (1, _), (2, _)] [_, _, _] rfl Uk rfl rfl (by repeat (first | exact trivial | refine ⟨⟨rfl, rfl, rfl⟩, ?_⟩ | refine ⟨⟨((hRow2 pv.length ht).rd).cells, rfl, rfl⟩, ?_⟩)) rfl) rfl ?_
       refine Qw (Qo 13 rfl (Qx (CE rfl rfl rfl) rfl (Qw (Qo 14 rfl (Fe ?_)))))
       refine Bs (pre := [m]) rfl call148 rfl (Nl r c (Hi p pv.length i j v F k) k (fun b => (De p pv.length i v F k b + De p pv.length i v F pv.length b * (p - De p pv.length i v F k j)) % p) eu m 151 [.agg #[Ch 1 eu (pv.length * c) ((pv.length + 1) * c), .int .i64 (p - De p pv.length i v F k j), .int .i64 p]] h' hO hk hr hc call151 (fun b hbc m' hO' => CN fun h'' hl hm => by have := Vu r c _ eu pv.length b (p - De p pv.length i v F k j) p (Hi p pv.length i j v F k k b) h'' (hO'.rdh (hm _ (List.Mem.head _))) ht hbc hp (by rw [L4]; exact hb2 k hk b hbc) (by rw [turn_ne _ _ _ _ _ _ (Ne.symm hkt'), Uw]; exact hb2 _ ht b hbc) (by omega); rw [turn_ne _ _ _ _ _ _ (Ne.symm hkt'), Uw, L4] at this; rw [L4]; exact this)) rfl rfl rfl rfl (fun x h2 ms2 l2 hE => ?_)
       obtain ⟨rfl, m, rfl, hO⟩ := hE
       refine Fe (Qw (Qe (Aj (Ab (Ad (Qx (oA rfl) rfl (Qm rfl (Ak ?_))))))))
       refine Al (r - (k + 1)) _ (by omega) ⟨k + 1, m, rfl, rfl, rfl, rfl, by omega, by rw [AO (fun a _ b _ => RN p pv.length i j v F k a b hkt')] at hO; exact hO⟩ Qs
      ·refine Ai (Aj (Ab (Ad (Qx (oA rfl) rfl (Qm rfl (Ak ?_))))))
       refine Al (r - (k + 1)) _ (by omega) ⟨k + 1, m, rfl, rfl, rfl, rfl, by omega, ?_⟩ Qs
       rw [AO (fun a _ b hbc => IJ p pv.length i j v F k a b (.inr ⟨by omega, hb2 k hk b hbc⟩))] at hO
       exact hO
     ·refine Qk rfl (Qk rfl (Qm rfl (Aq (Bb rfl (Ai (Aj (Ab (Ad (Qx (oA rfl) rfl (Qm rfl (Ak ?_)))))))))))
      refine Al (r - (k + 1)) _ (by omega) ⟨k + 1, m, rfl, rfl, rfl, rfl, by omega, ?_⟩ Qs
      rw [AO (fun a _ b hbc => IJ p pv.length i j v F k a b (.inl (by omega)))] at hO
      exact hO
    ·obtain rfl : k = r := by omega
     refine Aw (Aa (Aa (Af (Ab (Ax (Qm rfl (Qm rfl ?_)))))))
     refine AB [_] rfl underlying24 A8 rfl (by rfl) rfl rfl (by omega) rfl rfl rfl (fun g95 => ?_)
     refine Bm 3 hO2 (RdL.one Br (List.Mem.head _) rfl) rfl underlying24 A8 rfl (by omega) rfl rfl rfl Cv (by simp only [EF, List.length_singleton]; omega) (by simp only [EF, List.length_singleton]; omega) rfl rfl rfl (fun vp' m2' hO2' => ?_)
     rw [LV] at hO2'
     refine Qm rfl (Aq (Aw (Hf rfl (Aa (Aa (Hf rfl (Af (Ab (Ad (Qx (oA rfl) rfl (Qm rfl (Ak (A5 ?_)))))))))))))
     refine Al (c - (j + 1)) _ (by omega) ⟨j + 1, J0 p pv.length i j v F, pv ++ [j], vp', ov, m, m2', rfl, rfl, rfl, rfl, by omega, by rw [AO (fun a ha b _ => NZ p pv.length i j v F k a b ha)] at hO; exact hO, hO2', hRed.step hb.1 hi hli hjc hv1, hov⟩ Qs
  ·refine Aw (Aa (Aa (Af (Aj (Ab (Ad (Qx (oA rfl) rfl (Qm rfl (Ak ?_)))))))))
   refine Al (c - (j + 1)) _ (by omega) ⟨j + 1, F, pv, vp, ov, m, m2, rfl, rfl, rfl, rfl, by omega, hO, hO2, hRed.skip fun a ha hl => hno a hl (by omega), hov⟩ Qs
 ·obtain rfl : j = c := by omega
  refine Aw (Aa (Aa (Af (Ab (Ax (Qm rfl (Qm rfl (Qf ED rfl (Qx (oG rfl underlying42 AI (Tw rfl)) rfl (Qm rfl ?_))))))))))
  refine Sa 3 [_, _, _, _] AI rfl (by simp [e2]) ?_
  refine Qm rfl (Aq (Ao (Kx (A5 ?_))))
  exact CX (vs := [_, _, _, _]) 2 rfl rfl rfl underlying42 rfl AI rfl rfl (⟨Hp.le_trans l1 hle, F, pv, eu, vp, m, m2, rfl, rfl, hO, hO2, ⟨hRed⟩⟩)
end Go.Proofs.YtdnelknieikbaaaGreat
namespace Go.Proofs.YtdnelknieikbaaaGreat
open Go.Proofs.Tryz
open Go.Eng Go.RowKit Go.Lin
theorem Eh (p : Int) (r c : Nat) (f : Nat → Nat → Int) (ev : Value) (h : Hp) (R : RtM p r c f) (hR : RdL cI 1 h [] ev (mat r c f)) :
  FnT Tryz.prog 120 #[.agg #[.int .i64 p, .int .i64 r, .int .i64 c, ev]] h [] (fun x h' ms' => h.le h' ∧ ∃ (F : Nat → Nat → Int) (pv : List Nat) (eu vp : Value) (m m2 : Hp), x = .tuple #[.agg #[.int .i64 p, .int .i64 r, .int .i64 c, eu], vp] ∧ ms' = [m, m2] ∧ OwnL cI 1 3 m eu (mat r c F) ∧ OwnL cI 1 3 m2 vp (HY pv) ∧ Ho p r c f F pv) := by
 refine Av func120 ntmps120 rfl rfl (fun w0 hw0 => ?_)
 simp only [A4]
 refine Ax ?_
 refine AS [_, _, _, _] rfl rfl (by rfl) rfl rfl rfl (fun g1 => ?_)
 refine BZ [.int .i64 0, .int .i64 0, .int .i64 0, .slice none 0 0] rfl AI rfl rfl (fun g2 => Qm rfl (Aq (Ac (Ax (Qx (oG rfl underlying42 AI (Seg.blk 1 rfl)) rfl (Qx (AG rfl call73 rfl (Nv R hR _)) rfl (Qm rfl (Aq (Bb rfl (Ai (Ab (Ax (Qx (oG rfl underlying42 AI (Seg.blk 1 rfl)) rfl ?_)))))))))))))
 refine Qc call136 rfl (JN p r c f ev h R.pr R.rl (by have := R.cl; omega) R.en hR) (fun x h1 ms1 l1 hF => ?_)
 obtain ⟨l2, F, pv, eu, vp, m, m2, rfl, rfl, hO, hO2, hE⟩ := hF
 have oe : eu.oneCell' = true := (hO.rd (h := h) (ms := [m]) (List.Mem.head _)).rd.one
 refine Qm rfl (Qm rfl ?_)
 refine Sa 2 [_, _, _, _] AI rfl (by simp [oe]) ?_
 refine Qm rfl (Aq (Ao (AP 3 rfl ?_)))
 exact CX (vs := [_, _, _, _]) 2 rfl rfl rfl underlying42 rfl AI rfl rfl (⟨l1, F, pv, eu, vp, m, m2, rfl, rfl, hO, hO2, hE⟩)
theorem R5 (p : Int) (r c : Nat) (f : Nat → Nat → Int) (ev : Value) (h : Hp) (R : RtM p r c f) (hR : RdL cI 1 h [] ev (mat r c f)) :
  FnT Tryz.prog 96 #[.agg #[.int .i64 p, .int .i64 r, .int .i64 c, ev]] h [] (fun x h' ms' => h.le h' ∧ ms' = [] ∧ ∃ (F : Nat → Nat → Int) (pv : List Nat), x = .int .i64 pv.length ∧ Ho p r c f F pv) := by
 refine Av func96 ntmps96 rfl rfl (fun w0 hw0 => ?_)
 simp only [A4]
 refine Ax ?_
 refine AS [_, _, _, _] rfl rfl (by rfl) rfl rfl rfl (fun g1 => ?_)
 refine Qm rfl (B3 (Qx (oG rfl underlying42 AI (Seg.blk 0 rfl)) rfl (Qc call120 rfl (Eh p r c f ev h R hR) (fun x h1 ms1 l1 hF => ?_))))
 obtain ⟨l2, F, pv, eu, vp, m, m2, rfl, rfl, hO, hO2, hE⟩ := hF
 have oe : eu.oneCell' = true := (hO.rd (h := h) (ms := [m]) (List.Mem.head _)).rd.one
 refine Qm rfl (Qm rfl (Qm rfl (BZ [.int .i64 0, .int .i64 0, .int .i64 0, .slice none 0 0] rfl AI rfl rfl (fun g3 => ?_))))
 refine Sa 0 [_, _, _, _] AI rfl (by simp [oe]) ?_
 refine Qm rfl (B3 (Qm rfl (Qx (CH (DA (h := h) (ms := [m2]) hO2 (List.Mem.head _)) rfl underlying24 rfl) rfl (Qm rfl (Aq (Ao (AP 3 rfl (AP 2 rfl (AP 1 rfl (AP 0 rfl ?_))))))))))
 exact Am rfl rfl (⟨l1, rfl, F, pv, rfl, hE⟩)
theorem Rj (p : Int) (r c c' : Nat) (f g : Nat → Nat → Int) (ev eu : Value) (h : Hp) (R : RtM p r c f) (S : RtM p r c' g) (hcc : c + c' ≤ 400) (hR : RdL cI 1 h [] ev (mat r c f)) (hS : RdL cI 1 h [] eu (mat r c' g)) :
  FnT Tryz.prog 138 #[.agg #[.int .i64 p, .int .i64 r, .int .i64 c, ev], .agg #[.int .i64 p, .int .i64 r, .int .i64 c', eu]] h [] (fun x h' ms' => h.le h' ∧ ∃ v, x = .tuple #[v, .bool true] ∧ Ez v ms' (EM p r (c + c') (jn c f g))) := by
 have hb := R.bd
 have rl := R.rl
 have kl := R.cl
 have cl := S.cl
 refine Av func138 ntmps138 rfl rfl (fun w0 hw0 => ?_)
 simp only [A4]
 refine Ax ?_
 refine AS [_, _, _, _] rfl rfl (by rfl) rfl rfl rfl (fun g2 => ?_)
 refine AS [_, _, _, _] rfl rfl (by rfl) rfl rfl rfl (fun g3 => ?_)
 refine BZ [.int .i64 0, .int .i64 0, .int .i64 0, .slice none 0 0] rfl AI rfl rfl (fun g4 => Qm rfl (Aq (Ac (Ax (Qx (oG rfl underlying42 AI (Seg.blk 2 rfl)) rfl (Qx (oG rfl underlying42 AI (Seg.blk 1 rfl)) rfl (Qx (AG rfl call121 rfl (MT R S hR hS _)) rfl (Qm rfl (Qm rfl (Qg (oF Bh rfl) rfl (Qg (oL rfl underlying3 (Cell.blk 2 rfl rfl)) rfl (Qg (oF Bh rfl) rfl (Qg (oL rfl underlying3 (Cell.blk 1 rfl rfl)) rfl (Qg (B4 rfl rfl rfl) rfl (Qm rfl (Qm rfl ?_))))))))))))))))
 refine AR (t := 17) rfl (fun hs => ?_) (fun hs => ?_)
 ·exact absurd hs (by simp)
 ·refine Qg (oF A0 rfl) rfl (Qg (oL rfl underlying3 (Cell.blk 2 rfl rfl)) rfl (Qg (oF A0 rfl) rfl (Qg (oL rfl underlying3 (Cell.blk 1 rfl rfl)) rfl (Qg (oA rfl) rfl (Qg (Dd rfl rfl rfl) rfl (Qm rfl (Aq (AF rfl (fun hc => absurd hc (by omega)) (fun hc => Ai (Ab (Ax (Qx (oG rfl underlying42 AI (Seg.blk 2 rfl)) rfl (Qx (oG rfl underlying42 AI (Seg.blk 1 rfl)) rfl (Qc call137 rfl (NC p r c c' f g ev eu h R S hR hS) (fun v h1 ms1 l1 hF => ?_)))))))))))))))
  obtain ⟨l2, ew, m, rfl, rfl, hO⟩ := hF
  have oe : ew.oneCell' = true := (hO.rd (h := h) (ms := [m]) (List.Mem.head _)).rd.one
  refine Sa 1 [_, _, _, _] AI rfl (by simp [oe]) ?_
  refine Qm rfl (Aq (Ao (AP 3 rfl (AP 2 rfl ?_))))
  exact CX (vs := [_, _, _, _]) 1 rfl rfl rfl underlying42 rfl AI rfl rfl (⟨l2, _, rfl, ew, m, rfl, rfl, hO⟩)
end Go.Proofs.YtdnelknieikbaaaGreat
namespace Go.Proofs.YtdnelknieikbaaaGreat
open Go.Proofs.Tryz
open Go.Eng Go.RowKit Go.Lin
theorem J7 {h : Hp} {ms : List Hp} {m2 : Hp} {vp : Value} {pv : List Nat} (O : OwnL cI 1 3 m2 vp (HY pv)) (hm : m2 ∈ ms) {k : Nat} (hk : k < pv.length) : Cell h ms ((Bl vp).add (k * 1)) (.int .i64 ((pv.getD k 0 : Nat) : Int)) := by
 have hl : k < (HY pv).length := by rw [EF]; exact hk
 have := (O.rd (h := h) hm).cell0 hl (u := .int .i64 (HY pv)[k]) rfl
 have e : (HY pv)[k] = ((pv.getD k 0 : Nat) : Int) := by simp [HY, List.getD_eq_getElem?_getD, hk]
 rw [e] at this
 exact this
theorem Cn {pv : List Nat} {k : Nat} (hk : k < pv.length) : pv.getD k 0 = pv[k] := by simp [List.getD_eq_getElem?_getD, hk]
def FL (pv : List Nat) (f : Nat → Nat → Int) (a b : Nat) : Int := f a (pv.getD b 0)
def IR (pv : List Nat) (f : Nat → Nat → Int) (i k a b : Nat) : Int := if a < i ∨ (a = i ∧ b < k) then FL pv f a b else 0
theorem OW (pv : List Nat) (f : Nat → Nat → Int) (i k a b : Nat) : DB (IR pv f i k) i k (f i (pv.getD k 0)) a b = IR pv f i (k + 1) a b := by
 unfold DB IR
 by_cases h : a = i ∧ b = k
 ·obtain ⟨rfl, rfl⟩ := h
  rw [if_pos ⟨rfl, rfl⟩, if_pos (by omega)]; rfl
 ·rw [if_neg h]
  by_cases h2 : a < i ∨ (a = i ∧ b < k)
  ·rw [if_pos h2, if_pos (by omega)]
  ·rw [if_neg h2, if_neg (by omega)]
theorem QG (pv : List Nat) (f : Nat → Nat → Int) (i n a b : Nat) (hb : b < n) : IR pv f i n a b = IR pv f (i + 1) 0 a b := by
 unfold IR
 by_cases h2 : a < i ∨ (a = i ∧ b < n)
 ·rw [if_pos h2, if_pos (by omega)]
 ·rw [if_neg h2, if_neg (by omega)]
theorem O7 (pv : List Nat) (f : Nat → Nat → Int) (a b : Nat) : IR pv f 0 0 a b = 0 := if_neg (by omega)
theorem Sv (pv : List Nat) (f : Nat → Nat → Int) (r a b : Nat) (ha : a < r) : IR pv f r 0 a b = FL pv f a b := if_pos (.inl ha)
theorem Li (p : Int) (r c : Nat) (f : Nat → Nat → Int) (ev : Value) (h : Hp) (R : RtM p r c f) (hR : RdL cI 1 h [] ev (mat r c f)) :
  FnT Tryz.prog 133 #[.agg #[.int .i64 p, .int .i64 r, .int .i64 c, ev]] h [] (fun x h' ms' => h.le h' ∧ ∃ (F : Nat → Nat → Int) (pv : List Nat), Ho p r c f F pv ∧ Ez x ms' (EM p r pv.length (FL pv f))) := by
 have hb := R.bd
 have rl := R.rl
 have cl := R.cl
 have o1 := hR.rd.one
 refine Av func133 ntmps133 rfl rfl (fun w0 hw0 => ?_)
 simp only [A4]
 refine Ax ?_
 refine AS [_, _, _, _] rfl rfl (by rfl) rfl rfl rfl (fun g1 => ?_)
 refine BD fun h1 l1 hS => ?_
 have hR := hR.up l1
 have hA := Seg.all hS
 have hA0 := hA 0 _ rfl
 refine BZ [.int .i64 0, .int .i64 0, .int .i64 0, .slice none 0 0] rfl AI rfl rfl (fun g2 => B3 (Qx (oG rfl underlying42 AI (Seg.any hS)) rfl (Qc call120 rfl (Eh p r c f ev h1 R hR) (fun x h2 ms1 l2 hF => ?_))))
 obtain ⟨l2, F, pv, eu, vp, m, m2, rfl, rfl, hO, hO2, hE⟩ := hF
 have hR := hR.up l2
 have hA : ∀ i v, ([Value.int .i64 p, .int .i64 r, .int .i64 c, ev] : List Value)[i]? = some v → ∀ ms, Cell h2 ms ((⟨g1, 0, none⟩ : Addr).add i) v := fun i v hv => Seg.all (hS.le l2) i v hv
 have hA0 := hA 0 _ rfl
 have oe : eu.oneCell' = true := (hO.rd (h := h) (ms := [m]) (List.Mem.head _)).rd.one
 have ovp : vp.oneCell' = true := (hO2.rd (h := h) (ms := [m2]) (List.Mem.head _)).rd.one
 have hlen := hE.red.len
 refine Qm rfl (Qm rfl (Qm rfl (BZ [.int .i64 0, .int .i64 0, .int .i64 0, .slice none 0 0] rfl AI rfl rfl (fun g3 => ?_))))
 refine Sa 0 [_, _, _, _] AI rfl (by simp [oe]) ?_
 refine Qm rfl (Aq (Ac (Ax (Qf BE rfl (Ql rfl underlying3 (Cell.blk 0 rfl rfl) (Qm rfl (Aq (AF rfl (fun hc => absurd hc (by omega)) (fun hc => Ai (Ab (Ax (Qf BE rfl (Ql rfl underlying3 (hA0 _) (Qf Bh rfl (Ql rfl underlying3 (hA _ _ rfl _) (Qm rfl (Qx (CH (DA (h := h) (ms := [m2]) hO2 (List.Mem.head _)) rfl underlying24 rfl) rfl (Qc call106 rfl (GB p r pv.length h2 R.i64) (fun v h3 ms3 l3 hF => ?_)))))))))))))))))))
 obtain ⟨rfl, ew, mz, rfl, rfl, hOz⟩ := hF
 rw [DO R.pr rl (by omega)] at hOz ⊢
 have ow : ew.oneCell' = true := (hOz.rd (h := h) (ms := [mz]) (List.Mem.head _)).rd.one
 refine BZ [.int .i64 0, .int .i64 0, .int .i64 0, .slice none 0 0] rfl AI rfl rfl (fun g5 => ?_)
 refine Sa 0 [_, _, _, _] AI rfl (by simp [ow]) ?_
 refine Aq (Ac (Ax (Qf Bh rfl (Ql rfl underlying3 (hA _ _ rfl _) (Qm rfl (Aq (Ag ?_)))))))
 refine AD (fun q s hh ms' => ∃ (i : Nat) (mz : Hp), q = r - i ∧ s = [(1, .pointer (some ⟨g1, 0, none⟩)), (2, .pointer (some ⟨g2, 0, none⟩)), (4, vp), (5, .pointer (some ⟨g5, 0, none⟩)), (26, .int .i64 r), (27, .int .i64 i)] ∧ h2 = hh ∧ ms' = [AX g5 42 [.int .i64 p, .int .i64 r, .int .i64 pv.length, ew], mz, AX g3 42 [.int .i64 p, .int .i64 r, .int .i64 c, eu], m, m2, AX g2 42 [.int .i64 0, .int .i64 0, .int .i64 0, .slice none 0 0]] ∧ i ≤ r ∧ OwnL cI 1 3 mz ew (mat r pv.length (IR pv f i 0)))
  (r - 0) _ ⟨0, mz, rfl, rfl, rfl, rfl, by omega, by rw [AO (fun a _ b _ => O7 pv f a b)]; exact hOz⟩ Qs ?_
 rintro q s hh ms' ⟨i, mz, rfl, rfl, rfl, rfl, hi, hOz⟩
 refine Ax (Qm rfl (Aq (Ac ?_)))
 refine AF rfl (fun hlt => ?_) (fun hlt => ?_)
 ·have hir : i < r := by omega
  refine Ai (Ab (Ac (Ag (Ax (Qm rfl (Qm rfl (B3 (Qm rfl (Qx (CH (DA (h := h) (ms := [m2]) hO2 (List.Mem.head _)) rfl underlying24 rfl) rfl (Qm rfl (Aq (Ag ?_))))))))))))
  refine AD (fun q s hh ms' => ∃ (k : Nat) (mz : Hp), q = pv.length - k ∧ s = [(1, .pointer (some ⟨g1, 0, none⟩)), (2, .pointer (some ⟨g2, 0, none⟩)), (4, vp), (5, .pointer (some ⟨g5, 0, none⟩)), (6, .int .i64 i), (26, .int .i64 r), (27, .int .i64 i), (30, vp), (31, .int .i64 pv.length), (32, .int .i64 k)] ∧ h2 = hh ∧ ms' = [AX g5 42 [.int .i64 p, .int .i64 r, .int .i64 pv.length, ew], mz, AX g3 42 [.int .i64 p, .int .i64 r, .int .i64 c, eu], m, m2, AX g2 42 [.int .i64 0, .int .i64 0, .int .i64 0, .slice none 0 0]] ∧ k ≤ pv.length ∧ OwnL cI 1 3 mz ew (mat r pv.length (IR pv f i k)))
   (pv.length - 0) _ ⟨0, mz, rfl, rfl, rfl, rfl, by omega, hOz⟩ Qs ?_
  rintro q s hh ms' ⟨k, mz, rfl, rfl, rfl, rfl, hk, hOz⟩
  refine Ax (Qm rfl (Aq (Ac ?_)))
  refine AF rfl (fun hlt2 => ?_) (fun hlt2 => ?_)
  ·have hkl : k < pv.length := by omega
   have hpc : pv.getD k 0 < c := by rw [Cn hkl]; exact hE.red.lt k hkl
   have hix := Cp hir hkl
   have hix2 := Cp hir hpc
   have hrc : r * c ≤ 400 * 400 := Nat.mul_le_mul rl cl
   have hrn : r * pv.length ≤ 400 * 400 := Nat.mul_le_mul rl (by omega)
   have el : (mat r c f).length = r * c := AY _ _ _
   have el2 : (mat r pv.length (IR pv f i k)).length = r * pv.length := AY _ _ _
   refine Ai (Ab (Ac (Ag (Ax (Qm rfl (Qx (Bo _ (DA (h := h) (ms := [m2]) hO2 (List.Mem.head _)) rfl underlying24 A8 rfl rfl rfl (by omega)) rfl ?_))))))
   refine Ql rfl underlying3 (J7 hO2 (by simp) hkl) ?_
   refine Qm rfl (Qm rfl (Aq (BB 18 Cd (by kernel_rfl) rfl (Wf Bc rfl (Wl rfl underlying24 (Cell.blk 0 rfl rfl) (Wm rfl (Wm rfl (AV (CH (DA (h := h) (ms := [m2]) hO2 (List.Mem.head _)) rfl underlying24 rfl) rfl rfl (AV (oM rfl) rfl rfl (Wm rfl (AV (oA rfl) rfl rfl (Wf Bc rfl (Wl rfl underlying24 (hA _ _ rfl _) (Wm rfl (Wf A0 rfl (Wl rfl underlying3 (hA _ _ rfl _) (AV (oM rfl) rfl rfl (Wm rfl (AV (oA rfl) rfl rfl (AV (Ah (i * c + pv.getD k 0) hR.rd.any rfl underlying24 A8 rfl rfl (by omega) (by omega)) rfl rfl (Wl rfl underlying3 (hR.any.ent hir hpc) (BC (Qx (Ah (i * pv.length + k) (hOz.rd (List.Mem.tail _ (List.Mem.head _))).rd rfl underlying24 A8 rfl rfl (by omega) (by omega)) rfl (Bu 1 (i * pv.length + k) hOz rfl A8 rfl rfl rfl (by omega) rfl rfl (fun m' hO' => Ak (Aj (Ab (Ad (Qx (oA rfl) rfl (Qm rfl (Ak ?_)))))))))))))))))))))))))))))))
   refine Al (pv.length - (k + 1)) _ (by omega) ⟨k + 1, m', rfl, rfl, rfl, rfl, by omega, ?_⟩ Qs
   rw [C4 _ hkl, AO (fun a _ b _ => OW pv f i k a b)] at hO'
   exact hO'
  ·refine Aw (Aa (Aa (Af (Aj (Ab (Ad (Qx (oA rfl) rfl (Qm rfl (Ak ?_)))))))))
   refine Al (r - (i + 1)) _ (by omega) ⟨i + 1, mz, rfl, rfl, rfl, rfl, by omega, ?_⟩ Qs
   rw [show k = pv.length by omega, AO (fun a _ b hb => QG pv f i pv.length a b hb)] at hOz
   exact hOz
 ·refine Aw (Aa (Aa (Af (Ab (Ax (Qx (oG rfl underlying42 AI (Seg.blk 0 rfl)) rfl ?_))))))
  refine Sa 5 [_, _, _, _] AI rfl (by simp [ow]) ?_
  refine Aq (Ao (AP 4 rfl (AP 3 rfl (AP 2 rfl (AP 0 rfl ?_)))))
  exact Cl (vs := [_, _, _, _]) 1 rfl rfl underlying42 rfl AI rfl rfl (⟨Hp.le_trans l1 l2, F, pv, hE, ew, mz, rfl, rfl, by rw [show i = r by omega, AO (fun a ha b _ => Sv pv f r a b ha)] at hOz; exact hOz⟩)
end Go.Proofs.YtdnelknieikbaaaGreat
namespace Go.Proofs.YtdnelknieikbaaaGreat
open Go.Proofs.Tryz
open Go.Eng Go.RowKit Go.Lin
theorem QT (l : List Int) (x : Int) (vl : Value) (h : Hp) (hR : RdL cI 1 h [] vl l) :
  FnT Tryz.prog 145 #[vl, .int .i64 x] h [] (fun r _ _ => r = .int .i64 (TE l fun y => decide (x = y))) := by
 have hl := hR.len_le
 refine Av func145 ntmps145 rfl rfl (fun w0 hw0 => ?_)
 simp only [A4]
 refine Ax (Qm rfl (Aq (Ac (Ax (Qm rfl (Qx (AJ hR.rd.any rfl underlying24 rfl) rfl (Qm rfl (Aq (Ag ?_)))))))))
 refine AD (fun n s h' ms' => ∃ (k : Nat), n = l.length - k ∧ s = [(0, vl), (1, .int .i64 x), (7, .int .i64 l.length), (8, .int .i64 k)] ∧ h = h' ∧ ms' = [] ∧ k ≤ l.length ∧ ∀ j (hj : j < l.length), j < k → decide (x = l[j]) = false)
  (l.length - 0) _ ⟨0, rfl, rfl, rfl, rfl, by omega, fun j hj h => by omega⟩ Qs ?_
 rintro n s h' ms' ⟨k, rfl, rfl, rfl, rfl, hk, hno⟩
 refine Ax (Qm rfl (Aq (Ac ?_)))
 refine AF rfl (fun hlt => ?_) (fun hlt => ?_)
 ·have hlt' : k < l.length := by omega
  refine Ai (Ab (Ac (Ag (Ax (Qm rfl (Qm rfl (B3 (Qm rfl (Qm rfl (Qm rfl (Qx (Ah _ hR.rd.any rfl underlying24 A8 rfl rfl rfl (by omega)) rfl (Ql rfl underlying3 (hR.any.cell0 hlt' rfl) (Qm rfl (Aq ?_))))))))))))))
  refine AF rfl (fun hpk => ?_) (fun hpk => ?_)
  ·refine Ac (Ad (Qm rfl (Qm rfl (Aq (Ao (Ap (Ae (Ae (Ap (Ae ?_))))))))))
   exact Am rfl rfl (by rw [GA hlt' (decide_eq_true hpk) fun j hj => hno j _ hj])
  ·refine Ai (Aj (Ab (Ad (Qx (oA rfl) rfl (Qm rfl (Ak ?_))))))
   refine Al (l.length - (k + 1)) _ (by omega) ⟨k + 1, rfl, rfl, rfl, rfl, by omega, fun j hj h1 => ?_⟩ Qs
   rcases (by omega : j < k ∨ j = k) with h2 | rfl
   ·exact hno j hj h2
   ·exact decide_eq_false hpk
 ·refine Aw (Aa (Aa (Af (Ab (Ax (Qm rfl (Aq (Ao ?_))))))))
  exact Am rfl rfl (by rw [Hc fun j hj => hno j hj (by omega)])
theorem JY (pv : List Nat) (j : Nat) : ((HY pv).any fun y => decide ((j : Int) = y)) = pv.contains j := by
 rw [Bool.eq_iff_iff, List.any_eq_true, List.contains_iff_mem]
 constructor
 ·rintro ⟨x, hx, he⟩
  obtain ⟨k, hk, rfl⟩ := List.mem_map.1 hx
  have : j = k := by have := of_decide_eq_true he; omega
  rw [this]; exact hk
 ·exact fun h => ⟨j, List.mem_map.2 ⟨j, h, rfl⟩, decide_eq_true rfl⟩
theorem LH (pv : List Nat) (j : Nat) (vl : Value) (h : Hp) (hR : RdL cI 1 h [] vl (HY pv)) :
  FnT Tryz.prog 135 #[vl, .int .i64 j] h [] (fun r _ _ => r = .bool (pv.contains j)) := by
 refine Av func135 ntmps135 rfl rfl (fun w0 hw0 => ?_)
 simp only [A4]
 refine Ax (Qm rfl (B3 (Qm rfl (Qm rfl (Qx (AG rfl call145 rfl (Ds (QT (HY pv) j vl h hR) _)) rfl (Qm rfl (Qm rfl (Aq (Ao ?_)))))))))
 exact Am rfl rfl (by rw [N0, JY])
def L5 (pv : List Nat) (p : Int) (F : Nat → Nat → Int) (j i a : Nat) : Int := if a = j then 1 else if pv.idxOf a < i then (p - F (pv.idxOf a) j) % p else 0
def Fy (pv : List Nat) (p : Int) (F : Nat → Nat → Int) (c a s : Nat) : Int := L5 pv p F ((Er pv c).getD s 0) pv.length a
def LL (pv : List Nat) (p : Int) (F : Nat → Nat → Int) (c n a s : Nat) : Int := if s < n then Fy pv p F c a s else 0
def KF (pv : List Nat) (p : Int) (F : Nat → Nat → Int) (c n j i a s : Nat) : Int := if s < n then Fy pv p F c a s else if s = n then L5 pv p F j i a else 0
theorem OM (pv : List Nat) (p : Int) (F : Nat → Nat → Int) (c n j a s : Nat) : DB (LL pv p F c n) j n 1 a s = KF pv p F c n j 0 a s := by
 unfold DB LL KF L5
 by_cases h1 : s < n
 ·rw [if_neg (by omega), if_pos h1, if_pos h1]
 ·rw [if_neg h1, if_neg h1]
  by_cases h2 : s = n
  ·rw [if_pos h2]
   by_cases h3 : a = j
   ·rw [if_pos ⟨h3, h2⟩, if_pos h3]
   ·rw [if_neg (fun h => h3 h.1), if_neg h3, if_neg (by omega)]
  ·rw [if_neg (fun h => h2 h.2), if_neg h2]
theorem Pz {pv : List Nat} (hs : pv.Pairwise (· < ·)) (p : Int) (F : Nat → Nat → Int) (c n j i a s : Nat) (hi : i < pv.length) (hj : j ∉ pv) : DB (KF pv p F c n j i) (pv.getD i 0) n ((p - F i j) % p) a s = KF pv p F c n j (i + 1) a s := by
 have hg := Cn hi
 have hnd : pv.Nodup := List.Pairwise.imp (fun h => Nat.ne_of_lt h) hs
 have hio : pv.idxOf pv[i] = i := hnd.idxOf_getElem i hi
 have hne : pv.getD i 0 ≠ j := fun h => hj (by rw [← h, hg]; exact List.getElem_mem hi)
 unfold DB KF L5
 by_cases h1 : s < n
 ·rw [if_neg (by omega), if_pos h1, if_pos h1]
 ·rw [if_neg h1, if_neg h1]
  by_cases h2 : s = n
  ·rw [if_pos h2, if_pos h2]
   by_cases h3 : a = pv.getD i 0
   ·rw [if_pos ⟨h3, h2⟩, if_neg (by rw [h3]; exact hne), h3, hg, hio, if_pos (by omega)]
   ·rw [if_neg (fun h => h3 h.1)]
    by_cases h4 : a = j
    ·rw [if_pos h4, if_pos h4]
    ·rw [if_neg h4, if_neg h4]
     have h5 : pv.idxOf a ≠ i := fun h => h3 (by
      have hlt : pv.idxOf a < pv.length := by omega
      rw [hg]
      have := List.getElem_idxOf hlt
      subst h
      exact this.symm)
     by_cases h6 : pv.idxOf a < i
     ·rw [if_pos h6, if_pos (by omega)]
     ·rw [if_neg h6, if_neg (by omega)]
  ·rw [if_neg (fun h => h2 h.2), if_neg h2, if_neg h2]
theorem Se (pv : List Nat) (p : Int) (F : Nat → Nat → Int) (c n j a s : Nat) (hn : (Er pv c).getD n 0 = j) : KF pv p F c n j pv.length a s = LL pv p F c (n + 1) a s := by
 unfold KF LL
 by_cases h1 : s < n
 ·rw [if_pos h1, if_pos (by omega)]
 ·rw [if_neg h1]
  by_cases h2 : s = n
  ·rw [if_pos h2, if_pos (by omega), h2]; unfold Fy; rw [hn]
  ·rw [if_neg h2, if_neg (by omega)]
theorem Ow (pv : List Nat) (p : Int) (F : Nat → Nat → Int) (c a s : Nat) : LL pv p F c 0 a s = 0 := if_neg (by omega)
theorem R3 (pv : List Nat) (p : Int) (F : Nat → Nat → Int) (c n a s : Nat) (hs : s < n) : LL pv p F c n a s = Fy pv p F c a s := if_pos hs
theorem Oh (p : Int) (r c : Nat) (f : Nat → Nat → Int) (ev : Value) (h : Hp) (R : RtM p r c f) (hR : RdL cI 1 h [] ev (mat r c f)) :
  FnT Tryz.prog 114 #[.agg #[.int .i64 p, .int .i64 r, .int .i64 c, ev]] h [] (fun x h' ms' => h.le h' ∧ ∃ (F : Nat → Nat → Int) (pv : List Nat) (n : Nat), Ho p r c f F pv ∧ n + pv.length = c ∧ Ez x ms' (EM p c n (Fy pv p F c))) := by
 have hb := R.bd
 have rl := R.rl
 have cl := R.cl
 have o1 := hR.rd.one
 refine Av func114 ntmps114 rfl rfl (fun w0 hw0 => ?_)
 simp only [A4]
 refine Ax ?_
 refine AS [_, _, _, _] rfl rfl (by rfl) rfl rfl rfl (fun g1 => ?_)
 refine BD fun h1 l1 hS => ?_
 have hR := hR.up l1
 have hA := Seg.all hS
 have hA0 := hA 0 _ rfl
 refine BZ [.int .i64 0, .int .i64 0, .int .i64 0, .slice none 0 0] rfl AI rfl rfl (fun g2 => B3 (Qx (oG rfl underlying42 AI (Seg.any hS)) rfl (Qc call120 rfl (Eh p r c f ev h1 R hR) (fun x h2 ms1 l2 hF => ?_))))
 obtain ⟨l2, F, pv, eu, vp, m, m2, rfl, rfl, hO, hO2, hE⟩ := hF
 have hA : ∀ i v, ([Value.int .i64 p, .int .i64 r, .int .i64 c, ev] : List Value)[i]? = some v → ∀ ms, Cell h2 ms ((⟨g1, 0, none⟩ : Addr).add i) v := fun i v hv => Seg.all (hS.le l2) i v hv
 have hA0 := hA 0 _ rfl
 have oe : eu.oneCell' = true := (hO.rd (h := h) (ms := [m]) (List.Mem.head _)).rd.one
 have ovp : vp.oneCell' = true := (hO2.rd (h := h) (ms := [m2]) (List.Mem.head _)).rd.one
 have hlen := hE.red.len
 have hsort := hE.red.sorted
 have hlt := fun k hk => hE.red.lt k hk
 have hfa : (Er pv c).length + pv.length = c := Oc hsort fun a ha => by
  obtain ⟨k, hk, rfl⟩ := List.mem_iff_getElem.1 ha
  exact hlt k hk
 generalize hn : (Er pv c).length = n at hfa
 refine Qm rfl (Qm rfl (Qm rfl (BZ [.int .i64 0, .int .i64 0, .int .i64 0, .slice none 0 0] rfl AI rfl rfl (fun g3 => ?_))))
 refine Sa 0 [_, _, _, _] AI rfl (by simp [oe]) ?_
 refine Qm rfl (Aq (Ac (Ax (Qf BE rfl (Ql rfl underlying3 (Cell.blk 0 rfl rfl) (Qm rfl (Aq (AF rfl (fun hc => absurd hc (by omega)) (fun hc => Ai (Ab (Ax (Qf BE rfl (Ql rfl underlying3 (hA0 _) (Qf A0 rfl (Ql rfl underlying3 (hA _ _ rfl _) (Qf A0 rfl (Ql rfl underlying3 (hA _ _ rfl _) (Qm rfl (Qx (CH (DA (h := h) (ms := [m2]) hO2 (List.Mem.head _)) rfl underlying24 rfl) rfl (Qx (oS rfl) rfl (Qc call106 rfl (GB p c _ h2 R.i64) (fun v h3 ms3 l3 hF => ?_))))))))))))))))))))))
 rw [show (c : Int) - pv.length = (n : Int) by omega] at hF
 obtain ⟨rfl, ew, mz, rfl, rfl, hOz⟩ := hF
 rw [DO R.pr cl (by omega)] at hOz ⊢
 have ow : ew.oneCell' = true := (hOz.rd (h := h) (ms := [mz]) (List.Mem.head _)).rd.one
 refine BZ [.int .i64 0, .int .i64 0, .int .i64 0, .slice none 0 0] rfl AI rfl rfl (fun g5 => ?_)
 refine Sa 0 [_, _, _, _] AI rfl (by simp [ow]) ?_
 refine B3 (Qm rfl (Aq (Ac (Ax (Qf A0 rfl (Ql rfl underlying3 (hA _ _ rfl _) (Qm rfl (Aq (Ag ?_)))))))))
 refine AD (fun q s hh ms' => ∃ (j : Nat) (mz : Hp) (k : Nat), q = c - j ∧ s = [(1, .pointer (some ⟨g1, 0, none⟩)), (2, .pointer (some ⟨g2, 0, none⟩)), (3, .pointer (some ⟨g3, 0, none⟩)), (4, vp), (5, .pointer (some ⟨g5, 0, none⟩)), (6, .int .i64 k), (30, .int .i64 c), (31, .int .i64 j)] ∧ h2 = hh ∧ ms' = [AX g5 42 [.int .i64 p, .int .i64 c, .int .i64 n, ew], mz, AX g3 42 [.int .i64 p, .int .i64 r, .int .i64 c, eu], m, m2, AX g2 42 [.int .i64 0, .int .i64 0, .int .i64 0, .slice none 0 0]] ∧ j ≤ c ∧ k = (Er pv j).length ∧ OwnL cI 1 3 mz ew (mat c n (LL pv p F c k)))
  (c - 0) _ ⟨0, mz, 0, rfl, rfl, rfl, rfl, by omega, rfl, by rw [AO (fun a _ b _ => Ow pv p F c a b)]; exact hOz⟩ Qs ?_
 rintro q s hh ms' ⟨j, mz, k, rfl, rfl, rfl, rfl, hj, hk, hOz⟩
 refine Ax (Qm rfl (Aq (Ac ?_)))
 refine AF rfl (fun hlt1 => ?_) (fun hlt1 => ?_)
 ·have hjc : j < c := by omega
  refine Ai (Ab (Ac (Ag (Ax (Qm rfl (Qm rfl (Aq (Ac (Ax (Qm rfl (Qm rfl (Qx (AG rfl call135 rfl (CN fun h' hl hm => FnT.toV (LH pv j vp h' (hO2.rdh (hm _ (List.Mem.tail _ (List.Mem.tail _ (List.Mem.tail _ (List.Mem.tail _ (List.Mem.head _)))))))))) rfl (Aq ?_)))))))))))))
  refine BJ rfl (fun hcon => ?_) (fun hcon => ?_)
  ·refine Aw (Aa (Af (Ab (Ad (Qx (oA rfl) rfl (Qm rfl (Ak ?_)))))))
   refine Al (c - (j + 1)) _ (by omega) ⟨j + 1, mz, k, rfl, rfl, rfl, rfl, by omega, by rw [Vy hcon]; exact hk, hOz⟩ Qs
  ·obtain ⟨hat, hkl⟩ := UR hjc hcon
   have hjp : j ∉ pv := by
    intro hm
    rw [List.contains_iff_mem.2 hm] at hcon
    cases hcon
   rw [← hk] at hat
   have hkn : k < n := by omega
   have hix := Cp hjc hkn
   have hcn : c * n ≤ 400 * 400 := Nat.mul_le_mul cl (by omega)
   have el2 : (mat c n (LL pv p F c k)).length = c * n := AY _ _ _
   refine Ai (Ab (Ax (Qf Bc rfl (Ql rfl underlying24 (Cell.blk 0 rfl rfl) (Qm rfl (Qf A0 rfl (Ql rfl underlying3 (Cell.blk 0 rfl rfl) (Qx (oM rfl) rfl (Qm rfl (Qx (oA rfl) rfl (Qx (Ah (j * n + k) (hOz.rd (List.Mem.tail _ (List.Mem.head _))).rd rfl underlying24 A8 rfl rfl (by omega) (by omega)) rfl (Bu 1 (j * n + k) hOz rfl A8 rfl rfl rfl (by omega) rfl rfl (fun mz1 hOz1 => ?_)))))))))))))
   rw [C4 _ hkn, AO (fun a _ b _ => OM pv p F c k j a b)] at hOz1
   refine Aq (Ac (Ax (Qm rfl (Qx (CH (DA (h := h) (ms := [m2]) hO2 (List.Mem.head _)) rfl underlying24 rfl) rfl (Qm rfl (Aq (Ag ?_)))))))
   refine AD (fun q s hh ms' => ∃ (i : Nat) (mz : Hp), q = pv.length - i ∧ s = [(1, .pointer (some ⟨g1, 0, none⟩)), (2, .pointer (some ⟨g2, 0, none⟩)), (3, .pointer (some ⟨g3, 0, none⟩)), (4, vp), (5, .pointer (some ⟨g5, 0, none⟩)), (6, .int .i64 k), (7, .int .i64 j), (30, .int .i64 c), (31, .int .i64 j), (46, vp), (47, .int .i64 pv.length), (48, .int .i64 i)] ∧ h2 = hh ∧ ms' = [AX g5 42 [.int .i64 p, .int .i64 c, .int .i64 n, ew], mz, AX g3 42 [.int .i64 p, .int .i64 r, .int .i64 c, eu], m, m2, AX g2 42 [.int .i64 0, .int .i64 0, .int .i64 0, .slice none 0 0]] ∧ i ≤ pv.length ∧ OwnL cI 1 3 mz ew (mat c n (KF pv p F c k j i)))
    (pv.length - 0) _ ⟨0, mz1, rfl, rfl, rfl, rfl, by omega, hOz1⟩ Qs ?_
   rintro q s hh ms' ⟨i, mz, rfl, rfl, rfl, rfl, hi, hOz⟩
   refine Ax (Qm rfl (Aq (Ac ?_)))
   refine AF rfl (fun hlt2 => ?_) (fun hlt2 => ?_)
   ·have hil : i < pv.length := by omega
    have hir : i < r := by omega
    have hpc : pv.getD i 0 < c := by rw [Cn hil]; exact hlt i hil
    have hix := Cp hpc hkn
    have hix2 := Cp hir hjc
    have hrc : r * c ≤ 400 * 400 := Nat.mul_le_mul rl cl
    have hFb := hE.red.bd i hir j hjc
    have el : (mat r c F).length = r * c := AY _ _ _
    have el2 : (mat c n (KF pv p F c k j i)).length = c * n := AY _ _ _
    refine Ai (Ab (Ac (Ag (Ax (Qm rfl (Qx (Bo _ (DA (h := h) (ms := [m2]) hO2 (List.Mem.head _)) rfl underlying24 A8 rfl rfl rfl (by omega)) rfl ?_))))))
    refine Ql rfl underlying3 (J7 hO2 (by simp) hil) ?_
    refine Qm rfl (Qm rfl (Aq (BB 24 Cd (by kernel_rfl) rfl (Wf Bc rfl (Wl rfl underlying24 (Cell.blk 0 rfl rfl) (Wm rfl (Wf A0 rfl (Wl rfl underlying3 (Cell.blk 0 rfl rfl) (AV (oM rfl) rfl rfl (Wm rfl (AV (oA rfl) rfl rfl (Wf BE rfl (Wl rfl underlying3 (hA0 _) (Wf Bc rfl (Wl rfl underlying24 (Cell.blk 2 rfl rfl) (Wm rfl (Wf A0 rfl (Wl rfl underlying3 (hA _ _ rfl _) (AV (oM rfl) rfl rfl (Wm rfl (AV (oA rfl) rfl rfl (AV (Ah (i * c + j) (hO.rd (List.Mem.tail _ (List.Mem.tail _ (List.Mem.tail _ (List.Mem.head _))))).rd rfl underlying24 A8 rfl rfl (by omega) (by omega)) rfl rfl ?_))))))))))))))))))))))
    refine Wl rfl underlying3 ((hO.rd (by simp)).ent hir hjc) ?_
    refine AV (oS rfl) rfl rfl (Wf BE rfl (Wl rfl underlying3 (hA0 _) (AV (B0 rfl rfl rfl (by omega) (by omega)) rfl rfl (BC (Qx (Ah (pv.getD i 0 * n + k) (hOz.rd (List.Mem.tail _ (List.Mem.head _))).rd rfl underlying24 A8 rfl rfl (by omega) (by omega)) rfl (Bu 1 (pv.getD i 0 * n + k) hOz rfl A8 rfl rfl rfl (by omega) rfl rfl (fun m' hO' => Ak (Aj (Ab (Ad (Qx (oA rfl) rfl (Qm rfl (Ak ?_)))))))))))))
    refine Al (pv.length - (i + 1)) _ (by omega) ⟨i + 1, m', rfl, rfl, rfl, rfl, by omega, ?_⟩ Qs
    rw [C4 _ hkn, AO (fun a _ b _ => Pz hsort p F c k j i a b hil hjp)] at hO'
    exact hO'
   ·refine Aw (Aa (Aa (Af (Ab (Ad (Qm rfl (Qx (oA rfl) rfl (Qm rfl (Ak (Aj (Ab (Ad (Qx (oA rfl) rfl (Qm rfl (Ak ?_)))))))))))))))
    refine Al (c - (j + 1)) _ (by omega) ⟨j + 1, mz, k + 1, rfl, rfl, rfl, rfl, by omega, by rw [Nm hcon, List.length_append, hk]; rfl, ?_⟩ Qs
    rw [show i = pv.length by omega, AO (fun a _ b _ => Se pv p F c k j a b hat)] at hOz
    exact hOz
 ·refine Aw (Aa (Aa (Af (Ab (Ax (Qx (oG rfl underlying42 AI (Seg.blk 0 rfl)) rfl ?_))))))
  refine Sa 5 [_, _, _, _] AI rfl (by simp [ow]) ?_
  refine Aq (Ao ?_)
  obtain rfl : j = c := by omega
  refine AP 4 rfl (AP 3 rfl (AP 2 rfl (AP 0 rfl ?_)))
  exact Cl (vs := [_, _, _, _]) 1 rfl rfl underlying42 rfl AI rfl rfl (⟨Hp.le_trans l1 l2, F, pv, n, hE, hfa, ew, mz, rfl, rfl, by rw [show k = n by omega, AO (fun a _ b hb => R3 pv p F j n a b hb)] at hOz; exact hOz⟩)
end Go.Proofs.YtdnelknieikbaaaGreat
namespace Go.Proofs.YtdnelknieikbaaaGreat
open Go.Proofs.Tryz
open Go.Eng Go.RowKit Go.Lin
def H9 (pv : List Nat) (F : Nat → Nat → Int) (c i a s : Nat) : Int := if pv.idxOf a < i then F (pv.idxOf a) (c + s) else 0
def CB (pv : List Nat) (F : Nat → Nat → Int) (c a s : Nat) : Int := H9 pv F c pv.length a s
theorem OV (pv : List Nat) (F : Nat → Nat → Int) (c a s : Nat) : H9 pv F c 0 a s = 0 := if_neg (by omega)
theorem Og {pv : List Nat} (hs : pv.Pairwise (· < ·)) (F : Nat → Nat → Int) (c c' i a s : Nat) (hi : i < pv.length) (hsc : s < c') : (if a = pv.getD i 0 then (vec c' fun s => F i (c + s)).getD s 0 else H9 pv F c i a s) = H9 pv F c (i + 1) a s := by
 have hg := Cn hi
 have hnd : pv.Nodup := List.Pairwise.imp (fun h => Nat.ne_of_lt h) hs
 have hio : pv.idxOf pv[i] = i := hnd.idxOf_getElem i hi
 unfold H9
 by_cases h3 : a = pv.getD i 0
 ·rw [if_pos h3, h3, hg, hio, if_pos (by omega), List.getD_eq_getElem?_getD, EE? hsc]; rfl
 ·rw [if_neg h3]
  have h5 : pv.idxOf a ≠ i := fun h => h3 (by
   have hlt : pv.idxOf a < pv.length := by omega
   rw [hg]
   have := List.getElem_idxOf hlt
   subst h
   exact this.symm)
  by_cases h6 : pv.idxOf a < i
  ·rw [if_pos h6, if_pos (by omega)]
  ·rw [if_neg h6, if_neg (by omega)]
theorem RX {r c c' : Nat} {F : Nat → Nat → Int} {i : Nat} (hi : i < r) : ∃ l, ((mat r (c + c') F).drop (i * (c + c') + c)) = vec c' (fun s => F i (c + s)) ++ l := by
 have h1 : (i + 1) * (c + c') ≤ r * (c + c') := Nat.mul_le_mul_right _ hi
 rw [Nat.add_mul, Nat.one_mul] at h1
 refine ⟨((mat r (c + c') F).drop (i * (c + c') + c)).drop c', ?_⟩
 conv => lhs; rw [← List.take_append_drop c' ((mat r (c + c') F).drop (i * (c + c') + c))]
 congr 1
 refine List.ext_getElem? fun k => ?_
 by_cases hk : k < c'
 ·rw [List.getElem?_take_of_lt hk, List.getElem?_drop, EE? hk, mat_at? (by omega), Nat.add_assoc, Hs (by omega), HE (by omega)]
 ·rw [List.getElem?_eq_none (by rw [List.length_take]; omega), List.getElem?_eq_none (by rw [AQ]; omega)]
theorem L8 (p : Int) (r c c' : Nat) (f g : Nat → Nat → Int) (ev eu : Value) (h : Hp) (R : RtM p r c f) (S : RtM p r c' g) (hcr : r = 0 ∨ 0 < c') (hR : RdL cI 1 h [] ev (mat r c f)) (hS : RdL cI 1 h [] eu (mat r c' g)) :
  FnT Tryz.prog 115 #[.agg #[.int .i64 p, .int .i64 r, .int .i64 c, ev], .agg #[.int .i64 p, .int .i64 r, .int .i64 c', eu]] h [] (fun x h' ms' => h.le h' ∧ ∃ (F : Nat → Nat → Int) (pv : List Nat) (v : Value), Ho p r (c + c') (jn c f g) F pv ∧ ((∀ k (hk : k < pv.length), pv[k] < c) → x = .tuple #[v, .bool true] ∧ Ez v ms' (EM p c c' (CB pv F c))) ∧ (¬ (∀ k (hk : k < pv.length), pv[k] < c) → x = .tuple #[v, .bool false] ∧ Ez v ms' FM.nil)) := by
 have hb := R.bd
 have rl := R.rl
 have kl := R.cl
 have cl := S.cl
 have hjn : UO p r (c + c') (jn c f g) := fun i hi j hj => by
  unfold jn
  by_cases h : j < c
  ·rw [if_pos h]; exact R.en i hi j h
  ·rw [if_neg h]; exact S.en i hi _ (by omega)
 refine Av func115 ntmps115 rfl rfl (fun w0 hw0 => ?_)
 simp only [A4]
 refine Ax ?_
 refine AS [_, _, _, _] rfl rfl (by rfl) rfl rfl rfl (fun g2 => ?_)
 refine AS [_, _, _, _] rfl rfl (by rfl) rfl rfl rfl (fun g3 => ?_)
 refine BZ [.int .i64 0, .int .i64 0, .int .i64 0, .slice none 0 0] rfl AI rfl rfl (fun g4 => Qm rfl (Aq (By 2 rfl fun h1 l1 hA => (By 1 rfl fun h2 l2 hB => ?_))))
 have hR := hR.up (Hp.le_trans l1 l2)
 have hS := hS.up (Hp.le_trans l1 l2)
 have hAs := hA.le l2
 have hBs := hB
 have hA := Seg.all hAs
 have hB := Seg.all hBs
 have hA0 := hA 0 _ rfl
 have hB0 := hB 0 _ rfl
 refine Ac (Ax (Qx (oG rfl underlying42 AI (Seg.any hAs)) rfl (Qx (oG rfl underlying42 AI (Seg.any hBs)) rfl (Qx (AG rfl call121 rfl (MT R S hR hS _)) rfl (Qm rfl (Qm rfl (Qg (oF Bh rfl) rfl (Qg (oL rfl underlying3 (hA _ _ rfl _)) rfl (Qg (oF Bh rfl) rfl (Qg (oL rfl underlying3 (hB _ _ rfl _)) rfl (Qg (B4 rfl rfl rfl) rfl (Qm rfl (Aq (AF rfl (fun hc => absurd hc (by omega)) (fun hc => Ai (Ab (Ax (Qx (oG rfl underlying42 AI (Seg.any hAs)) rfl (Qx (oG rfl underlying42 AI (Seg.any hBs)) rfl (Qc call137 rfl (NC p r c c' f g ev eu h2 R S hR hS) (fun v h3 ms1 l3 hF => ?_)))))))))))))))))))))
 obtain ⟨l3, ej, mj, rfl, rfl, hOj⟩ := hF
 refine AH hOj fun h4 l4 hRj => (Qc call136 rfl (JN p r (c + c') (jn c f g) ej h4 R.pr rl (by omega) hjn hRj) (fun v h5 ms1 l5 hF => ?_))
 obtain ⟨l5, F, pv, ef, vp, m, m2, rfl, rfl, hO, hO2, hE⟩ := hF
 have l25 := Hp.le_trans l3 (Hp.le_trans l4 l5)
 have hAs := hAs.le l25
 have hBs := hBs.le l25
 have hA := Seg.all hAs
 have hB := Seg.all hBs
 have hA0 := hA 0 _ rfl
 have hB0 := hB 0 _ rfl
 have l05 := Hp.le_trans l1 (Hp.le_trans l2 l25)
 have oe : ef.oneCell' = true := (hO.rd (h := h) (ms := [m]) (List.Mem.head _)).rd.one
 have ovp : vp.oneCell' = true := (hO2.rd (h := h) (ms := [m2]) (List.Mem.head _)).rd.one
 have hlen := hE.red.len
 have hsort := hE.red.sorted
 obtain ⟨n, hn⟩ : ∃ n, n = c + c' := ⟨_, rfl⟩
 have hO' := hO
 rw [← hn] at hO' hE ⊢
 refine Qm rfl (Qm rfl (Qm rfl (BZ [.int .i64 0, .int .i64 0, .int .i64 0, .slice none 0 0] rfl AI rfl rfl (fun g6 => ?_))))
 refine Sa 0 [_, _, _, _] AI rfl (by simp [oe]) ?_
 refine Qm rfl (B3 (Qf BE rfl (Ql rfl underlying3 (hA0 _) (Qf A0 rfl (Ql rfl underlying3 (hA _ _ rfl _) (Qf A0 rfl (Ql rfl underlying3 (hB _ _ rfl _) (Qc call106 rfl (GB p c c' h5 R.i64) (fun v h6 ms3 l6 hF => ?_)))))))))
 obtain ⟨rfl, ew, mz, rfl, rfl, hOz⟩ := hF
 rw [DO R.pr kl cl] at hOz ⊢
 have ow : ew.oneCell' = true := (hOz.rd (h := h) (ms := [mz]) (List.Mem.head _)).rd.one
 refine BZ [.int .i64 0, .int .i64 0, .int .i64 0, .slice none 0 0] rfl AI rfl rfl (fun g8 => ?_)
 refine Sa 0 [_, _, _, _] AI rfl (by simp [ow]) ?_
 refine Aq (Ac (Ax (Qm rfl (Qx (CH (DA (h := h) (ms := [m2]) hO2 (List.Mem.head _)) rfl underlying24 rfl) rfl (Qm rfl (Aq (Ag ?_)))))))
 refine AD (fun q s hh ms' => ∃ (i : Nat) (mz : Hp), q = pv.length - i ∧ s = [(2, .pointer (some ⟨g2, 0, none⟩)), (3, .pointer (some ⟨g3, 0, none⟩)), (4, .pointer (some ⟨g4, 0, none⟩)), (6, .pointer (some ⟨g6, 0, none⟩)), (8, .pointer (some ⟨g8, 0, none⟩)), (37, vp), (38, .int .i64 pv.length), (39, .int .i64 i)] ∧ h5 = hh ∧ ms' = [AX g8 42 [.int .i64 p, .int .i64 c, .int .i64 c', ew], mz, AX g6 42 [.int .i64 p, .int .i64 r, .int .i64 n, ef], m, m2, AX g4 42 [.int .i64 0, .int .i64 0, .int .i64 0, .slice none 0 0]] ∧ i ≤ pv.length ∧ (∀ k (hk : k < pv.length), k < i → pv[k] < c) ∧ OwnL cI 1 3 mz ew (mat c c' (H9 pv F c i)))
  (pv.length - 0) _ ⟨0, mz, rfl, rfl, rfl, rfl, by omega, fun k hk h => by omega, by rw [AO (fun a _ b _ => OV pv F c a b)]; exact hOz⟩ Qs ?_
 rintro q s hh ms' ⟨i, mz, rfl, rfl, rfl, rfl, hi, hall, hOz⟩
 refine Ax (Qm rfl (Aq (Ac ?_)))
 refine AF rfl (fun hlt => ?_) (fun hlt => ?_)
 ·have hil : i < pv.length := by omega
  have hir : i < r := by omega
  have hg := Cn hil
  refine Ai (Ab (Ac (Ag (Ax (Qm rfl (Qx (Bo _ (DA (h := h) (ms := [m2]) hO2 (List.Mem.head _)) rfl underlying24 A8 rfl rfl rfl (by omega)) rfl ?_))))))
  refine Ql rfl underlying3 (J7 hO2 (by simp) hil) ?_
  refine Qm rfl (Qm rfl (Aq (Ac (Ax (Qm rfl (Qf A0 rfl (Ql rfl underlying3 (hA _ _ rfl _) (Qm rfl (Aq ?_)))))))))
  refine AF rfl (fun hge => ?_) (fun hge => ?_)
  ·refine Ac (Ad ?_)
   refine Qx (AT Gh [.int .i64 0, .int .i64 0, .int .i64 0, .slice none 0 0] [] [_, _, _, _] rfl AI rfl rfl (by repeat (first | exact trivial | refine ⟨⟨rfl, rfl, rfl⟩, ?_⟩ | refine ⟨⟨((DA (h := h) (ms := [m2]) hO2 (List.Mem.head _))).cells, rfl, rfl⟩, ?_⟩)) rfl) rfl ?_
   refine Sa 5 [_, _, _, _] AI rfl (by simp [Value.oneCell']) ?_
   refine Qm rfl (Aq (Ao (Ae (Ap (Ae (Ae (Ap (Ae (AP 4 rfl (AP 3 rfl (AP 2 rfl (AP 1 rfl (AP 0 rfl (IN ?_))))))))))))))
   exact CX (vs := [_, _, _, _]) 1 rfl rfl rfl underlying42 rfl AI rfl rfl (⟨l05, F, pv, _, hE, fun hx => absurd (hx i hil) (by omega), fun _ => ⟨rfl, _, _, rfl, rfl, OwnL.nil Br⟩⟩)
  ·have hpc : pv.getD i 0 < c := by omega
   have hc0 : 0 < c' := by omega
   generalize hP : pv.getD i 0 = P at *
   have d1 : (P + 1) * c' = P * c' + c' := by rw [Nat.add_mul, Nat.one_mul]
   have d2 : (P + 1) * c' ≤ c * c' := Nat.mul_le_mul_right c' hpc
   have d3 : c * c' ≤ 400 * 400 := Nat.mul_le_mul kl cl
   have d4 : ((P : Int) + 1) * c' = P * c' + c' := by rw [Int.add_mul, Int.one_mul]
   have d5 : (i + 1) * n = i * n + n := by rw [Nat.add_mul, Nat.one_mul]
   have d6 : (i + 1) * n ≤ r * n := Nat.mul_le_mul_right n hir
   have d7 : r * n ≤ 400 * 800 := Nat.mul_le_mul rl (by omega)
   have el1 : (mat c c' (H9 pv F c i)).length = c * c' := AY _ _ _
   have el2 : (mat r n F).length = r * n := AY _ _ _
   refine Ai (Ab (BB 22 Cd (by kernel_rfl) rfl (Wf Bc rfl (Wl rfl underlying24 (Cell.blk 0 rfl rfl) (Wm rfl (Wf A0 rfl (Wl rfl underlying3 (hB _ _ rfl _) (AV (oM rfl) rfl rfl (Wm rfl (AV (oA rfl) rfl rfl (Wf A0 rfl (Wl rfl underlying3 (hB _ _ rfl _) (AV (oM rfl) rfl rfl (AV (J6 (P * c') ((P + 1) * c') (hOz.rd (h := h5) (ms := [mz]) (List.Mem.head _)).rd rfl underlying24 A8 rfl rfl rfl (by omega) (by omega) (by omega) (by omega)) rfl rfl (Wf Bc rfl (Wl rfl underlying24 (Cell.blk 2 rfl rfl) (Wm rfl (Wf A0 rfl (Wl rfl underlying3 (Cell.blk 2 rfl rfl) (AV (oM rfl) rfl rfl (Wf A0 rfl (Wl rfl underlying3 (hA _ _ rfl _) (AV (oA rfl) rfl rfl (AV (Lo (i * n + c) (hO'.rd (h := h5) (ms := [m]) (List.Mem.head _)).rd rfl underlying24 A8 rfl rfl (by omega) (by omega)) rfl rfl (BC ?_)))))))))))))))))))))))))
   have hml := hO'.rd (h := h5) (ms := [AX g8 42 [.int .i64 p, .int .i64 c, .int .i64 c', ew], mz, AX g6 42 [.int .i64 p, .int .i64 r, .int .i64 n, ef], m, m2, AX g4 42 [.int .i64 0, .int .i64 0, .int .i64 0, .slice none 0 0]]) (List.Mem.tail _ (List.Mem.tail _ (List.Mem.tail _ (List.Mem.head _))))
   have hsub := hml.sub_ (i := i * n + c) (j := (mat r n F).length) (by omega) (Nat.le_refl _)
   obtain ⟨lr, hlr⟩ := RX (c := c) (c' := c') (F := F) hir
   rw [← hn] at hlr
   rw [List.take_of_length_le (by rw [List.length_drop]; omega), hlr] at hsub
   refine QO 1 P hOz hpc hc0 hsub (by rw [List.length_append, AQ]; omega) rfl underlying24 A8 rfl rfl rfl rfl rfl rfl (fun mz' hOz' => ?_)
   refine Ak (Aj (Ab (Ad (Qx (oA rfl) rfl (Qm rfl (Ak ?_))))))
   refine Al (pv.length - (i + 1)) _ (by omega) ⟨i + 1, mz', rfl, rfl, rfl, rfl, by omega, fun k hk h1 => ?_, ?_⟩ Qs
   ·rcases (by omega : k < i ∨ k = i) with h2 | rfl
    ·exact hall k hk h2
    ·rw [← hg]; exact hpc
   ·have hst : ∀ a, a < c → ∀ b, b < c' → (if a = P then (vec c' (fun s => F i (c + s)) ++ lr).getD b 0 else H9 pv F c i a b) = H9 pv F c (i + 1) a b := fun a _ b hb => by
     rw [← Og hsort F c c' i a b hil hb, hP]
     rw [List.getD_eq_getElem?_getD, List.getElem?_append_left (by rw [AQ]; exact hb), ← List.getD_eq_getElem?_getD]
    rw [AO hst] at hOz'
    exact hOz'
 ·refine Aw (Aa (Aa (Af (Ab (Ax (Qx (oG rfl underlying42 AI (Seg.blk 0 rfl)) rfl ?_))))))
  refine Sa 5 [_, _, _, _] AI rfl (by simp [ow]) ?_
  refine Qm rfl (Aq (Ao ?_))
  obtain rfl : i = pv.length := by omega
  have hal : ∀ k (hk : k < pv.length), pv[k] < c := fun k hk => hall k hk hk
  refine AP 4 rfl (AP 3 rfl (AP 2 rfl (AP 0 rfl ?_)))
  exact CX (vs := [_, _, _, _]) 1 rfl rfl rfl underlying42 rfl AI rfl rfl (⟨l05, F, pv, _, hE, fun _ => ⟨rfl, ew, mz, rfl, rfl, hOz⟩, fun hx => absurd hal hx⟩)
end Go.Proofs.YtdnelknieikbaaaGreat
namespace Go.Proofs.YtdnelknieikbaaaGreat
open Go.Proofs.Tryz
open Go.Eng Go.RowKit Go.Lin
theorem MD {p : Int} {n : Nat} (hp : IsP p) (hn : n ≤ 400) : RtM p n n Dl := ⟨hp, hn, hn, fun i _ j _ => by
 have := hp.1
 unfold Dl
 split <;> omega⟩
theorem TS (p : Int) (n : Nat) (f : Nat → Nat → Int) (ev : Value) (h : Hp) (R : RtM p n n f) (hR : RdL cI 1 h [] ev (mat n n f)) (hf : ∀ F pv, Ho p n n f F pv → pv.length = n) (ms : List Hp) :
  Dq Tryz.prog 96 #[.agg #[.int .i64 p, .int .i64 n, .int .i64 n, ev]] h ms (.int .i64 n) :=
 Ds ((R5 p n n f ev h R hR).mono fun r h' ms' ⟨_, _, F, pv, e, hE⟩ => by rw [e, hf F pv hE]) ms
theorem MN (p : Int) (n : Nat) (f : Nat → Nat → Int) (ev : Value) (h : Hp) (R : RtM p n n f) (hR : RdL cI 1 h [] ev (mat n n f)) (hf : ∀ F pv, Ho p n n f F pv → pv.length = n) (hp : ∀ F pv, Ho p n (n + n) (jn n f Dl) F pv → ∀ k (hk : k < pv.length), pv[k] < n) :
  FnT Tryz.prog 132 #[.agg #[.int .i64 p, .int .i64 n, .int .i64 n, ev]] h [] (fun x h' ms' => h.le h' ∧ ∃ (F : Nat → Nat → Int) (pv : List Nat) (v : Value), Ho p n (n + n) (jn n f Dl) F pv ∧ x = .tuple #[v, .bool true] ∧ Ez v ms' (EM p n n (CB pv F n))) := by
 have nl := R.rl
 refine Av func132 ntmps132 rfl rfl (fun w0 hw0 => ?_)
 simp only [A4]
 refine Ax ?_
 refine AS [_, _, _, _] rfl rfl (by rfl) rfl rfl rfl (fun g1 => ?_)
 refine BZ [.int .i64 0, .int .i64 0, .int .i64 0, .slice none 0 0] rfl AI rfl rfl (fun g2 => Qm rfl (Aq (By 1 rfl fun h1 l1 hS => ?_)))
 have hR := hR.up l1
 have hA := Seg.all hS
 have hA0 := hA 0 _ rfl
 refine Ac (Ac (BB 15 Cd (by kernel_rfl) rfl (AV (oG rfl underlying42 AI (Seg.any hS)) rfl rfl (AV (AG rfl call73 rfl (Nv R hR _)) rfl rfl (Wm rfl (Wm rfl (Bp (oF Bh rfl) rfl rfl rfl rfl (Bp (oL rfl underlying3 (hA _ _ rfl _)) rfl rfl rfl rfl (Bp (oF A0 rfl) rfl rfl rfl rfl (Bp (oL rfl underlying3 (hA _ _ rfl _)) rfl rfl rfl rfl (Bp (B4 rfl rfl rfl) rfl rfl rfl rfl (Wm rfl (Wm rfl ?_)))))))))))))
 refine DR (t := 14) rfl (fun hs => ?_) (fun hs => ?_)
 ·exact absurd hs (by simp)
 ·refine Bp (oG rfl underlying42 AI (Seg.any hS)) rfl rfl rfl rfl (Bp (AG rfl call96 rfl (TS p n f ev _ R hR hf _)) rfl rfl rfl rfl (Bp (oF Bh rfl) rfl rfl rfl rfl (Bp (oL rfl underlying3 (hA _ _ rfl _)) rfl rfl rfl rfl (BC (Qg (Dy rfl rfl rfl) rfl (Qm rfl (Aq (AF rfl (fun hc => absurd hc (by omega)) (fun hc => Ai (Ab ?_))))))))))
  refine Bv (fun s hh ms' => ∃ (F : Nat → Nat → Int) (pv : List Nat) (ew : Value) (m : Hp), s = [(2, .pointer (some ⟨g2, 0, none⟩)), (3, .bool true)] ∧ h.le hh ∧ ms' = [m, AX g2 42 [.int .i64 p, .int .i64 n, .int .i64 n, ew]] ∧ Ho p n (n + n) (jn n f Dl) F pv ∧ OwnL cI 1 3 m ew (mat n n (CB pv F n))) ?_ (fun s h ms hI => ?_)
  ·refine AW (n := 11) (bs := [true, true, true, true, true, false, false, false, false, false, false]) [true, true, true, true, true] Cd (by kernel_rfl) (by kernel_rfl) rfl rfl (Qp rfl (oG rfl underlying42 AI (Seg.any hS)) (QF BE rfl (QL rfl underlying3 (hA0 _) (QF Bh rfl (QL rfl underlying3 (hA _ _ rfl _) ?_)))))
   unfold CD
   simp only [List.cons_append, List.nil_append]
   refine Qo 5 rfl (Qc call87 rfl (J3 p n h1 R.pr nl) (fun v h3 ms3 l3 hF => ?_))
   obtain ⟨rfl, eo, mo, rfl, rfl, hOo⟩ := hF
   refine Qw (Qo 6 rfl (AH hOo fun h4 l4 hRo => (Qc call115 rfl (L8 p n n n f Dl ev eo h4 R (MD R.pr nl) (by omega) (hR.up l4) hRo) (fun v h5 ms5 l5 hF => ?_))))
   have l15 := Hp.le_trans l4 l5
   obtain ⟨l5, F, pv, v', hE, hyes, _⟩ := hF
   obtain ⟨rfl, ew, m, rfl, rfl, hO⟩ := hyes (hp F pv hE)
   have oe : ew.oneCell' = true := (hO.rd (h := h) (ms := [m]) (List.Mem.head _)).rd.one
   refine Qa (An 7 29 (by kernel_rfl) rfl (by assumption) rfl (AC rfl rfl rfl) (An 8 30 (by kernel_rfl) rfl (by assumption) rfl (AC rfl rfl rfl) (Qo 9 rfl ?_)))
   refine Sa 1 [_, _, _, _] AI rfl (by simp [oe]) ?_
   refine Qa (Qo 10 rfl (Qm rfl (Qa (Qe ?_))))
   refine AA _ ⟨F, pv, ew, m, rfl, Hp.le_trans l1 (Hp.le_trans l4 l5), rfl, hE, hO⟩ Qs
  obtain ⟨F, pv, ew, m, rfl, hl, rfl, hE, hO⟩ := hI
  ·refine Ao ?_
   exact CX (vs := [_, _, _, _]) 1 rfl rfl rfl underlying42 rfl AI rfl rfl (⟨hl, F, pv, _, hE, rfl, ew, m, rfl, rfl, hO⟩)
end Go.Proofs.YtdnelknieikbaaaGreat
namespace Go.Proofs.YtdnelknieikbaaaGreat
open Go.Eng Go.RowKit Go.Lin
variable {a b i : Nat}
abbrev tt : Nat → Bool := fun _ => true
theorem Mf (n : Nat) : cnt n tt = n := by
 unfold cnt Df
 rw [List.filter_eq_self.2 (by simp)]
 exact List.length_range
theorem Cs (n : Nat) (c : Nat → Int) (v : Nat → Nat → Int) (i : Nat) : Bj n tt c v i = sm n fun l => c l * v l i := AE fun l _ => if_pos rfl
def Gg (pv : List Nat) (y : Nat → Int) (a : Nat) : Int := if pv.idxOf a < pv.length then y (pv.idxOf a) else 0
section
variable {p : Int} {r c : Nat} {f F : Nat → Nat → Int} {pv : List Nat}
theorem _root_.Go.Lin.Red.nodup (R : Red p r c f F pv c) : pv.Nodup := List.Pairwise.imp (fun h => Nat.ne_of_lt h) R.sorted
theorem MW (hn : pv.Nodup) (y : Nat → Int) {k : Nat} (hk : k < pv.length) : Gg pv y pv[k] = y k := by
 unfold Gg
 rw [hn.idxOf_getElem k hk, if_pos hk]
theorem FI (y : Nat → Int) (h : a ∉ pv) : Gg pv y a = 0 := by
 unfold Gg
 rw [if_neg]
 intro h2
 exact h (List.idxOf_lt_length_iff.1 h2)
theorem NO (hn : pv.Nodup) (y : Nat → Int) (h : a ∈ pv) : ∃ k, ∃ hk : k < pv.length, pv[k] = a ∧ Gg pv y a = y k := by
 obtain ⟨k, hk, rfl⟩ := List.mem_iff_getElem.1 h
 exact ⟨k, hk, rfl, MW hn y hk⟩
theorem My (A : Nat → Nat → Int) (n : Nat) (x y : Nat → Int) (i : Nat) : ap A n (fun a => x a - y a) i = ap A n x i - ap A n y i := by
 unfold ap
 rw [← Mm]
 exact AE fun j _ => Int.mul_sub _ _ _
theorem Md (A : Nat → Nat → Int) (n : Nat) (x y : Nat → Int) (i : Nat) : ap A n (fun a => x a + y a) i = ap A n x i + ap A n y i := by
 unfold ap
 rw [← FF]
 exact AE fun j _ => Int.mul_add _ _ _
theorem Kr (A : Nat → Nat → Int) (n : Nat) (hb : b < n) (i : Nat) : ap A n (fun a => if a = b then 1 else 0) i = A i b := by
 unfold ap
 rw [DZ n b _ hb fun k _ hne => by simp [hne]]
 simp
theorem Hx (R : Red p r c f F pv c) (y : Nat → Int) (hi : i < r) : ap F c (Gg pv y) i = if i < pv.length then y i else 0 := by
 unfold ap
 by_cases h : i < pv.length
 ·rw [if_pos h, DZ c pv[i] _ (R.lt i h) fun b hb hne => ?_]
  ·rw [R.col i hi i h, if_pos rfl, MW R.nodup y h, Int.one_mul]
  ·by_cases hm : b ∈ pv
   ·obtain ⟨k, hk, rfl⟩ := List.mem_iff_getElem.1 hm
    rw [R.col i hi k hk, if_neg (fun e => hne (by subst e; rfl)), Int.zero_mul]
   ·rw [FI y hm, Int.mul_zero]
 ·rw [if_neg h]
  exact CL fun b hb => by rw [R.low i hi (by omega) b hb, Int.zero_mul]
theorem Ii (R : Red p r c f F pv c) (hb : b < c) (hi : i < r) : Cg p (f i b) (ap f c (Gg pv fun k => F k b) i) := by
 have h := (R.ker fun a => (if a = b then 1 else 0) - Gg pv (fun k => F k b) a).1 (fun i hi => Cg.of_eq (by
  rw [My, Kr F c hb, Hx R _ hi]
  split
  ·exact Int.sub_self _
  ·rename_i hl
   rw [R.low i hi (by omega) b hb]; rfl)) i hi
 rw [My, Kr f c hb] at h
 have := Cg.add h (Cg.refl p (ap f c (Gg pv fun k => F k b) i))
 rw [Int.zero_add, Int.sub_add_cancel] at this
 exact this
theorem F7 (R : Red p r c f F pv c) : Ind p c (fun b => pv.contains b) r (fun l i => f i l) := by
 intro x hx l hl hb
 obtain ⟨k, hk, rfl⟩ := List.mem_iff_getElem.1 (List.contains_iff_mem.1 hb)
 have e : ∀ a, a < c → Gg pv (fun k => x (pv.getD k 0)) a = if pv.contains a then x a else 0 := fun a _ => by
  by_cases hm : a ∈ pv
  ·rw [if_pos (List.contains_iff_mem.2 hm)]
   obtain ⟨k, hk, rfl, e2⟩ := NO R.nodup (fun k => x (pv.getD k 0)) hm
   rw [e2, Cn hk]
  ·rw [FI _ hm, if_neg (fun h => hm (List.contains_iff_mem.1 h))]
 have h := (R.ker (Gg pv fun k => x (pv.getD k 0))).2 (fun i hi => Cg.trans (Cg.of_eq ?_) (hx i hi)) k (by have := R.len; omega)
 ·rw [Hx R _ (by have := R.len; omega), if_pos hk, Cn hk] at h
  unfold Cg at h; rwa [Int.sub_zero] at h
 ·unfold ap Bj
  exact AE fun a ha => by
   rw [e a ha]
   split
   ·exact Int.mul_comm _ _
   ·exact Int.mul_zero _
theorem F4 (R : Red p r c f F pv c) (hb : b < c) : Spn p c (fun b => pv.contains b) r (fun l i => f i l) (fun i => f i b) := by
 refine ⟨Gg pv fun k => F k b, fun i hi => (Ii R hb hi).trans (Cg.of_eq ?_)⟩
 unfold ap Bj
 exact AE fun a _ => by
  by_cases hm : a ∈ pv
  ·rw [if_pos (List.contains_iff_mem.2 hm)]; exact Int.mul_comm _ _
  ·rw [if_neg (fun h => hm (List.contains_iff_mem.1 h)), FI _ hm, Int.mul_zero]
theorem Gm {pv : List Nat} {c : Nat} (hs : pv.Pairwise (· < ·)) (hc : ∀ a ∈ pv, a < c) : Df c (fun b => pv.contains b) = pv := by
 refine List.Perm.eq_of_pairwise (le := (· < ·)) (fun a b _ _ h1 h2 => by omega) (List.Pairwise.filter _ List.pairwise_lt_range) hs ?_
 refine List.Perm.symm ?_
 have hn : pv.Nodup := List.Pairwise.imp (fun h => Nat.ne_of_lt h) hs
 exact (List.perm_ext_iff_of_nodup hn (EN c _)).2 fun a => by
  rw [mem_sel]
  exact ⟨fun h => ⟨hc a h, List.contains_iff_mem.2 h⟩, fun h => List.contains_iff_mem.1 h.2⟩
theorem _root_.Go.Lin.Red.mem_lt (R : Red p r c f F pv c) : ∀ a ∈ pv, a < c := fun a ha => by
 obtain ⟨k, hk, rfl⟩ := List.mem_iff_getElem.1 ha
 exact R.lt k hk
theorem C6 (R : Red p r c f F pv c) : cnt c (fun b => pv.contains b) = pv.length := by
 unfold cnt; rw [Gm R.sorted R.mem_lt]
theorem _root_.Go.Lin.Red.lenc (R : Red p r c f F pv c) : pv.length ≤ c := by
 rw [← C6 R]
 unfold cnt Df
 exact Nat.le_trans (List.length_filter_le _ _) (by simp)
theorem Lc (R : Red p r c f F pv c) : Ind p pv.length tt r (fun l i => f i (pv.getD l 0)) := by
 intro x hx l hl _
 have h := F7 R (fun a => x (pv.idxOf a)) (fun i hi => Cg.trans (Cg.of_eq ?_) (hx i hi)) pv[l] (R.lt l hl) (List.contains_iff_mem.2 (List.getElem_mem hl))
 ·rwa [R.nodup.idxOf_getElem l hl] at h
 ·rw [Cs]
  unfold Bj
  rw [KC c (fun b => pv.contains b) fun a => x (pv.idxOf a) * f i a, C6 R, Gm R.sorted R.mem_lt]
  exact AE fun t ht => by rw [Cn ht, R.nodup.idxOf_getElem t ht]
theorem LN (Fp : Fld p) (R : Red p r c f F pv c) : pv.length = c ↔ Ind p c tt r (fun l i => f i l) := by
 constructor
 ·intro h
  have hall : ∀ l, l < c → pv.contains l = true := by
   have h1 := C6 R
   rw [h] at h1
   intro l hl
   have h2 : Df c (fun b => pv.contains b) = List.range c := List.filter_sublist.eq_of_length (by rw [List.length_range]; exact h1)
   exact (mem_sel.1 (h2 ▸ List.mem_range.2 hl)).2
  intro x hx l hl _
  exact F7 R x (fun i hi => Cg.trans (Cg.of_eq (AE fun a ha => by
   show (if pv.contains a = true then _ else _) = if true = true then _ else _
   rw [hall a ha])) (hx i hi)) l hl (hall l hl)
 ·intro h
  have h1 := CA Fp h (n' := c) (b' := fun b => pv.contains b) (v' := fun l i => f i l) fun l hl _ => F4 R hl
  rw [Mf, C6 R] at h1
  have := R.lenc
  omega
theorem LP {n : Nat} {f : Nat → Nat → Int} (Fp : Fld p) (hI : Ind p n tt n (fun l i => f i l)) : Ind p n tt n (fun l i => f l i) := by
 intro u hu k hk _
 obtain ⟨x, hx⟩ := Uo Fp hI (Mf n) (fun i => if i = k then 1 else 0)
 have h1 : Cg p (u k) (sm n fun i => u i * Bj n tt x (fun l i => f i l) i) := by
  refine Cg.trans (Cg.of_eq ?_) (Cg.sm fun i hi => Cg.mul (Cg.refl p (u i)) (hx i hi))
  rw [DZ n k _ hk fun i _ hne => by simp [hne]]
  simp
 have h2 : (sm n fun i => u i * Bj n tt x (fun l i => f i l) i) = sm n fun l => x l * Bj n tt u (fun l i => f l i) l := by
  have e1 : ∀ i, i < n → u i * Bj n tt x (fun l i => f i l) i = sm n fun l => x l * (u i * f i l) := fun i _ => by
   rw [Cs, ← Cb]
   exact AE fun l _ => by rw [← Int.mul_assoc, ← Int.mul_assoc, Int.mul_comm (u i)]
  rw [AE e1, D9]
  refine AE fun l _ => ?_
  rw [Cs, ← Cb]
 have h3 : Cg p (sm n fun l => x l * Bj n tt u (fun l i => f l i) l) 0 := by
  refine Cg.trans (Cg.sm fun l hl => Cg.mul (Cg.refl p (x l)) (hu l hl)) (Cg.of_eq (CL fun l _ => Int.mul_zero _))
 rw [h2] at h1
 have := h1.trans h3
 unfold Cg at this; rwa [Int.sub_zero] at this
end
section
variable {p : Int} {r c c' : Nat} {f g F : Nat → Nat → Int} {pv : List Nat}
theorem Sl (f g : Nat → Nat → Int) (i : Nat) (h : a < c) : jn c f g i a = f i a := if_pos h
theorem Qz (f g : Nat → Nat → Int) (i s : Nat) : jn c f g i (c + s) = g i s := by
 unfold jn; rw [if_neg (by omega), Nat.add_sub_cancel_left]
theorem QJ (x : Nat → Int) (i : Nat) : ap (jn c f g) (c + c') x i = ap f c x i + ap g c' (fun s => x (c + s)) i := by
 unfold ap
 rw [El]
 congr 1
 ·exact AE fun a ha => by rw [Sl f g i ha]
 ·exact AE fun s _ => by rw [Qz]
theorem HJ (R : Red p r (c + c') (jn c f g) F pv (c + c')) (hlt : ∀ k (hk : k < pv.length), pv[k] < c) {s : Nat} (hs : s < c') (hi : i < r) : Cg p (ap f c (fun a => CB pv F c a s) i) (g i s) := by
 have h := Ii R (b := c + s) (by omega) hi
 rw [Qz, QJ] at h
 have hz : ap g c' (fun t => Gg pv (fun k => F k (c + s)) (c + t)) i = 0 := CL fun t _ => by
  show g i t * Gg pv (fun k => F k (c + s)) (c + t) = 0
  rw [FI _ (fun hm => ?_), Int.mul_zero]
  obtain ⟨k, hk, e⟩ := List.mem_iff_getElem.1 hm
  have := hlt k hk
  omega
 rw [hz, Int.add_zero] at h
 exact h.symm
theorem Lq (hp : 2 ≤ p) (R : Red p r (c + 1) (jn c f g) F pv (c + 1)) (hno : ¬ ∀ k (hk : k < pv.length), pv[k] < c) (x : Nat → Int) : ¬ ∀ i, i < r → Cg p (ap f c x i) (g i 0) := by
 intro h
 have ⟨k, hk, hge⟩ : ∃ k, ∃ hk : k < pv.length, c ≤ pv[k] := by
  refine Classical.byContradiction fun hcon => hno fun k hk => ?_
  refine Nat.lt_of_not_le fun hle => hcon ⟨k, hk, hle⟩
 have hkc : pv[k] = c := by have := R.lt k hk; omega
 have hkr : k < r := by have := R.len; omega
 have h2 := (R.ker fun a => if a < c then x a else -1).2 (fun i hi => ?_) k hkr
 ·have e : ap F (c + 1) (fun a => if a < c then x a else -1) k = -1 := by
   unfold ap
   rw [DZ (c + 1) c _ (by omega) fun b hb hne => by rw [R.left k hk b (by omega), Int.zero_mul]]
   have := R.col k hkr k hk
   rw [hkc, if_pos rfl] at this
   rw [this]
   show 1 * (if c < c then x c else -1) = -1
   rw [if_neg (by omega)]; rfl
  rw [e] at h2
  obtain ⟨q, hq⟩ := h2
  have : p ∣ 1 := ⟨-q, by rw [Int.mul_neg, ← hq]; rfl⟩
  have := Int.le_of_dvd (by decide) this
  omega
 ·rw [QJ]
  have e1 : ap f c (fun a => if a < c then x a else -1) i = ap f c x i := AE fun a ha => by
   show f i a * (if a < c then x a else -1) = _
   rw [if_pos ha]
  have e2 : ap g 1 (fun s => if c + s < c then x (c + s) else -1) i = - g i 0 := by
   unfold ap
   rw [DZ 1 0 _ (by omega) fun b hb hne => absurd (by omega) hne]
   show g i 0 * (if c + 0 < c then x (c + 0) else -1) = _
   rw [if_neg (by omega)]
   omega
  rw [e1, e2]
  have := Cg.sub (h i hi) (Cg.refl p (g i 0))
  rw [Int.sub_self] at this
  exact Cg.trans (Cg.of_eq (by omega)) this
theorem Jx (hp : 2 ≤ p) (R : Red p r (c + c') (jn c f g) F pv (c + c')) (hI : Ind p c tt r (fun l i => f i l)) {l : Nat} (hl : l < c) : l ∈ pv := by
 refine Classical.byContradiction fun hm => ?_
 have h1 : ∀ i, i < r → Cg p (Bj c tt (fun a => (if a = l then 1 else 0) - Gg pv (fun k => F k l) a) (fun l i => f i l) i) 0 := fun i hi => by
  have h := Ii R (b := l) (by omega) hi
  rw [Sl f g i hl, QJ] at h
  have hz : ap g c' (fun t => Gg pv (fun k => F k l) (c + t)) i = 0 := CL fun t _ => by
   show g i t * Gg pv (fun k => F k l) (c + t) = 0
   by_cases hmt : c + t ∈ pv
   ·obtain ⟨k, hk, e, e2⟩ := NO R.nodup (fun k => F k l) hmt
    rw [e2, R.left k hk l (by omega), Int.mul_zero]
   ·rw [FI _ hmt, Int.mul_zero]
  rw [hz, Int.add_zero] at h
  have e : Bj c tt (fun a => (if a = l then 1 else 0) - Gg pv (fun k => F k l) a) (fun l i => f i l) i = f i l - ap f c (Gg pv fun k => F k l) i := by
   rw [← Kr f c hl, ← My, Cs]
   exact AE fun a _ => Int.mul_comm _ _
  rw [e]
  have := Cg.sub h (Cg.refl p (ap f c (Gg pv fun k => F k l) i))
  rwa [Int.sub_self] at this
 have := hI _ h1 l hl rfl
 rw [if_pos rfl, FI _ hm] at this
 have := Int.le_of_dvd (by decide) this
 omega
theorem Nw (hp : 2 ≤ p) (n : Nat) : Ind p n tt n (fun l i => Dl i l) := by
 intro x hx l hl _
 have := hx l hl
 rw [Cs, DZ n l _ hl fun k _ hne => by unfold Dl; rw [if_neg (Ne.symm hne), Int.mul_zero]] at this
 unfold Dl at this
 rw [if_pos rfl, Int.mul_one] at this
 unfold Cg at this; rwa [Int.sub_zero] at this
theorem KT (Fp : Fld p) (hp : 2 ≤ p) (R : Red p r (c + r) (jn c f Dl) F pv (c + r)) : pv.length = r := by
 have h1 := CA Fp (Nw hp r) (n' := c + r) (b' := fun b => pv.contains b) (v' := fun l i => jn c f Dl i l) fun l hl _ => by
  have := F4 R (b := c + l) (by omega)
  have e : (fun i => jn c f Dl i (c + l)) = fun i => Dl i l := funext fun i => Qz f Dl i l
  rwa [e] at this
 rw [Mf, C6 R] at h1
 have := R.len
 omega
theorem GC {pv : List Nat} (hs : pv.Pairwise (· < ·)) {c : Nat} (hf : ∀ l, l < c → l ∈ pv) : ∀ l, l < c → ∃ h : l < pv.length, pv[l] = l := by
 have hmono := List.pairwise_iff_getElem.1 hs
 have key : ∀ k (hk : k < pv.length), k ≤ pv[k] := by
  intro k
  induction k with
  | zero => intro _; exact Nat.zero_le _
  | succ k ih => intro hk; have h1 := ih (by omega); have h2 := hmono k (k + 1) (by omega) hk (by omega); omega
 intro l
 induction l using Nat.strongRecOn with
 | _ l ih =>
  intro hl
  obtain ⟨k, hk, e⟩ := List.mem_iff_getElem.1 (hf l hl)
  have h1 := key k hk
  rcases (by omega : k = l ∨ k < l) with rfl | h2
  ·exact ⟨hk, e⟩
  ·obtain ⟨h3, e3⟩ := ih k h2 (by omega)
   omega
theorem Sc (Fp : Fld p) (hp : 2 ≤ p) {n : Nat} {f F : Nat → Nat → Int} {pv : List Nat} (hI : Ind p n tt n (fun l i => f i l)) (R : Red p n (n + n) (jn n f Dl) F pv (n + n)) : ∀ k (hk : k < pv.length), pv[k] < n := by
 have hlen := KT Fp hp R
 have hfr := GC R.sorted (fun l hl => Jx hp R hI hl)
 intro k hk
 obtain ⟨_, e⟩ := hfr k (by omega)
 omega
end
end Go.Proofs.YtdnelknieikbaaaGreat
namespace Go.Proofs.YtdnelknieikbaaaGreat
open Go.Proofs.Tryz
open Go.Eng Go.RowKit Go.Lin
def cV (v : Value) : List Value := [v]
theorem BK : ∀ v, (cV v).length = 1 := fun _ => rfl
def RdV (h : Hp) (v : Value) (n d : Nat) (w : Nat → Nat → Int) : Prop := ∃ vs : List Value, vs.length = n ∧ RdL cV 1 h [] v vs ∧ ∀ j (hj : j < vs.length), RdL cI 1 h [] vs[j] (vec d (w j))
theorem RdV.up {h h' : Hp} {v : Value} {n d : Nat} {w : Nat → Nat → Int} (R : RdV h v n d w) (hl : h.le h') : RdV h' v n d w := by
 obtain ⟨vs, h1, h2, h3⟩ := R
 exact ⟨vs, h1, h2.up hl, fun j hj => (h3 j hj).up hl⟩
def IU (w : Nat → Nat → Int) (j i a b : Nat) : Int := if b < j ∨ (b = j ∧ a < i) then w b a else 0
theorem Pk (w : Nat → Nat → Int) (a b : Nat) : IU w 0 0 a b = 0 := if_neg (by omega)
theorem Pc (w : Nat → Nat → Int) (j i a b : Nat) : DB (IU w j i) i j (w j i) a b = IU w j (i + 1) a b := by
 unfold DB IU
 by_cases h : a = i ∧ b = j
 ·rw [if_pos h, if_pos (by omega), h.1, h.2]
 ·rw [if_neg h]
  by_cases h2 : b < j ∨ (b = j ∧ a < i)
  ·rw [if_pos h2, if_pos (by omega)]
  ·rw [if_neg h2, if_neg (by omega)]
theorem Pr (w : Nat → Nat → Int) (j d a b : Nat) (ha : a < d) : IU w j d a b = IU w (j + 1) 0 a b := by
 unfold IU
 by_cases h2 : b < j ∨ (b = j ∧ a < d)
 ·rw [if_pos h2, if_pos (by omega)]
 ·rw [if_neg h2, if_neg (by omega)]
theorem PH (w : Nat → Nat → Int) (n a b : Nat) (hb : b < n) : IU w n 0 a b = w b a := if_pos (.inl hb)
theorem Bi (p : Int) (d n : Nat) (w : Nat → Nat → Int) (vl : Value) (h : Hp) (hp : Dh p) (hd : d ≤ 400) (hn : n ≤ 400) (hR : RdV h vl n d w) :
  FnT Tryz.prog 97 #[.int .i64 p, .int .i64 d, vl] h [] (fun x h' ms' => h = h' ∧ Ez x ms' (EM p d n fun i j => w j i)) := by
 obtain ⟨vs, hvs, hRv, hRe⟩ := hR
 have hdn : d * n ≤ 400 * 400 := Nat.mul_le_mul hd hn
 have hdv : d * vs.length = d * n := by rw [hvs]
 subst hvs
 refine Av func97 ntmps97 rfl rfl (fun w0 hw0 => ?_)
 simp only [A4]
 refine Ax (BZ [.int .i64 0, .int .i64 0, .int .i64 0, .slice none 0 0] rfl AI rfl rfl (fun g6 => B3 (Qm rfl (Qm rfl (Qm rfl (Qx (AJ hRv.rd.any rfl underlying62 rfl) rfl (Qm rfl (Qm rfl (Qx (AJ hRv.rd.any rfl underlying62 rfl) rfl (Qx (oM rfl) rfl ?_))))))))))
 refine Eu (n := d * vs.length) rfl underlying24 A8 rfl rfl rfl (by rfl) (by rfl) (by omega) (by omega) rfl rfl rfl (fun g20 => ?_)
 refine Qx (AT Gh [.int .i64 0, .int .i64 0, .int .i64 0, .slice none 0 0] [(0, _), (1, _), (2, _), (3, _)] [_, _, _, _] rfl AI rfl rfl (by repeat (first | exact trivial | refine ⟨⟨rfl, rfl, rfl⟩, ?_⟩)) rfl) rfl ?_
 refine BZ [.int .i64 0, .int .i64 0, .int .i64 0, .slice none 0 0] rfl AI rfl rfl (fun g7 => ?_)
 refine Sa 0 [_, _, _, _] AI rfl (by simp [Value.oneCell']) ?_
 refine Aq (Ac (Ax (Qm rfl (Qx (AJ hRv.rd.any rfl underlying62 rfl) rfl (Qm rfl (Aq (Ag ?_)))))))
 have hO0 := OwnL.rep (g := g20) (el := 3) (d * vs.length) 0 (by omega)
 rw [Kv] at hO0
 refine AD (fun q s hh ms' => ∃ (j : Nat) (m : Hp), q = vs.length - j ∧ s = [(2, vl), (6, .pointer (some ⟨g6, 0, none⟩)), (7, .pointer (some ⟨g7, 0, none⟩)), (22, vl), (23, .int .i64 vs.length), (24, .int .i64 j)] ∧ h = hh ∧ ms' = [AX g7 42 [.int .i64 p, .int .i64 d, .int .i64 vs.length, .slice (some ⟨g20, 0, none⟩) (d * vs.length) (d * vs.length)], m, AX g6 42 [.int .i64 0, .int .i64 0, .int .i64 0, .slice none 0 0]] ∧ j ≤ vs.length ∧ OwnL cI 1 3 m (.slice (some ⟨g20, 0, none⟩) (d * vs.length) (d * vs.length)) (mat d vs.length (IU w j 0)))
  (vs.length - 0) _ ⟨0, _, rfl, rfl, rfl, rfl, by omega, by rw [AO (fun a _ b _ => Pk w a b)]; exact hO0⟩ Qs ?_
 rintro q s hh ms' ⟨j, m, rfl, rfl, rfl, rfl, hj, hO⟩
 refine Ax (Qm rfl (Aq (Ac ?_)))
 refine AF rfl (fun hlt => ?_) (fun hlt => ?_)
 ·have hjn : j < vs.length := by omega
  have hRj := hRe j hjn
  refine Ai (Ab (Ac (Ag (Ax (Qm rfl (Qx (Ah _ hRv.rd.any rfl underlying62 BN rfl rfl rfl (by omega)) rfl (Ql rfl underlying24 (hRv.any.cell0 hjn rfl) (Qm rfl (Qm rfl (B3 (Qm rfl (Qx (AJ hRj.rd.any rfl underlying24 rfl) rfl (Qm rfl (Aq (Ag ?_)))))))))))))))
  refine AD (fun q s hh ms' => ∃ (i : Nat) (m : Hp), q = d - i ∧ s = [(2, vl), (6, .pointer (some ⟨g6, 0, none⟩)), (7, .pointer (some ⟨g7, 0, none⟩)), (8, .int .i64 j), (22, vl), (23, .int .i64 vs.length), (24, .int .i64 j), (29, vs[j]), (30, .int .i64 ((vec d (w j)).length : Nat)), (31, .int .i64 i)] ∧ h = hh ∧ ms' = [AX g7 42 [.int .i64 p, .int .i64 d, .int .i64 vs.length, .slice (some ⟨g20, 0, none⟩) (d * vs.length) (d * vs.length)], m, AX g6 42 [.int .i64 0, .int .i64 0, .int .i64 0, .slice none 0 0]] ∧ i ≤ d ∧ OwnL cI 1 3 m (.slice (some ⟨g20, 0, none⟩) (d * vs.length) (d * vs.length)) (mat d vs.length (IU w j i)))
   (d - 0) _ ⟨0, m, rfl, rfl, rfl, rfl, by omega, hO⟩ Qs ?_
  rintro q s hh ms' ⟨i, m, rfl, rfl, rfl, rfl, hi, hO⟩
  have ev := AQ d (w j)
  refine Ax (Qm rfl (Aq (Ac ?_)))
  refine AF rfl (fun hlt2 => ?_) (fun hlt2 => ?_)
  ·have hid : i < d := by omega
   have hix := Cp hid hjn
   have el : (mat d vs.length (IU w j i)).length = d * vs.length := AY _ _ _
   refine Ai (Ab (Ac (Ag (Ax (Qm rfl (Qx (Ah (i) hRj.rd.any rfl underlying24 A8 rfl rfl (by omega) (by omega)) rfl (Ql rfl underlying3 (hRj.any.ev hid) (Qm rfl (Qm rfl (IA (Qf Bc rfl (Ql rfl underlying24 (Cell.blk 0 rfl rfl) (Qm rfl (Qm rfl (Qx (AJ hRv.rd.any rfl underlying62 rfl) rfl (Qx (oM rfl) rfl (Qm rfl (Qx (oA rfl) rfl (Qm rfl (Qx (Dz (i * vs.length + j) rfl underlying24 A8 rfl rfl (by omega) (by omega)) rfl (Bu 1 (i * vs.length + j) hO rfl A8 rfl rfl rfl (by omega) rfl rfl (fun m' hO' => Ak (Aj (Ab (Ad (Qx (oA rfl) rfl (Qm rfl (Ak ?_))))))))))))))))))))))))))))
   refine Al (d - (i + 1)) _ (by omega) ⟨i + 1, m', rfl, rfl, rfl, rfl, by omega, ?_⟩ Qs
   rw [C4 _ hjn, AO (fun a _ b _ => Pc w j i a b)] at hO'
   exact hO'
  ·refine Aw (Aa (Aa (Af (Aj (Ab (Ad (Qx (oA rfl) rfl (Qm rfl (Ak ?_)))))))))
   refine Al (vs.length - (j + 1)) _ (by omega) ⟨j + 1, m, rfl, rfl, rfl, rfl, by omega, ?_⟩ Qs
   rw [show i = d by omega, AO (fun a ha b _ => Pr w j d a b ha)] at hO
   exact hO
 ·refine Aw (Aa (Aa (Af (Ab (Ax (Qx (oG rfl underlying42 AI (Seg.blk 0 rfl)) rfl ?_))))))
  refine Sa 2 [_, _, _, _] AI rfl (by simp [Value.oneCell']) ?_
  refine Aq (Ao (AP 0 rfl ?_))
  exact Cl (vs := [_, _, _, _]) 1 rfl rfl underlying42 rfl AI rfl rfl (⟨rfl, _, m, rfl, rfl, by rw [show j = vs.length by omega, AO (fun a _ b hb => PH w vs.length a b hb)] at hO; exact hO⟩)
end Go.Proofs.YtdnelknieikbaaaGreat
namespace Go.Proofs.YtdnelknieikbaaaGreat
open Go.Proofs.Tryz
open Go.Eng Go.RowKit Go.Lin
theorem RdL.one1 {h : Hp} {g : Nat} {v : Value} (hS : Seg h [] ⟨g, 0, none⟩ [v]) : RdL cV 1 h [] (.slice (some ⟨g, 0, none⟩) 1 1) [v] :=
 ⟨⟨_, 1, rfl, Nat.le_refl _, by omega, rfl, fun _ => ⟨_, rfl, hS⟩⟩, BK⟩
def UJ (f : Nat → Nat → Int) (j i a : Nat) : Int := if a < i then f a j else 0
theorem Rv (f : Nat → Nat → Int) (j i a : Nat) : (if a = i then f i j else UJ f j i a) = UJ f j (i + 1) a := by
 unfold UJ
 by_cases h : a = i
 ·rw [if_pos h, if_pos (by omega), h]
 ·rw [if_neg h]
  by_cases h2 : a < i
  ·rw [if_pos h2, if_pos (by omega)]
  ·rw [if_neg h2, if_neg (by omega)]
theorem Eb (p : Int) (r c : Nat) (f : Nat → Nat → Int) (ev : Value) (j : Nat) (h : Hp) (hr : r ≤ 400) (hc : c ≤ 400) (hj : j < c) (hR : RdL cI 1 h [] ev (mat r c f)) :
  FnT Tryz.prog 89 #[.agg #[.int .i64 p, .int .i64 r, .int .i64 c, ev], .int .i64 j] h [] (fun x h' ms' => h = h' ∧ ∃ m, ms' = [m] ∧ OwnL cI 1 3 m x (vec r fun i => f i j)) := by
 have o1 := hR.rd.one
 have hrc : r * c ≤ 400 * 400 := Nat.mul_le_mul hr hc
 refine Av func89 ntmps89 rfl rfl (fun w0 hw0 => ?_)
 simp only [A4]
 refine Ax ?_
 refine AS [_, _, _, _] rfl rfl (by rfl) rfl rfl rfl (fun g2 => ?_)
 refine Qm rfl (B3 (Qf Bh rfl (Ql rfl underlying3 (Cell.blk 0 rfl rfl) ?_)))
 refine Eu (n := r) rfl underlying24 A8 rfl rfl rfl (by rfl) (by rfl) (by omega) (by omega) rfl rfl rfl (fun g9 => ?_)
 refine Qm rfl (Aq (Ac (Ax (Qm rfl (Qx (Ml (ty := 24) rfl underlying24 rfl) rfl (Qm rfl (Aq (Ag ?_))))))))
 have hO0 := OwnL.rep (g := g9) (el := 3) r 0 (by omega)
 rw [G5] at hO0
 refine AD (fun q s hh ms' => ∃ (i : Nat) (m : Hp), q = r - i ∧ s = [(1, .int .i64 j), (2, .pointer (some ⟨g2, 0, none⟩)), (5, .slice (some ⟨g9, 0, none⟩) r r), (11, .int .i64 r), (12, .int .i64 i)] ∧ h = hh ∧ ms' = [m, AX g2 42 [.int .i64 p, .int .i64 r, .int .i64 c, ev]] ∧ i ≤ r ∧ OwnL cI 1 3 m (.slice (some ⟨g9, 0, none⟩) r r) (vec r (UJ f j i)))
  (r - 0) _ ⟨0, _, rfl, rfl, rfl, rfl, by omega, by rw [BA (f := UJ f j 0) (g := fun _ => 0) (fun a _ => if_neg (by omega))]; exact hO0⟩ Qs ?_
 rintro q s hh ms' ⟨i, m, rfl, rfl, rfl, rfl, hi, hO⟩
 refine Ax (Qm rfl (Aq (Ac ?_)))
 refine AF rfl (fun hlt => ?_) (fun hlt => ?_)
 ·have hir : i < r := by omega
  have hix := Cp hir hj
  have el : (mat r c f).length = r * c := AY _ _ _
  have el2 := AQ r (UJ f j i)
  refine Ai (Ab (Ac (Ag (Ax (Qm rfl (Qm rfl (IA (Qm rfl (Qm rfl (Qf Bc rfl (Ql rfl underlying24 (Cell.blk 1 rfl rfl) (Qm rfl (Qf A0 rfl (Ql rfl underlying3 (Cell.blk 1 rfl rfl) (Qx (oM rfl) rfl (Qm rfl (Qx (oA rfl) rfl (Qx (Ah (i * c + j) hR.rd.any rfl underlying24 A8 rfl rfl (by omega) (by omega)) rfl (Ql rfl underlying3 (hR.any.ent hir hj) (Qx (Dz (i) rfl underlying24 A8 rfl rfl (by omega) (by omega)) rfl (Bu 0 i hO rfl A8 rfl rfl rfl (by omega) rfl rfl (fun m' hO' => Ak (Aj (Ab (Ad (Qx (oA rfl) rfl (Qm rfl (Ak ?_))))))))))))))))))))))))))))
  refine Al (r - (i + 1)) _ (by omega) ⟨i + 1, m', rfl, rfl, rfl, rfl, by omega, ?_⟩ Qs
  rw [D6, BA (fun a _ => Rv f j i a)] at hO'
  exact hO'
 ·refine Aw (Aa (Aa (Af (Ab (Ax (Qm rfl (Qm rfl (Aq (Ao (AP 1 rfl ?_))))))))))
  exact Am rfl rfl (⟨rfl, m, rfl, by rw [show i = r by omega, BA (f := UJ f j r) (g := fun i => f i j) (fun a ha => if_pos ha)] at hO; exact hO⟩)
theorem Wr (n : Int) (h : Hp) (ms : List Hp) : Dq Tryz.prog 99 ([] ++ [Value.int .i64 n] ++ []).toArray h ms (.bool (decide (n ≠ 0))) := by
 refine Ds ?_ ms
 show FnT _ _ #[.int .i64 n] _ _ _
 refine Av func99 ntmps99 rfl rfl (fun w0 hw0 => ?_)
 simp only [A4]
 refine Ax (Qm rfl (B3 (Qm rfl (Qm rfl (Qm rfl (Aq (Ao ?_)))))))
 exact Am rfl rfl (rfl)
theorem UZ (l : List Int) (v : Value) (h : Hp) (hR : RdL cI 1 h [] v l) (ms : List Hp) : Dq Tryz.prog 69 #[v] h ms (.bool (decide (∀ x ∈ l, x = 0))) := by
 refine Ds ?_ ms
 refine Av func69 ntmps69 rfl rfl (fun w0 hw0 => ?_)
 simp only [A4]
 refine Ax (Qm rfl (B3 (Qm rfl (Qx (AG rfl call94 rfl (Ds (Ft l v 99 [] (fun n => decide (n ≠ 0)) h hR call99 (fun b _ ms => Wr b h ms)) _)) rfl (Qm rfl (Qm rfl (Aq (Ao ?_))))))))
 exact Am rfl rfl (by congr 1; rw [Bool.eq_iff_iff]; simp)
end Go.Proofs.YtdnelknieikbaaaGreat
namespace Go.Proofs.YtdnelknieikbaaaGreat
open Go.Proofs.Tryz
open Go.Eng Go.RowKit Go.Lin
def D2 (p : Int) (c : Nat) (f : Nat → Nat → Int) (w : Nat → Int) (i : Nat) : Int := ap f c w i % p
theorem IG (p : Int) (r c : Nat) (f : Nat → Nat → Int) (w : Nat → Int) (ev vv : Value) (h : Hp) (R : RtM p r c f) (hw : ∀ j, j < c → 0 ≤ w j ∧ w j < p) (hR : RdL cI 1 h [] ev (mat r c f)) (hV : RdL cI 1 h [] vv (vec c w)) :
  FnT Tryz.prog 67 #[.agg #[.int .i64 p, .int .i64 r, .int .i64 c, ev], vv] h [] (fun x h' ms' => h.le h' ∧ ∃ m, ms' = [m] ∧ OwnL cI 1 3 m x (vec r (D2 p c f w))) := by
 have o1 := hR.rd.one
 have o2 := hV.rd.one
 have rl := R.rl
 have cl := R.cl
 have ew := AQ c w
 have hRd : Rd h [] vv 1 c ((vec c w).flatMap cI) := by have := hV.rd; rwa [ew] at this
 refine Av func67 ntmps67 rfl rfl (fun w0 hw0 => ?_)
 simp only [A4]
 refine Ax ?_
 refine AS [_, _, _, _] rfl rfl (by rfl) rfl rfl rfl (fun g2 => ?_)
 refine Qm rfl (Aq (By 0 rfl fun h1 l1 hS => ?_))
 have hR1 := hR.up l1
 have hV1 := hV.up l1
 have hRd1 := hRd.le l1
 have hA := Seg.all hS
 have hA0 := hA 0 _ rfl
 refine Bv (fun s hh ms' => ∃ (mu : Hp) (eu : Value) (g5 : Nat), s = [(2, .pointer (some ⟨g2, 0, none⟩)), (5, .pointer (some ⟨g5, 0, none⟩))] ∧ h.le hh ∧ ms' = [mu, AX g5 42 [.int .i64 p, .int .i64 r, .int .i64 1, eu]] ∧ OwnL cI 1 3 mu eu (mat r 1 (Fb p c f fun a _ => w a))) ?_ (fun s h ms hI => ?_)
 ·have hcol : ∀ (h3 : Hp) (g : Nat), h1.le h3 → Seg h3 [] ⟨g, 0, none⟩ [vv] → RdV h3 (.slice (some ⟨g, 0, none⟩) 1 1) 1 c (fun _ => w) := fun h3 g l hG => ⟨[vv], rfl, RdL.one1 hG, fun j hj => by
   obtain rfl : j = 0 := by simpa using hj
   exact hV1.up l⟩
  refine AW (n := 15) (bs := [true, true, true, true, true, true, false, false, false, false, false, false, false, false, false]) [true, true, true, true, true, true] Cd (by kernel_rfl) (by kernel_rfl) rfl rfl (Qp rfl (oG rfl underlying42 AI (Seg.any hS)) (QF BE rfl (QL rfl underlying3 (hA0 _) (Qq rfl (Qp rfl (AJ hRd1.any rfl underlying24 rfl) (Qq rfl ?_))))))
  unfold CD
  simp only [List.cons_append, List.nil_append]
  refine A2 [6, 12] (by kernel_rfl) rfl ?_
  refine Az rfl ?_ ?_
  ·refine AB [_] rfl underlying62 BN rfl (Rd.cells ‹_›) rfl rfl (by omega) rfl rfl rfl (fun g14 => BD fun h3 l3 hG => ?_)
   have l13 := Hp.le_trans l1 l3
   refine Qa (A2 [7, 12] (by kernel_rfl) rfl ?_)
   refine Az rfl ?_ ?_
   ·refine Qc call97 rfl (Bi p c 1 (fun _ => w) _ h3 R.i64 cl (by omega) (hcol h3 _ l3 hG)) (fun v h4 ms4 l4 hF => ?_)
    obtain ⟨rfl, ec, mc, rfl, rfl, hOc⟩ := hF
    refine AH hOc fun h5 l5 hRc => ?_
    have l35 := Hp.le_trans l3 l5
    refine Qa (A2 [8, 12] (by kernel_rfl) rfl ?_)
    refine Az rfl ?_ ?_
    ·refine Qc call98 rfl (Gq p r c 1 f (fun i j => w i) ev ec h5 R ⟨R.pr, cl, by omega, fun i hi j hj => hw i hi⟩ (hR1.up l35) hRc) (fun v h6 ms6 l6 hF => ?_)
     obtain ⟨rfl, v, rfl, eu, mu, rfl, rfl, hOu⟩ := hF
     have ou : eu.oneCell' = true := (hOu.rd (h := h) (ms := [mu]) (List.Mem.head _)).rd.one
     refine Qa (An 9 7 (by kernel_rfl) rfl (by assumption) rfl (As rfl rfl) (An 10 17 (by kernel_rfl) rfl (by assumption) rfl (AC rfl rfl rfl) (An 11 18 (by kernel_rfl) rfl (by assumption) rfl (AC rfl rfl rfl) (Qo 12 rfl (BZ [.int .i64 0, .int .i64 0, .int .i64 0, .slice none 0 0] rfl AI rfl rfl (fun g5 => Qa (Qo 13 rfl ?_)))))))
     refine Sa 0 [_, _, _, _] AI rfl (by simp [ou]) ?_
     refine Qa (Qo 14 rfl (Qm rfl (Qa (Qe ?_))))
     exact A9 (AA _ ⟨mu, eu, g5, rfl, Hp.le_trans l1 l35, rfl, hOu⟩ Qs)
    refine Az rfl ?_ ?_
    ·refine BZ [.int .i64 0, .int .i64 0, .int .i64 0, .slice none 0 0] rfl AI rfl rfl (fun g5 => Qa (Qo 8 rfl ?_))
     refine Qc call98 rfl (Gq p r c 1 f (fun i j => w i) ev ec h5 R ⟨R.pr, cl, by omega, fun i hi j hj => hw i hi⟩ (hR1.up l35) hRc) (fun v h6 ms6 l6 hF => ?_)
     obtain ⟨rfl, v, rfl, eu, mu, rfl, rfl, hOu⟩ := hF
     have ou : eu.oneCell' = true := (hOu.rd (h := h) (ms := [mu]) (List.Mem.head _)).rd.one
     refine Qa (An 9 7 (by kernel_rfl) rfl (by assumption) rfl (As rfl rfl) (An 10 17 (by kernel_rfl) rfl (by assumption) rfl (AC rfl rfl rfl) (An 11 18 (by kernel_rfl) rfl (by assumption) rfl (AC rfl rfl rfl) (Qo 13 rfl ?_))))
     refine Sa 1 [_, _, _, _] AI rfl (by simp [ou]) ?_
     refine Qa (Qo 14 rfl (Qm rfl (Qa (Qe ?_))))
     exact AA _ ⟨mu, eu, g5, rfl, Hp.le_trans l1 l35, rfl, hOu⟩ Qs
    exact A3
   refine Az rfl ?_ ?_
   ·refine BZ [.int .i64 0, .int .i64 0, .int .i64 0, .slice none 0 0] rfl AI rfl rfl (fun g5 => Qa (Qo 7 rfl (Qc call97 rfl (Bi p c 1 (fun _ => w) _ h3 R.i64 cl (by omega) (hcol h3 _ l3 hG)) (fun v h4 ms4 l4 hF => ?_))))
    obtain ⟨rfl, ec, mc, rfl, rfl, hOc⟩ := hF
    refine AH hOc fun h5 l5 hRc => ?_
    have l35 := Hp.le_trans l3 l5
    refine Qa (Qo 8 rfl ?_)
    refine Qc call98 rfl (Gq p r c 1 f (fun i j => w i) ev ec h5 R ⟨R.pr, cl, by omega, fun i hi j hj => hw i hi⟩ (hR1.up l35) hRc) (fun v h6 ms6 l6 hF => ?_)
    obtain ⟨rfl, v, rfl, eu, mu, rfl, rfl, hOu⟩ := hF
    have ou : eu.oneCell' = true := (hOu.rd (h := h) (ms := [mu]) (List.Mem.head _)).rd.one
    refine Qa (An 9 7 (by kernel_rfl) rfl (by assumption) rfl (As rfl rfl) (An 10 17 (by kernel_rfl) rfl (by assumption) rfl (AC rfl rfl rfl) (An 11 18 (by kernel_rfl) rfl (by assumption) rfl (AC rfl rfl rfl) (Qo 13 rfl ?_))))
    refine Sa 1 [_, _, _, _] AI rfl (by simp [ou]) ?_
    refine Qa (Qo 14 rfl (Qm rfl (Qa (Qe ?_))))
    exact AA _ ⟨mu, eu, g5, rfl, Hp.le_trans l1 l35, rfl, hOu⟩ Qs
   exact A3
  refine Az rfl ?_ ?_
  ·refine BZ [.int .i64 0, .int .i64 0, .int .i64 0, .slice none 0 0] rfl AI rfl rfl (fun g5 => Qw (Qo 6 rfl (AB [_] rfl underlying62 BN rfl (Rd.cells ‹_›) rfl rfl (by omega) rfl rfl rfl (fun g14 => BD fun h3 l3 hG => ?_))))
   have l13 := Hp.le_trans l1 l3
   refine Qa (Qo 7 rfl (Qc call97 rfl (Bi p c 1 (fun _ => w) _ h3 R.i64 cl (by omega) (hcol h3 _ l3 hG)) (fun v h4 ms4 l4 hF => ?_)))
   obtain ⟨rfl, ec, mc, rfl, rfl, hOc⟩ := hF
   refine AH hOc fun h5 l5 hRc => ?_
   have l35 := Hp.le_trans l3 l5
   refine Qa (Qo 8 rfl ?_)
   refine Qc call98 rfl (Gq p r c 1 f (fun i j => w i) ev ec h5 R ⟨R.pr, cl, by omega, fun i hi j hj => hw i hi⟩ (hR1.up l35) hRc) (fun v h6 ms6 l6 hF => ?_)
   obtain ⟨rfl, v, rfl, eu, mu, rfl, rfl, hOu⟩ := hF
   have ou : eu.oneCell' = true := (hOu.rd (h := h) (ms := [mu]) (List.Mem.head _)).rd.one
   refine Qa (An 9 7 (by kernel_rfl) rfl (by assumption) rfl (As rfl rfl) (An 10 17 (by kernel_rfl) rfl (by assumption) rfl (AC rfl rfl rfl) (An 11 18 (by kernel_rfl) rfl (by assumption) rfl (AC rfl rfl rfl) (Qo 13 rfl ?_))))
   refine Sa 1 [_, _, _, _] AI rfl (by simp [ou]) ?_
   refine Qa (Qo 14 rfl (Qm rfl (Qa (Qe ?_))))
   exact AA _ ⟨mu, eu, g5, rfl, Hp.le_trans l1 l35, rfl, hOu⟩ Qs
  exact A3
 obtain ⟨mu, eu, g5, rfl, hl, rfl, hOu⟩ := hI
 ·refine Ac (Ad (Qx (oG rfl underlying42 AI (Seg.blk 1 rfl)) rfl (AH hOu fun h7 l7 hRu => (Qc call89 rfl (Eb p r 1 (Fb p c f fun a _ => w a) eu 0 h7 rl (by omega) (by omega) hRu) (fun x h8 ms8 l8 hF => ?_)))))
  obtain ⟨rfl, m, rfl, hO⟩ := hF
  refine Qm rfl (Aq (Ao (AP 1 rfl ?_)))
  exact Am rfl rfl (⟨Hp.le_trans hl l7, m, rfl, hO⟩)
end Go.Proofs.YtdnelknieikbaaaGreat
namespace Go.Proofs.YtdnelknieikbaaaGreat
open Go.Proofs.Tryz
open Go.Eng Go.RowKit Go.Lin
variable {l : List Int}
def Rp : List Int → Int
 | [] => 0
 | a :: l => l.foldl min a
def Qj : List Int → Int
 | [] => 0
 | a :: l => l.foldl max a
theorem Hl : ∀ (l : List Int) (a : Int), l.foldl min a ≤ a ∧ (∀ x ∈ l, l.foldl min a ≤ x) ∧ (l.foldl min a = a ∨ l.foldl min a ∈ l)
 | [], a => ⟨Int.le_refl _, by simp, .inl rfl⟩
 | b :: l, a => by
  obtain ⟨h1, h2, h3⟩ := Hl l (min a b)
  rw [List.foldl_cons]
  refine ⟨by omega, fun x hx => ?_, ?_⟩
  ·rcases List.mem_cons.1 hx with rfl | hx
   ·omega
   ·exact h2 x hx
  ·rcases h3 with h3 | h3
   ·rw [h3]
    rcases (by omega : min a b = a ∨ min a b = b) with h | h
    ·exact .inl h
    ·exact .inr (by rw [h]; exact List.mem_cons_self)
   ·exact .inr (List.mem_cons_of_mem _ h3)
theorem Gz : ∀ (l : List Int) (a : Int), a ≤ l.foldl max a ∧ (∀ x ∈ l, x ≤ l.foldl max a) ∧ (l.foldl max a = a ∨ l.foldl max a ∈ l)
 | [], a => ⟨Int.le_refl _, by simp, .inl rfl⟩
 | b :: l, a => by
  obtain ⟨h1, h2, h3⟩ := Gz l (max a b)
  rw [List.foldl_cons]
  refine ⟨by omega, fun x hx => ?_, ?_⟩
  ·rcases List.mem_cons.1 hx with rfl | hx
   ·omega
   ·exact h2 x hx
  ·rcases h3 with h3 | h3
   ·rw [h3]
    rcases (by omega : max a b = a ∨ max a b = b) with h | h
    ·exact .inl h
    ·exact .inr (by rw [h]; exact List.mem_cons_self)
   ·exact .inr (List.mem_cons_of_mem _ h3)
theorem LW (hl : 0 < l.length) : Rp l < 0 ↔ ∃ x ∈ l, x < 0 := by
 cases l with
 | nil => simp at hl
 | cons a l =>
  obtain ⟨h1, h2, h3⟩ := Hl l a
  show l.foldl min a < 0 ↔ _
  constructor
  ·intro h
   rcases h3 with h3 | h3
   ·exact ⟨a, List.mem_cons_self, by omega⟩
   ·exact ⟨_, List.mem_cons_of_mem _ h3, h⟩
  ·rintro ⟨x, hx, h⟩
   rcases List.mem_cons.1 hx with rfl | hx
   ·omega
   ·have := h2 x hx; omega
theorem KO (hl : 0 < l.length) (n : Int) : n < Qj l ↔ ∃ x ∈ l, n < x := by
 cases l with
 | nil => simp at hl
 | cons a l =>
  obtain ⟨h1, h2, h3⟩ := Gz l a
  show n < l.foldl max a ↔ _
  constructor
  ·intro h
   rcases h3 with h3 | h3
   ·exact ⟨a, List.mem_cons_self, by omega⟩
   ·exact ⟨_, List.mem_cons_of_mem _ h3, h⟩
  ·rintro ⟨x, hx, h⟩
   rcases List.mem_cons.1 hx with rfl | hx
   ·omega
   ·have := h2 x hx; omega
theorem OP {k : Nat} (hk : k < l.length) (h0 : 0 < k) : Rp (l.take (k + 1)) = min (Rp (l.take k)) l[k] := by
 cases l with
 | nil => simp at hk
 | cons a l =>
  obtain ⟨k, rfl⟩ : ∃ j, k = j + 1 := ⟨k - 1, by omega⟩
  simp only [List.length_cons] at hk
  have hk' : k < l.length := by omega
  rw [List.take_succ_cons, List.take_succ_cons]
  show (l.take (k + 1)).foldl min a = min ((l.take k).foldl min a) l[k]
  rw [List.take_add_one, List.getElem?_eq_getElem hk', Option.toList_some, List.foldl_append]
  rfl
theorem Pn {k : Nat} (hk : k < l.length) (h0 : 0 < k) : Qj (l.take (k + 1)) = max (Qj (l.take k)) l[k] := by
 cases l with
 | nil => simp at hk
 | cons a l =>
  obtain ⟨k, rfl⟩ : ∃ j, k = j + 1 := ⟨k - 1, by omega⟩
  simp only [List.length_cons] at hk
  have hk' : k < l.length := by omega
  rw [List.take_succ_cons, List.take_succ_cons]
  show (l.take (k + 1)).foldl max a = max ((l.take k).foldl max a) l[k]
  rw [List.take_add_one, List.getElem?_eq_getElem hk', Option.toList_some, List.foldl_append]
  rfl
theorem VL (l : List Int) (v : Value) (h : Hp) (hR : RdL cI 1 h [] v l) (hl : 0 < l.length) (ms : List Hp) : Dq Tryz.prog 71 #[v] h ms (.int .i64 (Rp l)) := by
 refine Ds ?_ ms
 have hle := hR.len_le
 refine Av func71 ntmps71 rfl rfl (fun w0 hw0 => ?_)
 simp only [A4]
 refine Ax (Qm rfl (Aq (Ac (Ax (Qm rfl (Qx (AJ hR.rd.any rfl underlying24 rfl) rfl (Qm rfl (Aq (AF rfl (fun hc => absurd hc (by omega)) (fun hc => Ai (Ab (Ax (Qm rfl (Qx (Ah 0 hR.rd.any rfl underlying24 A8 rfl rfl rfl (by omega)) rfl (Ql rfl underlying3 (hR.any.cell0 hl rfl) (Qm rfl (Aq (Ac (Ax (Qm rfl (Aq (Ag ?_))))))))))))))))))))))
 refine AD (fun q s h' ms' => ∃ (k : Nat) (y : Int), q = l.length - k ∧ s = [(0, v), (3, .int .i64 y), (4, .int .i64 k)] ∧ h = h' ∧ ms' = [] ∧ y = Rp (l.take k) ∧ 0 < k ∧ k ≤ l.length)
  (l.length - 1) _ ⟨1, _, rfl, rfl, rfl, rfl, ?_, by omega, by omega⟩ Qs ?_
 ·cases l with
  | nil => simp at hl
  | cons a l => rfl
 rintro q s h' ms' ⟨k, y, rfl, rfl, rfl, rfl, hy, h0, hk⟩
 refine Ac (Ax (Qm rfl (Qm rfl (Qx (AJ hR.rd.any rfl underlying24 rfl) rfl (Qm rfl (Aq ?_))))))
 refine AF rfl (fun hlt => ?_) (fun hlt => ?_)
 ·have hlt' : k < l.length := by omega
  have htk := OP hlt' h0
  refine Ai (Ab (Ac (Ag (Ad (Qm rfl (Qm rfl (Qm rfl (Qx (Ah _ hR.rd.any rfl underlying24 A8 rfl rfl rfl (by omega)) rfl (Ql rfl underlying3 (hR.any.cell0 hlt' rfl) (Qx (MX rfl rfl rfl) rfl (Qm rfl (Ak (Aj (Ab (Ad (Qm rfl (Qx (oA rfl) rfl (Qm rfl (Ak ?_)))))))))))))))))))
  refine Al (l.length - (k + 1)) _ (by omega) ⟨k + 1, min y l[k], rfl, rfl, rfl, rfl, by rw [htk, hy], by omega, by omega⟩ Qs
 ·refine Aw (Aa (Aa (Af (Ab (Ax (Qm rfl (Qm rfl (Aq (Ao ?_)))))))))
  exact Am rfl rfl (by rw [hy, List.take_of_length_le (show l.length ≤ k by omega)])
theorem V7 (l : List Int) (v : Value) (h : Hp) (hR : RdL cI 1 h [] v l) (hl : 0 < l.length) (ms : List Hp) : Dq Tryz.prog 72 #[v] h ms (.int .i64 (Qj l)) := by
 refine Ds ?_ ms
 have hle := hR.len_le
 refine Av func72 ntmps72 rfl rfl (fun w0 hw0 => ?_)
 simp only [A4]
 refine Ax (Qm rfl (Aq (Ac (Ax (Qm rfl (Qx (AJ hR.rd.any rfl underlying24 rfl) rfl (Qm rfl (Aq (AF rfl (fun hc => absurd hc (by omega)) (fun hc => Ai (Ab (Ax (Qm rfl (Qx (Ah 0 hR.rd.any rfl underlying24 A8 rfl rfl rfl (by omega)) rfl (Ql rfl underlying3 (hR.any.cell0 hl rfl) (Qm rfl (Aq (Ac (Ax (Qm rfl (Aq (Ag ?_))))))))))))))))))))))
 refine AD (fun q s h' ms' => ∃ (k : Nat) (y : Int), q = l.length - k ∧ s = [(0, v), (3, .int .i64 y), (4, .int .i64 k)] ∧ h = h' ∧ ms' = [] ∧ y = Qj (l.take k) ∧ 0 < k ∧ k ≤ l.length)
  (l.length - 1) _ ⟨1, _, rfl, rfl, rfl, rfl, ?_, by omega, by omega⟩ Qs ?_
 ·cases l with
  | nil => simp at hl
  | cons a l => rfl
 rintro q s h' ms' ⟨k, y, rfl, rfl, rfl, rfl, hy, h0, hk⟩
 refine Ac (Ax (Qm rfl (Qm rfl (Qx (AJ hR.rd.any rfl underlying24 rfl) rfl (Qm rfl (Aq ?_))))))
 refine AF rfl (fun hlt => ?_) (fun hlt => ?_)
 ·have hlt' : k < l.length := by omega
  have htk := Pn hlt' h0
  refine Ai (Ab (Ac (Ag (Ad (Qm rfl (Qm rfl (Qm rfl (Qx (Ah _ hR.rd.any rfl underlying24 A8 rfl rfl rfl (by omega)) rfl (Ql rfl underlying3 (hR.any.cell0 hlt' rfl) (Qx (JV rfl rfl rfl) rfl (Qm rfl (Ak (Aj (Ab (Ad (Qm rfl (Qx (oA rfl) rfl (Qm rfl (Ak ?_)))))))))))))))))))
  refine Al (l.length - (k + 1)) _ (by omega) ⟨k + 1, max y l[k], rfl, rfl, rfl, rfl, by rw [htk, hy], by omega, by omega⟩ Qs
 ·refine Aw (Aa (Aa (Af (Ab (Ax (Qm rfl (Qm rfl (Aq (Ao ?_)))))))))
  exact Am rfl rfl (by rw [hy, List.take_of_length_le (show l.length ≤ k by omega)])
end Go.Proofs.YtdnelknieikbaaaGreat
namespace Go.Proofs.YtdnelknieikbaaaGreat
open Go.Proofs.Tryz
open Go.Eng Go.RowKit Go.Lin
variable {h : Hp} {ms : List Hp}
structure Ar where
 b : Bool
 M : FM
 v : Value
def cA (a : Ar) : List Value := [.bool a.b, .int .i64 a.M.p, .int .i64 a.M.rows, .int .i64 a.M.cols, a.v]
theorem Fm : ∀ a, (cA a).length = 5 := fun _ => rfl
structure Zz where
 p : Int
 dims : List Int
 ars : List Ar
def Zz.dim (Z : Zz) (k : Nat) : Int := Z.dims.getD k 0
structure Zz.Ok (Z : Zz) : Prop where
 p : Dh Z.p
 d : ∀ x ∈ Z.dims, Dh x
 m : ∀ a ∈ Z.ars, a.M.Ok
structure RdZ (h : Hp) (vd va : Value) (Z : Zz) : Prop where
 d : RdL cI 1 h [] vd Z.dims
 a : RdL cA 5 h [] va Z.ars
 e : ∀ a ∈ Z.ars, RdL cI 1 h [] a.v a.M.e
theorem RdZ.up {h' : Hp} {vd va : Value} {Z : Zz} (R : RdZ h vd va Z) (hl : h.le h') : RdZ h' vd va Z := ⟨R.d.up hl, R.a.up hl, fun a ha => (R.e a ha).up hl⟩
def Ar.src (a : Ar) (k : Nat) : Nat := if a.b then k + 1 else k
def Ar.tgt (a : Ar) (k : Nat) : Nat := if a.b then k else k + 1
def Zz.Fit (Z : Zz) (k : Nat) (a : Ar) : Prop := a.M.Rt ∧ a.M.p = Z.p ∧ a.M.cols = Z.dim (a.src k) ∧ a.M.rows = Z.dim (a.tgt k)
instance (Z : Zz) (k : Nat) (a : Ar) : Decidable (Z.Fit k a) := by unfold Zz.Fit; infer_instance
def Zz.Rt (Z : Zz) : Prop := 1 ≤ Z.dims.length ∧ Z.dims.length ≤ 100 ∧ (Z.ars.length : Int) = (Z.dims.length : Int) - 1 ∧ IsP Z.p ∧ (∀ x ∈ Z.dims, 0 ≤ x ∧ x ≤ 200) ∧ ∀ k (hk : k < Z.ars.length), Z.Fit k Z.ars[k]
instance (Z : Zz) : Decidable Z.Rt := by unfold Zz.Rt; infer_instance
theorem UP (Z : Zz) (vd va : Value) (k : Nat) (h : Hp) (hR : RdZ h vd va Z) (hk : k < Z.ars.length) (ms : List Hp) :
  Dq Tryz.prog 65 #[.agg #[.int .i64 Z.p, vd, va], .int .i64 k] h ms (.tuple #[.int .i64 ((Z.ars[k]).src k : Nat), .int .i64 ((Z.ars[k]).tgt k : Nat)]) := by
 refine Ds ?_ ms
 have hl := hR.a.len_le
 have o1 := hR.d.rd.one
 have o2 := hR.a.rd.one
 refine Av func65 ntmps65 rfl rfl (fun w0 hw0 => ?_)
 simp only [A4]
 refine Ax ?_
 refine AS [_, _, _] rfl rfl (by rfl) rfl rfl rfl (fun g2 => ?_)
 refine Qm rfl (Qm rfl (Aq (Ac (Ax (Qf BQ rfl (Ql rfl underlying28 (Cell.blk 0 rfl rfl) (Qm rfl (Qx (Ah _ hR.a.rd.any rfl underlying28 Cr rfl rfl rfl (by omega)) rfl (Qf EK rfl (Ql rfl underlying4 (hR.a.any.cell hk rfl) (Aq ?_)))))))))))
 refine BJ rfl (fun hb => ?_) (fun hb => ?_)
 ·refine Ac (Ad (Qm rfl (Qx (oA rfl) rfl (Qm rfl (Qm rfl (Qm rfl (Aq (Ao (Ae ?_)))))))))
  exact FX rfl rfl rfl (by unfold Ar.src Ar.tgt; rw [hb]; rfl)
 ·refine Ai (Ab (Ax (Qm rfl (Qm rfl (Qx (oA rfl) rfl (Qm rfl (Qm rfl (Aq (Ao ?_)))))))))
  exact FX rfl rfl rfl (by unfold Ar.src Ar.tgt; rw [hb]; rfl)
theorem N7 {g : Nat} {a b c d e : Value} {i : Nat} (hm : ms[i]? = some (AX g 45 [a, b, c, d, e])) : Seg h ms ((⟨g, 0, none⟩ : Addr).add 1) [b, c, d, e] := fun k u hu => by
 rw [A6]
 refine Cell.blk i hm ?_
 rw [Nat.add_comm]
 exact hu
theorem I9 {g : Nat} {a b c d e u : Value} {i k : Nat} (hm : ms[i]? = some (AX g 45 [a, b, c, d, e])) (hk : ([b, c, d, e] : List Value)[k]? = some u) : Cell h ms (((⟨g, 0, none⟩ : Addr).add 1).add k) u := N7 hm k u hk
theorem H8 {vd va : Value} {Z : Zz} (hR : RdZ h vd va Z) {k : Nat} (hk : k < Z.dims.length) : Cell h ms ((Bl vd).add (k * 1)) (.int .i64 (Z.dim k)) := by
 have := hR.d.any (ms := ms) |>.cell0 hk (u := .int .i64 Z.dims[k]) rfl
 have e : Z.dims[k] = Z.dim k := by unfold Zz.dim; simp [List.getD_eq_getElem?_getD, hk]
 rw [e] at this
 exact this
theorem FT (Z : Zz) (vd va : Value) (h : Hp) (hO : Z.Ok) (hR : RdZ h vd va Z) :
  FnT Tryz.prog 35 #[.agg #[.int .i64 Z.p, vd, va]] h [] (fun r _ _ => r = .bool (decide Z.Rt)) := by
 have hl := hR.a.len_le
 have hld := hR.d.len_le
 have o1 := hR.d.rd.one
 have o2 := hR.a.rd.one
 refine Av func35 ntmps35 rfl rfl (fun w0 hw0 => ?_)
 simp only [A4]
 refine Ax ?_
 refine AS [_, _, _] rfl rfl (by rfl) rfl rfl rfl (fun g1 => ?_)
 refine Qm rfl (Aq (AL fun h' hle hS => ?_))
 have hR := hR.up hle
 have hA := Seg.all hS
 have hA0 := hA 0 _ rfl
 refine Ax (Qf Bn rfl (Ql rfl underlying24 (hA _ _ rfl _) (Qx (AJ hR.d.rd.any rfl underlying24 rfl) rfl (Qm rfl (Aq (Ac (Ax (Qm rfl (Qm rfl (Qm rfl ?_))))))))))
 refine AR (t := 13) rfl (fun hs1 => ?_) (fun hs1 => ?_)
 ·refine Qk rfl (Qk rfl (Qm rfl (Qm rfl (Qk rfl (Qk rfl (Qk rfl (Qk rfl (Qk rfl (Qk rfl (Qm rfl (Qm rfl (Qk rfl (Qk rfl (Qk rfl (Qk rfl (Qm rfl (Aq (AU rfl (Ax (Qm rfl (Aq (Ao (Ae ?_)))))))))))))))))))))))
  exact Am rfl rfl (by rw [decide_eq_false]; rintro ⟨h1, _⟩; omega)
 ·refine Qg (As rfl rfl) rfl (Qg (Dd rfl rfl rfl) rfl (Qm rfl (Qm rfl ?_)))
  refine AR (t := 17) rfl (fun hs2 => ?_) (fun hs2 => ?_)
  ·refine Qk rfl (Qk rfl (Qk rfl (Qk rfl (Qk rfl (Qk rfl (Qm rfl (Qm rfl (Qk rfl (Qk rfl (Qk rfl (Qk rfl (Qm rfl (Aq (AU rfl (Ax (Qm rfl (Aq (Ao (Ae ?_)))))))))))))))))))
   exact Am rfl rfl (by rw [decide_eq_false]; rintro ⟨_, h1, _⟩; omega)
  ·refine Qg (oF BQ rfl) rfl (Qg (oL rfl underlying28 (hA _ _ rfl _)) rfl (Qg (AJ hR.a.rd.any rfl underlying28 rfl) rfl (Qg (As rfl rfl) rfl (Qg (oS rfl) rfl (Qg (B4 rfl rfl rfl) rfl (Qm rfl (Qm rfl ?_)))))))
   refine AR (t := 25) rfl (fun hs3 => ?_) (fun hs3 => ?_)
   ·refine Qk rfl (Qk rfl (Qk rfl (Qk rfl (Qm rfl (Aq (AU rfl (Ax (Qm rfl (Aq (Ao (Ae ?_)))))))))))
    exact Am rfl rfl (by rw [decide_eq_false]; rintro ⟨_, _, h1, _⟩; omega)
   ·refine Qg (oF CG rfl) rfl (Qg (oL rfl underlying3 (hA0 _)) rfl (Qg (AG rfl call70 rfl (N3 _ _ hO.p _)) rfl (Qg (CP rfl rfl) rfl (Qm rfl (Aq ?_)))))
    refine BJ rfl (fun hp => ?_) (fun hp => ?_)
    ·have hp : ¬ IsP Z.p := by simpa using hp
     refine Ax (Qm rfl (Aq (Ao (Ae ?_))))
     exact Am rfl rfl (by rw [decide_eq_false]; rintro ⟨_, _, _, h1, _⟩; exact hp h1)
    ·have hp : IsP Z.p := by simpa using hp
     have hd0 : 0 < Z.dims.length := by omega
     have hlen : (Z.ars.length : Int) = (Z.dims.length : Int) - 1 := by omega
     refine Ai (Ab (Ac (Ax (Qf Bn rfl (Ql rfl underlying24 (hA _ _ rfl _) (Qx (AG rfl call71 rfl (VL _ _ _ hR.d hd0 _)) rfl (Qm rfl (Qm rfl ?_))))))))
     refine AR (t := 35) rfl (fun hm1 => ?_) (fun hm1 => ?_)
     ·obtain ⟨x, hx, hx0⟩ := (LW hd0).1 hm1
      refine Qk rfl (Qk rfl (Qk rfl (Qk rfl (Qm rfl (Aq (AU rfl (Ax (Qm rfl (Aq (Ao (Ae ?_)))))))))))
      exact Am rfl rfl (by rw [decide_eq_false]; rintro ⟨_, _, _, _, h1, _⟩; have := h1 x hx; omega)
     ·refine Qg (oF Bn rfl) rfl (Qg (oL rfl underlying24 (hA _ _ rfl _)) rfl (Qg (AG rfl call72 rfl (V7 _ _ _ hR.d hd0 _)) rfl (Qg (Dd rfl rfl rfl) rfl (Qm rfl (Aq ?_)))))
      refine AF rfl (fun hm2 => ?_) (fun hm2 => ?_)
      ·obtain ⟨x, hx, hx0⟩ := (KO hd0 200).1 hm2
       refine Ax (Qm rfl (Aq (Ao (Ae ?_))))
       exact Am rfl rfl (by rw [decide_eq_false]; rintro ⟨_, _, _, _, h1, _⟩; have := h1 x hx; omega)
      ·have hdims : ∀ x ∈ Z.dims, 0 ≤ x ∧ x ≤ 200 := fun x hx => ⟨Int.not_lt.1 fun hn => hm1 ((LW hd0).2 ⟨x, hx, hn⟩), Int.not_lt.1 fun hn => hm2 ((KO hd0 200).2 ⟨x, hx, hn⟩)⟩
       refine Ai (Ab (Ac (Ax (Qf BQ rfl (Ql rfl underlying28 (hA _ _ rfl _) (Qx (AJ hR.a.rd.any rfl underlying28 rfl) rfl (Qm rfl (Aq (Ag ?_)))))))))
       refine AD (fun q s hh ms' => ∃ (k : Nat), q = Z.ars.length - k ∧ s = [(1, .pointer (some ⟨g1, 0, none⟩)), (42, va), (43, .int .i64 Z.ars.length), (44, .int .i64 k)] ∧ h' = hh ∧ ms' = [] ∧ k ≤ Z.ars.length ∧ ∀ j (hj : j < Z.ars.length), j < k → Z.Fit j Z.ars[j])
        (Z.ars.length - 0) _ ⟨0, rfl, rfl, rfl, rfl, by omega, fun j hj h => by omega⟩ Qs ?_
       rintro q s hh ms' ⟨k, rfl, rfl, rfl, rfl, hk, hfit⟩
       refine Ax (Qm rfl (Aq (Ac ?_)))
       refine AF rfl (fun hlt => ?_) (fun hlt => ?_)
       ·have hk' : k < Z.ars.length := by omega
        have hmem : Z.ars[k] ∈ Z.ars := List.getElem_mem hk'
        have hRe := hR.e _ hmem
        have hMO := hO.m _ hmem
        have oa := hRe.rd.one
        have hsrc : (Z.ars[k]).src k < Z.dims.length := by unfold Ar.src; split <;> omega
        have htgt : (Z.ars[k]).tgt k < Z.dims.length := by unfold Ar.tgt; split <;> omega
        refine Ai (Ab (Ac (Ag (Ax (Qm rfl (Qx (Ah _ hR.a.rd.any rfl underlying28 Cr rfl rfl rfl (by omega)) rfl (Qx (oG rfl underlying45 Cr (hR.a.any.seg hk')) rfl (BZ [.bool false, .int .i64 0, .int .i64 0, .int .i64 0, .slice none 0 0] rfl Cr rfl rfl (fun g5 => Qm rfl ?_)))))))))
        refine Sa 0 [_, _, _, _, _] Cr rfl (by simp [oa]) ?_
        refine B3 (Qx (oG rfl underlying30 Bz (Seg.any hS)) rfl (Qm rfl (Qx (AG rfl call65 rfl (UP Z vd va k h' hR hk' _)) rfl (Qm rfl (Qm rfl (Qm rfl (Qm rfl (Qm rfl (Aq (Ac (BB 32 Cd (by kernel_rfl) rfl (Wf Ca rfl (AV (oG rfl underlying42 AI (N7 (i := 0) rfl)) rfl rfl (AV (AG rfl call73 rfl (Ds (GX (Z.ars[k]).M (Z.ars[k]).v h' hMO hRe) _)) rfl rfl (Wm rfl (Wm rfl ?_))))))))))))))))
        refine OQ (t := 59) rfl (fun hb1 => ?_) (fun hb1 => ?_)
        ·refine AN rfl rfl rfl rfl rfl (AN rfl rfl rfl rfl rfl (AN rfl rfl rfl rfl rfl (AN rfl rfl rfl rfl rfl (AN rfl rfl rfl rfl rfl (AN rfl rfl rfl rfl rfl (Wm rfl (Wm rfl (AN rfl rfl rfl rfl rfl (AN rfl rfl rfl rfl rfl (AN rfl rfl rfl rfl rfl (AN rfl rfl rfl rfl rfl (AN rfl rfl rfl rfl rfl (AN rfl rfl rfl rfl rfl (AN rfl rfl rfl rfl rfl (AN rfl rfl rfl rfl rfl (AN rfl rfl rfl rfl rfl (Wm rfl (Wm rfl (AN rfl rfl rfl rfl rfl (AN rfl rfl rfl rfl rfl (AN rfl rfl rfl rfl rfl (AN rfl rfl rfl rfl rfl (AN rfl rfl rfl rfl rfl (AN rfl rfl rfl rfl rfl (AN rfl rfl rfl rfl rfl (AN rfl rfl rfl rfl rfl (BC (Qk rfl (Qm rfl (Aq (AU rfl (Ax (Qm rfl (Aq (Ao (Ap (Ae (Ae (Ap ?_)))))))))))))))))))))))))))))))))))))))
         refine Ae ?_
         exact Am rfl rfl (by rw [decide_eq_false]; rintro ⟨_, _, _, _, _, h1⟩; have := (h1 k hk').1; simp [this] at hb1)
        ·have hb1 : (Z.ars[k]).M.Rt := by simpa using hb1
         refine Bp (oF Ca rfl) rfl rfl rfl rfl (Bp (oF BE rfl) rfl rfl rfl rfl (Bp (oL rfl underlying3 (I9 (i := 0) rfl rfl)) rfl rfl rfl rfl (Bp (oF CG rfl) rfl rfl rfl rfl (Bp (oL rfl underlying3 (hA0 _)) rfl rfl rfl rfl (Bp (B4 rfl rfl rfl) rfl rfl rfl rfl (Wm rfl (Wm rfl ?_)))))))
         refine DR (t := 67) rfl (fun hb2 => ?_) (fun hb2 => ?_)
         ·refine AN rfl rfl rfl rfl rfl (AN rfl rfl rfl rfl rfl (AN rfl rfl rfl rfl rfl (AN rfl rfl rfl rfl rfl (AN rfl rfl rfl rfl rfl (AN rfl rfl rfl rfl rfl (AN rfl rfl rfl rfl rfl (AN rfl rfl rfl rfl rfl (AN rfl rfl rfl rfl rfl (Wm rfl (Wm rfl (AN rfl rfl rfl rfl rfl (AN rfl rfl rfl rfl rfl (AN rfl rfl rfl rfl rfl (AN rfl rfl rfl rfl rfl (AN rfl rfl rfl rfl rfl (AN rfl rfl rfl rfl rfl (AN rfl rfl rfl rfl rfl (AN rfl rfl rfl rfl rfl (BC (Qk rfl (Qm rfl (Aq (AU rfl (Ax (Qm rfl (Aq (Ao (Ap (Ae (Ae (Ap (Ae ?_))))))))))))))))))))))))))))))))
          exact Am rfl rfl (by rw [decide_eq_false]; rintro ⟨_, _, _, _, _, h1⟩; exact hb2 (h1 k hk').2.1)
         ·refine Bp (oF Ca rfl) rfl rfl rfl rfl (Bp (oF A0 rfl) rfl rfl rfl rfl (Bp (oL rfl underlying3 (I9 (i := 0) rfl rfl)) rfl rfl rfl rfl (Bp (oF Bn rfl) rfl rfl rfl rfl (Bp (oL rfl underlying24 (hA _ _ rfl _)) rfl rfl rfl rfl (Bp (As rfl rfl) rfl rfl rfl rfl (Bp (Ah _ hR.d.rd.any rfl underlying24 A8 rfl rfl rfl (by omega)) rfl rfl rfl rfl (Bp (oL rfl underlying3 (H8 hR hsrc)) rfl rfl rfl rfl (Bp (B4 rfl rfl rfl) rfl rfl rfl rfl (Wm rfl (Wm rfl ?_))))))))))
          refine DR (t := 78) rfl (fun hb3 => ?_) (fun hb3 => ?_)
          ·refine AN rfl rfl rfl rfl rfl (AN rfl rfl rfl rfl rfl (AN rfl rfl rfl rfl rfl (AN rfl rfl rfl rfl rfl (AN rfl rfl rfl rfl rfl (AN rfl rfl rfl rfl rfl (AN rfl rfl rfl rfl rfl (AN rfl rfl rfl rfl rfl (BC (Qk rfl (Qm rfl (Aq (AU rfl (Ax (Qm rfl (Aq (Ao (Ap (Ae (Ae (Ap (Ae ?_)))))))))))))))))))))
           exact Am rfl rfl (by rw [decide_eq_false]; rintro ⟨_, _, _, _, _, h1⟩; exact hb3 (h1 k hk').2.2.1)
          ·refine Bp (oF Ca rfl) rfl rfl rfl rfl (Bp (oF Bh rfl) rfl rfl rfl rfl (Bp (oL rfl underlying3 (I9 (i := 0) rfl rfl)) rfl rfl rfl rfl (Bp (oF Bn rfl) rfl rfl rfl rfl (Bp (oL rfl underlying24 (hA _ _ rfl _)) rfl rfl rfl rfl (Bp (As rfl rfl) rfl rfl rfl rfl (Bp (Ah _ hR.d.rd.any rfl underlying24 A8 rfl rfl rfl (by omega)) rfl rfl rfl rfl (Bp (oL rfl underlying3 (H8 hR htgt)) rfl rfl rfl rfl (BC (Qg (B4 rfl rfl rfl) rfl (Qm rfl (Aq ?_)))))))))))
           refine AF rfl (fun hb4 => ?_) (fun hb4 => ?_)
           ·refine Ac (Ad (Qm rfl (Aq (Ao (Ap (Ae (Ae (Ap (Ae ?_)))))))))
            exact Am rfl rfl (by rw [decide_eq_false]; rintro ⟨_, _, _, _, _, h1⟩; exact hb4 (h1 k hk').2.2.2)
           ·refine Ai (Aj (Ab (Ad (Qx (oA rfl) rfl (Qm rfl (Ak (A5 ?_)))))))
            refine Al (Z.ars.length - (k + 1)) _ (by omega) ⟨k + 1, rfl, rfl, rfl, rfl, by omega, fun j hj h1 => ?_⟩ Qs
            rcases (by omega : j < k ∨ j = k) with h2 | rfl
            ·exact hfit j hj h2
            ·exact ⟨hb1, Decidable.not_not.1 hb2, Decidable.not_not.1 hb3, Decidable.not_not.1 hb4⟩
       ·refine Aw (Aa (Aa (Af (Ab (Ax (Qm rfl (Aq (Ao ?_))))))))
        exact Am rfl rfl (by rw [decide_eq_true]; exact ⟨by omega, by omega, hlen, hp, hdims, fun j hj => hfit j hj (by omega)⟩)
end Go.Proofs.YtdnelknieikbaaaGreat
namespace Go.Proofs.YtdnelknieikbaaaGreat
open Go.Proofs.Tryz
open Go.Eng Go.RowKit Go.Lin
theorem FQ {h : Hp} {ms : List Hp} {vd va : Value} {Z : Zz} (hR : RdZ h vd va Z) {k : Nat} (hk : k < Z.ars.length) : Seg h ms (((Bl va).add (k * 5)).add 1) [.int .i64 (Z.ars[k]).M.p, .int .i64 (Z.ars[k]).M.rows, .int .i64 (Z.ars[k]).M.cols, (Z.ars[k]).v] := fun i u hu => by
 rw [A6]
 have hR2 := hR.a.any (ms := ms)
 refine hR2.cell hk (f := 1 + i) ?_
 rw [Nat.add_comm]
 exact hu
theorem Ff (Z : Zz) (vd va : Value) (h : Hp) (hO : Z.Ok) (hR : RdZ h vd va Z) :
  FnT Tryz.prog 22 #[.agg #[.int .i64 Z.p, vd, va]] h [] (fun r _ _ => r = .bool (decide Z.Rt)) := by
 have hl := hR.a.len_le
 have hld := hR.d.len_le
 have o1 := hR.d.rd.one
 have o2 := hR.a.rd.one
 refine Av func22 ntmps22 rfl rfl (fun w0 hw0 => ?_)
 simp only [A4]
 refine Ax ?_
 refine AS [_, _, _] rfl rfl (by rfl) rfl rfl rfl (fun g1 => ?_)
 refine Qm rfl (Aq (AL fun h' hle hS => ?_))
 have hR := hR.up hle
 have hA := Seg.all hS
 have hA0 := hA 0 _ rfl
 refine Ax (Qf Bn rfl (Ql rfl underlying24 (hA _ _ rfl _) (Qx (AJ hR.d.rd.any rfl underlying24 rfl) rfl (Qm rfl (B3 (Qf CG rfl (Ql rfl underlying3 (hA0 _) (Qx (AG rfl call45 rfl (Is _ _ hO.p _)) rfl (Qm rfl (Aq (Ac (Ax (Qm rfl (Qm rfl (Qm rfl ?_)))))))))))))))
 refine AR (t := 19) rfl (fun hs1 => ?_) (fun hs1 => ?_)
 ·refine Qk rfl (Qk rfl (Qm rfl (Qm rfl (Qk rfl (Qk rfl (Qk rfl (Qk rfl (Qk rfl (Qk rfl (Qm rfl (Qm rfl (Qk rfl (Qk rfl (Qm rfl (Aq (AU rfl (Ax (Qm rfl (Aq (Ao (Ae ?_)))))))))))))))))))))
  exact Am rfl rfl (by rw [decide_eq_false]; rintro ⟨h1, _⟩; omega)
 ·refine Qg (As rfl rfl) rfl (Qg (Dd rfl rfl rfl) rfl (Qm rfl (Qm rfl ?_)))
  refine AR (t := 23) rfl (fun hs2 => ?_) (fun hs2 => ?_)
  ·refine Qk rfl (Qk rfl (Qk rfl (Qk rfl (Qk rfl (Qk rfl (Qm rfl (Qm rfl (Qk rfl (Qk rfl (Qm rfl (Aq (AU rfl (Ax (Qm rfl (Aq (Ao (Ae ?_)))))))))))))))))
   exact Am rfl rfl (by rw [decide_eq_false]; rintro ⟨_, h1, _⟩; omega)
  ·refine Qg (oF BQ rfl) rfl (Qg (oL rfl underlying28 (hA _ _ rfl _)) rfl (Qg (AJ hR.a.rd.any rfl underlying28 rfl) rfl (Qg (As rfl rfl) rfl (Qg (oS rfl) rfl (Qg (B4 rfl rfl rfl) rfl (Qm rfl (Qm rfl ?_)))))))
   refine AR (t := 31) rfl (fun hs3 => ?_) (fun hs3 => ?_)
   ·refine Qk rfl (Qk rfl (Qm rfl (Aq (AU rfl (Ax (Qm rfl (Aq (Ao (Ae ?_)))))))))
    exact Am rfl rfl (by rw [decide_eq_false]; rintro ⟨_, _, h1, _⟩; omega)
   ·refine Qg (As rfl rfl) rfl (Qg (CP rfl rfl) rfl (Qm rfl (Aq ?_)))
    refine BJ rfl (fun hp => ?_) (fun hp => ?_)
    ·have hp : ¬ IsP Z.p := by simpa using hp
     refine Ax (Qm rfl (Aq (Ao (Ae ?_))))
     exact Am rfl rfl (by rw [decide_eq_false]; rintro ⟨_, _, _, h1, _⟩; exact hp h1)
    ·have hp : IsP Z.p := by simpa using hp
     have hd0 : 0 < Z.dims.length := by omega
     have hlen : (Z.ars.length : Int) = (Z.dims.length : Int) - 1 := by omega
     refine Ai (Ab (Ac (Ax (Qm rfl (Aq (Ag ?_))))))
     refine AD (fun q s hh ms' => ∃ (k : Nat), q = Z.dims.length - k ∧ s = [(1, .pointer (some ⟨g1, 0, none⟩)), (3, .int .i64 Z.dims.length), (5, .int .i64 k)] ∧ h' = hh ∧ ms' = [] ∧ k ≤ Z.dims.length ∧ ∀ j, j < k → 0 ≤ Z.dim j ∧ Z.dim j ≤ 200)
      (Z.dims.length - 0) _ ⟨0, rfl, rfl, rfl, rfl, by omega, fun j h => by omega⟩ Qs ?_
     rintro q s hh ms' ⟨k, rfl, rfl, rfl, rfl, hk, hno⟩
     have hdm : ∀ k, k < Z.dims.length → Z.dim k ∈ Z.dims := fun k hk => by unfold Zz.dim; simp [List.getD_eq_getElem?_getD, hk]
     refine Ac (Ax (Qm rfl (Qm rfl (Qm rfl (Aq ?_)))))
     refine AF rfl (fun hlt => ?_) (fun hlt => ?_)
     ·have hk' : k < Z.dims.length := by omega
      refine Ai (Ab (Ac (Ag (Ax (Qf Bn rfl (Ql rfl underlying24 (hA _ _ rfl _) (Qm rfl (Qx (Ah _ hR.d.rd.any rfl underlying24 A8 rfl rfl rfl (by omega)) rfl (Ql rfl underlying3 (H8 hR hk') (Qm rfl (Qm rfl ?_)))))))))))
      refine AR (t := 46) rfl (fun hm1 => ?_) (fun hm1 => ?_)
      ·refine Qk rfl (Qk rfl (Qk rfl (Qk rfl (Qk rfl (Qk rfl (Qm rfl (Aq (AU rfl (Ax (Qm rfl (Aq (Ao (Ap (Ae (Ae (Ap (Ae ?_)))))))))))))))))
       exact Am rfl rfl (by rw [decide_eq_false]; rintro ⟨_, _, _, _, h1, _⟩; have := h1 _ (hdm k hk'); omega)
      ·refine Qg (oF Bn rfl) rfl (Qg (oL rfl underlying24 (hA _ _ rfl _)) rfl (Qg (As rfl rfl) rfl (Qg (Ah _ hR.d.rd.any rfl underlying24 A8 rfl rfl rfl (by omega)) rfl (Qg (oL rfl underlying3 (H8 hR hk')) rfl (Qg (Dd rfl rfl rfl) rfl (Qm rfl (Aq ?_)))))))
       refine AF rfl (fun hm2 => ?_) (fun hm2 => ?_)
       ·refine Ac (Ad (Qm rfl (Aq (Ao (Ap (Ae (Ae (Ap (Ae ?_)))))))))
        exact Am rfl rfl (by rw [decide_eq_false]; rintro ⟨_, _, _, _, h1, _⟩; have := h1 _ (hdm k hk'); omega)
       ·refine Ai (Aj (Ab (Ad (Qm rfl (Qx (oA rfl) rfl (Qm rfl (Ak ?_)))))))
        refine Al (Z.dims.length - (k + 1)) _ (by omega) ⟨k + 1, rfl, rfl, rfl, rfl, by omega, fun j h1 => ?_⟩ Qs
        rcases (by omega : j < k ∨ j = k) with h2 | rfl
        ·exact hno j h2
        ·omega
     ·have hdims : ∀ x ∈ Z.dims, 0 ≤ x ∧ x ≤ 200 := fun x hx => by
       obtain ⟨j, hj, rfl⟩ := List.mem_iff_getElem.1 hx
       have := hno j (by omega)
       unfold Zz.dim at this
       simpa [List.getD_eq_getElem?_getD, hj] using this
      refine Aw (Aa (Aa (Af (Ab (Ac (Ax (Qm rfl (Aq (Ag ?_)))))))))
      refine AD (fun q s hh ms' => ∃ (k : Nat), q = Z.ars.length - k ∧ s = [(1, .pointer (some ⟨g1, 0, none⟩)), (3, .int .i64 Z.dims.length), (6, .int .i64 k)] ∧ h' = hh ∧ ms' = [] ∧ k ≤ Z.ars.length ∧ ∀ j (hj : j < Z.ars.length), j < k → Z.Fit j Z.ars[j])
       (Z.ars.length - 0) _ ⟨0, rfl, rfl, rfl, rfl, by omega, fun j hj h => by omega⟩ Qs ?_
      rintro q s hh ms' ⟨k, rfl, rfl, rfl, rfl, hk, hfit⟩
      refine Ac (Ax (Qm rfl (Qm rfl (Qx (oS rfl) rfl (Qm rfl (Aq ?_))))))
      refine AF rfl (fun hlt => ?_) (fun hlt => ?_)
      ·have hk' : k < Z.ars.length := by omega
       have hmem : Z.ars[k] ∈ Z.ars := List.getElem_mem hk'
       have hRe := hR.e _ hmem
       have hMO := hO.m _ hmem
       have oa := hRe.rd.one
       have hk0 : k < Z.dims.length := by omega
       have hk1 : k + 1 < Z.dims.length := by omega
       refine Ai (Ab (Ac (Ag (Ax (Qf BQ rfl (Ql rfl underlying28 (hA _ _ rfl _) (Qm rfl (Qx (Ah _ hR.a.rd.any rfl underlying28 Cr rfl rfl rfl (by omega)) rfl (Qf Ca rfl (Qx (oG rfl underlying42 AI (FQ hR hk')) rfl (BZ [.int .i64 0, .int .i64 0, .int .i64 0, .slice none 0 0] rfl AI rfl rfl (fun g7 => ?_))))))))))))
       refine Sa 0 [_, _, _, _] AI rfl (by simp [oa]) ?_
       refine B3 (Qf Bn rfl (Ql rfl underlying24 (hA _ _ rfl _) (Qm rfl (Qx (Ah _ hR.d.rd.any rfl underlying24 A8 rfl rfl rfl (by omega)) rfl (Ql rfl underlying3 (H8 hR hk0) (Qm rfl (B3 (Qf Bn rfl (Ql rfl underlying24 (hA _ _ rfl _) (Qm rfl (Qx (oA rfl) rfl (Qx (Ah (k + 1) hR.d.rd.any rfl underlying24 A8 rfl rfl (by omega) (by omega)) rfl (Ql rfl underlying3 (H8 hR hk1) (Qm rfl (Aq (Ac (Ax (Qf BQ rfl (Ql rfl underlying28 (hA _ _ rfl _) (Qm rfl (Qx (Ah _ hR.a.rd.any rfl underlying28 Cr rfl rfl rfl (by omega)) rfl (Qf EK rfl (Ql rfl underlying4 (hR.a.any.cell hk' rfl) (Aq ?_))))))))))))))))))))))))
       refine BJ rfl (fun hb => ?_) (fun hb => ?_)
       ·have hsr : (Z.ars[k]).src k = k + 1 := by unfold Ar.src; rw [hb]; rfl
        have htg : (Z.ars[k]).tgt k = k := by unfold Ar.tgt; rw [hb]; rfl
        refine Ax (Qf Bn rfl (Ql rfl underlying24 (hA _ _ rfl _) (Qm rfl (Qx (oA rfl) rfl (Qx (Ah (k + 1) hR.d.rd.any rfl underlying24 A8 rfl rfl (by omega) (by omega)) rfl (Ql rfl underlying3 (H8 hR hk1) (Qm rfl (IA (Qf Bn rfl (Ql rfl underlying24 (hA _ _ rfl _) (Qm rfl (Qx (Ah _ hR.d.rd.any rfl underlying24 A8 rfl rfl rfl (by omega)) rfl (Ql rfl underlying3 (H8 hR hk0) (Qm rfl (B3 (Qx (oG rfl underlying42 AI (Seg.blk 0 rfl)) rfl (Qx (AG rfl call46 rfl (Ds (ER (Z.ars[k]).M (Z.ars[k]).v h' hMO hRe) _)) rfl (Qm rfl (B3 (Qm rfl (Qm rfl (Qm rfl ?_))))))))))))))))))))))
        refine CO (t := 98) rfl (fun hb1 => ?_) (fun hb1 => ?_)
        ·refine Qk rfl (Qk rfl (Qk rfl (Qk rfl (Qk rfl (Qm rfl (Qm rfl (Qk rfl (Qk rfl (Qk rfl (Qk rfl (Qm rfl (Qm rfl (Qk rfl (Qk rfl (Qk rfl (Qk rfl (Qm rfl (Aq (AU rfl (Ax (Qm rfl (Aq (Ao (Ap (Ae (Ae (Ap (Ae ?_))))))))))))))))))))))))))))
         exact Am rfl rfl (by rw [decide_eq_false]; rintro ⟨_, _, _, _, _, h1⟩; have := (h1 k hk').1; simp [this] at hb1)
        ·have hb1 : (Z.ars[k]).M.Rt := by simpa using hb1
         refine Qg (oF BE rfl) rfl (Qg (oL rfl underlying3 (Cell.blk 0 rfl rfl)) rfl (Qg (oF CG rfl) rfl (Qg (oL rfl underlying3 (hA0 _)) rfl (Qg (B4 rfl rfl rfl) rfl (Qm rfl (Qm rfl ?_))))))
         refine AR (t := 105) rfl (fun hb2 => ?_) (fun hb2 => ?_)
         ·refine Qk rfl (Qk rfl (Qk rfl (Qk rfl (Qm rfl (Qm rfl (Qk rfl (Qk rfl (Qk rfl (Qk rfl (Qm rfl (Aq (AU rfl (Ax (Qm rfl (Aq (Ao (Ap (Ae (Ae (Ap (Ae ?_)))))))))))))))))))))
          exact Am rfl rfl (by rw [decide_eq_false]; rintro ⟨_, _, _, _, _, h1⟩; exact hb2 (h1 k hk').2.1)
         ·refine Qg (oF A0 rfl) rfl (Qg (oL rfl underlying3 (Cell.blk 0 rfl rfl)) rfl (Qg (As rfl rfl) rfl (Qg (B4 rfl rfl rfl) rfl (Qm rfl (Qm rfl ?_)))))
          refine AR (t := 111) rfl (fun hb3 => ?_) (fun hb3 => ?_)
          ·refine Qk rfl (Qk rfl (Qk rfl (Qk rfl (Qm rfl (Aq (AU rfl (Ax (Qm rfl (Aq (Ao (Ap (Ae (Ae (Ap (Ae ?_)))))))))))))))
           exact Am rfl rfl (by rw [decide_eq_false]; rintro ⟨_, _, _, _, _, h1⟩; exact hb3 ((h1 k hk').2.2.1.trans (by rw [hsr])))
          ·refine Qg (oF Bh rfl) rfl (Qg (oL rfl underlying3 (Cell.blk 0 rfl rfl)) rfl (Qg (As rfl rfl) rfl (Qg (B4 rfl rfl rfl) rfl (Qm rfl (Aq ?_)))))
           refine AF rfl (fun hb4 => ?_) (fun hb4 => ?_)
           ·refine Ac (Ad (Qm rfl (Aq (Ao (Ap (Ae (Ae (Ap (Ae ?_)))))))))
            exact Am rfl rfl (by rw [decide_eq_false]; rintro ⟨_, _, _, _, _, h1⟩; exact hb4 ((h1 k hk').2.2.2.trans (by rw [htg])))
           ·refine Ai (Aj (Ab (Ad (Qm rfl (Qx (oA rfl) rfl (Qm rfl (Ak (A5 ?_))))))))
            refine Al (Z.ars.length - (k + 1)) _ (by omega) ⟨k + 1, rfl, rfl, rfl, rfl, by omega, fun j hj h1 => ?_⟩ Qs
            rcases (by omega : j < k ∨ j = k) with h2 | rfl
            ·exact hfit j hj h2
            ·exact ⟨hb1, Decidable.not_not.1 hb2, by rw [hsr]; exact Decidable.not_not.1 hb3, by rw [htg]; exact Decidable.not_not.1 hb4⟩
       ·have hsr : (Z.ars[k]).src k = k := by unfold Ar.src; rw [hb]; rfl
        have htg : (Z.ars[k]).tgt k = k + 1 := by unfold Ar.tgt; rw [hb]; rfl
        refine Ai (Ab (Ax (Qx (oG rfl underlying42 AI (Seg.blk 0 rfl)) rfl (Qx (AG rfl call46 rfl (Ds (ER (Z.ars[k]).M (Z.ars[k]).v h' hMO hRe) _)) rfl (Qm rfl (B3 (Qm rfl (Qm rfl (Qm rfl ?_)))))))))
        refine CO (t := 98) rfl (fun hb1 => ?_) (fun hb1 => ?_)
        ·refine Qk rfl (Qk rfl (Qk rfl (Qk rfl (Qk rfl (Qm rfl (Qm rfl (Qk rfl (Qk rfl (Qk rfl (Qk rfl (Qm rfl (Qm rfl (Qk rfl (Qk rfl (Qk rfl (Qk rfl (Qm rfl (Aq (AU rfl (Ax (Qm rfl (Aq (Ao (Ap (Ae (Ae (Ap (Ae ?_))))))))))))))))))))))))))))
         exact Am rfl rfl (by rw [decide_eq_false]; rintro ⟨_, _, _, _, _, h1⟩; have := (h1 k hk').1; simp [this] at hb1)
        ·have hb1 : (Z.ars[k]).M.Rt := by simpa using hb1
         refine Qg (oF BE rfl) rfl (Qg (oL rfl underlying3 (Cell.blk 0 rfl rfl)) rfl (Qg (oF CG rfl) rfl (Qg (oL rfl underlying3 (hA0 _)) rfl (Qg (B4 rfl rfl rfl) rfl (Qm rfl (Qm rfl ?_))))))
         refine AR (t := 105) rfl (fun hb2 => ?_) (fun hb2 => ?_)
         ·refine Qk rfl (Qk rfl (Qk rfl (Qk rfl (Qm rfl (Qm rfl (Qk rfl (Qk rfl (Qk rfl (Qk rfl (Qm rfl (Aq (AU rfl (Ax (Qm rfl (Aq (Ao (Ap (Ae (Ae (Ap (Ae ?_)))))))))))))))))))))
          exact Am rfl rfl (by rw [decide_eq_false]; rintro ⟨_, _, _, _, _, h1⟩; exact hb2 (h1 k hk').2.1)
         ·refine Qg (oF A0 rfl) rfl (Qg (oL rfl underlying3 (Cell.blk 0 rfl rfl)) rfl (Qg (As rfl rfl) rfl (Qg (B4 rfl rfl rfl) rfl (Qm rfl (Qm rfl ?_)))))
          refine AR (t := 111) rfl (fun hb3 => ?_) (fun hb3 => ?_)
          ·refine Qk rfl (Qk rfl (Qk rfl (Qk rfl (Qm rfl (Aq (AU rfl (Ax (Qm rfl (Aq (Ao (Ap (Ae (Ae (Ap (Ae ?_)))))))))))))))
           exact Am rfl rfl (by rw [decide_eq_false]; rintro ⟨_, _, _, _, _, h1⟩; exact hb3 ((h1 k hk').2.2.1.trans (by rw [hsr])))
          ·refine Qg (oF Bh rfl) rfl (Qg (oL rfl underlying3 (Cell.blk 0 rfl rfl)) rfl (Qg (As rfl rfl) rfl (Qg (B4 rfl rfl rfl) rfl (Qm rfl (Aq ?_)))))
           refine AF rfl (fun hb4 => ?_) (fun hb4 => ?_)
           ·refine Ac (Ad (Qm rfl (Aq (Ao (Ap (Ae (Ae (Ap (Ae ?_)))))))))
            exact Am rfl rfl (by rw [decide_eq_false]; rintro ⟨_, _, _, _, _, h1⟩; exact hb4 ((h1 k hk').2.2.2.trans (by rw [htg])))
           ·refine Ai (Aj (Ab (Ad (Qm rfl (Qx (oA rfl) rfl (Qm rfl (Ak (A5 ?_))))))))
            refine Al (Z.ars.length - (k + 1)) _ (by omega) ⟨k + 1, rfl, rfl, rfl, rfl, by omega, fun j hj h1 => ?_⟩ Qs
            rcases (by omega : j < k ∨ j = k) with h2 | rfl
            ·exact hfit j hj h2
            ·exact ⟨hb1, Decidable.not_not.1 hb2, by rw [hsr]; exact Decidable.not_not.1 hb3, by rw [htg]; exact Decidable.not_not.1 hb4⟩
      ·refine Aw (Aa (Aa (Af (Ab (Ax (Qm rfl (Aq (Ao ?_))))))))
       exact Am rfl rfl (by rw [decide_eq_true]; exact ⟨by omega, by omega, hlen, hp, hdims, fun j hj => hfit j hj (by omega)⟩)
end Go.Proofs.YtdnelknieikbaaaGreat
namespace Go.Proofs.YtdnelknieikbaaaGreat
open Go.Proofs.Tryz
open Go.Eng Go.RowKit Go.Lin
theorem Ks (a b : Int) (ha : Dh a) (hb : 1 ≤ b ∧ b ≤ 1000000) (h : Hp) (ms : List Hp) : Dq Tryz.prog 34 #[.int .i64 a, .int .i64 b] h ms (.int .i64 (a % b)) := by
 refine Ds ?_ ms
 have ha1 := ha.1
 have ha2 := ha.2
 have h1 : a.tmod b < b := by have := Int.tmod_lt_of_pos a (show 0 < b by omega); omega
 have h2 : -b < a.tmod b := by have := Int.lt_tmod_of_pos a (show 0 < b by omega); omega
 have h3 : (a.tmod b + b) % b = a % b := by rw [Int.add_emod_right, Int.tmod_def, Int.sub_mul_emod_self_left]
 refine Av func34 ntmps34 rfl rfl (fun w0 hw0 => ?_)
 simp only [A4]
 refine Ax (Qm rfl (B3 (Qm rfl (Qm rfl (Qx (Mq rfl rfl rfl (by omega)) rfl (Qm rfl (Qx (oA rfl) rfl (Qm rfl (Qx (B0 rfl rfl rfl (by omega) (by omega)) rfl (Qm rfl (Aq (Ao ?_))))))))))))
 exact Am rfl rfl (by rw [h3])
theorem SA (la lb : List Int) (va vb : Value) (h : Hp) (hA : RdL cI 1 h [] va la) (hB : RdL cI 1 h [] vb lb) (ms : List Hp) : Dq Tryz.prog 54 #[va, vb] h ms (.bool (decide (la = lb))) := by
 refine Ds ?_ ms
 have l1 := hA.len_le
 have l2 := hB.len_le
 refine Av func54 ntmps54 rfl rfl (fun w0 hw0 => ?_)
 simp only [A4]
 refine Ax (Qm rfl (Aq (Ac (Ax (Qm rfl (Qx (AJ hA.rd.any rfl underlying24 rfl) rfl (Qm rfl (Qx (AJ hB.rd.any rfl underlying24 rfl) rfl (Qm rfl (Aq ?_))))))))))
 refine AF rfl (fun hlen => ?_) (fun hlen => ?_)
 ·refine Ac (Ad (Qm rfl (Aq (Ao (Ae ?_)))))
  exact Am rfl rfl (by rw [decide_eq_false]; rintro rfl; exact hlen rfl)
 ·have hlen : la.length = lb.length := by omega
  refine Ai (Ab (Ac (Ax (Qm rfl (Aq (Ag ?_))))))
  refine AD (fun q s h' ms' => ∃ (k : Nat), q = la.length - k ∧ s = [(0, va), (1, vb), (5, .int .i64 k)] ∧ h = h' ∧ ms' = [] ∧ k ≤ la.length ∧ la.take k = lb.take k)
   (la.length - 0) _ ⟨0, rfl, rfl, rfl, rfl, by omega, rfl⟩ Qs ?_
  rintro q s h' ms' ⟨k, rfl, rfl, rfl, rfl, hk, hno⟩
  refine Ac (Ax (Qm rfl (Qm rfl (Qx (AJ hA.rd.any rfl underlying24 rfl) rfl (Qm rfl (Aq ?_))))))
  refine AF rfl (fun hlt => ?_) (fun hlt => ?_)
  ·have k1 : k < la.length := by omega
   have k2 : k < lb.length := by omega
   refine Ai (Ab (Ac (Ag (Ac (BB 8 Cd (by kernel_rfl) rfl (Wm rfl (Wm rfl (AV (Ah _ hA.rd.any rfl underlying24 A8 rfl rfl rfl (by omega)) rfl rfl (Wl rfl underlying3 (hA.any.cell0 k1 rfl) (Wm rfl (Wm rfl (AV (Ah _ hB.rd.any rfl underlying24 A8 rfl rfl rfl (by omega)) rfl rfl (Wl rfl underlying3 (hB.any.cell0 k2 rfl) (BC (Qm rfl (Aq ?_))))))))))))))))
   refine AF rfl (fun hne => ?_) (fun hne => ?_)
   ·refine Ac (Ad (Qm rfl (Aq (Ao (Ap (Ae (Ae (Ap (Ae ?_)))))))))
    exact Am rfl rfl (by rw [decide_eq_false]; rintro rfl; exact hne rfl)
   ·refine Ai (Aj (Ab (Ad (Qm rfl (Qx (oA rfl) rfl (Qm rfl (Ak ?_)))))))
    refine Al (la.length - (k + 1)) _ (by omega) ⟨k + 1, rfl, rfl, rfl, rfl, by omega, ?_⟩ Qs
    rw [List.take_add_one, List.take_add_one, hno, List.getElem?_eq_getElem k1, List.getElem?_eq_getElem k2, Decidable.not_not.1 hne]
  ·refine Aw (Aa (Aa (Af (Ab (Ax (Qm rfl (Aq (Ao ?_))))))))
   exact Am rfl rfl (by rw [decide_eq_true]; rwa [List.take_of_length_le (by omega), List.take_of_length_le (by omega)] at hno)
deriving instance DecidableEq for FM
end Go.Proofs.YtdnelknieikbaaaGreat
namespace Go.Proofs.YtdnelknieikbaaaGreat
open Go.Proofs.Tryz
open Go.Eng Go.RowKit Go.Lin
variable {n p : Int}
def Gf (n p : Int) : Int := n ^ (p.toNat - 2) % p
theorem F1 (hp : IsP p) (h1 : 1 ≤ n) (hn : n < p) : n * Gf n p % p = 1 := by
 obtain ⟨k, rfl⟩ := Int.eq_ofNat_of_zero_le (show 0 ≤ n by omega)
 exact Np hp (by omega) hn (Cg.mod _ _)
theorem Kh (hp : IsP p) (h1 : 1 ≤ n) (hn : n < p) : 1 ≤ Gf n p ∧ Gf n p < p := by
 have h2 := hp.1
 have h3 := F1 hp h1 hn
 have h4 : 0 ≤ Gf n p := Int.emod_nonneg _ (by omega)
 refine ⟨?_, Int.emod_lt_of_pos _ (by omega)⟩
 rcases (by omega : Gf n p = 0 ∨ 1 ≤ Gf n p) with h | h
 ·rw [h, Int.mul_zero, Int.zero_emod] at h3; omega
 ·exact h
theorem L3 {v : Int} (hp : IsP p) (h1 : 1 ≤ n) (hn : n < p) (hv : 0 ≤ v ∧ v < p) (h : n * v % p = 1) : v = Gf n p := by
 have h2 := hp.1
 have h3 := F1 hp h1 hn
 have hb := Kh hp h1 hn
 have c1 : Cg p (n * v) 1 := Cg.iff_mod.2 (by rw [h, Int.emod_eq_of_lt (by omega) (by omega)])
 have c2 : Cg p (n * Gf n p) 1 := Cg.iff_mod.2 (by rw [h3, Int.emod_eq_of_lt (by omega) (by omega)])
 have c3 : Cg p (v * (n * Gf n p)) v := by have := Cg.mul (Cg.refl p v) c2; rwa [Int.mul_one] at this
 have c4 : Cg p (v * (n * Gf n p)) (Gf n p) := by
  have := Cg.mul c1 (Cg.refl p (Gf n p))
  rw [Int.one_mul] at this
  exact Cg.trans (Cg.of_eq (by rw [← Int.mul_assoc, Int.mul_comm v n])) this
 exact (c3.symm.trans c4).eq hv ⟨by omega, hb.2⟩
theorem Ry (n p : Int) (h : Hp) (hp : IsP p) (h1 : 1 ≤ n) (hn : n < p) (ms : List Hp) : Dq Tryz.prog 81 #[.int .i64 n, .int .i64 p] h ms (.int .i64 (Gf n p)) := by
 refine Ds ?_ ms
 have hb : 2 ≤ p ∧ p ≤ 997 := ⟨hp.1, hp.2.1⟩
 have ho := Kh hp h1 hn
 have hi := F1 hp h1 hn
 refine Av func81 ntmps81 rfl rfl (fun w0 hw0 => ?_)
 simp only [A4]
 refine Ax (Qm rfl (Aq (Ac (Ax (Qm rfl (Aq (Ag ?_)))))))
 refine AD (fun q s h' ms' => ∃ (k : Nat), q = 1000 - k ∧ s = [(0, .int .i64 n), (1, .int .i64 p), (5, .int .i64 k)] ∧ h = h' ∧ ms' = [] ∧ 1 ≤ k ∧ (k : Int) ≤ Gf n p)
  (1000 - 1) _ ⟨1, rfl, rfl, rfl, rfl, by omega, by omega⟩ Qs ?_
 rintro q s h' ms' ⟨k, rfl, rfl, rfl, rfl, hk, hko⟩
 have hbm := DF (p := p) (a := n) (b := k) ⟨by omega, hn⟩ ⟨by omega, by omega⟩ hb.2
 refine Ac (Ax (Qm rfl (Qm rfl (Qm rfl (Aq ?_)))))
 refine AF rfl (fun hc => ?_) (fun hc => absurd (by omega) hc)
 refine Ai (Ab (Ac (Ag (Ax (Qm rfl (Qm rfl (Qx (oM rfl) rfl (Qm rfl (Qx (B0 rfl rfl rfl (by omega) (by omega)) rfl (Qm rfl (Aq ?_)))))))))))
 refine AF rfl (fun he => ?_) (fun he => ?_)
 ·refine Ac (Ad (Qm rfl (Qm rfl (Aq (Ao (Ap (Ae (Ae (Ap (Ae ?_))))))))))
  exact Am rfl rfl (by rw [← L3 hp h1 hn ⟨by omega, by omega⟩ he])
 ·refine Ai (Aj (Ab (Ad (Qm rfl (Qx (oA rfl) rfl (Qm rfl (Ak ?_)))))))
  refine Al (1000 - (k + 1)) _ (by omega) ⟨k + 1, rfl, rfl, rfl, rfl, by omega, ?_⟩ Qs
  rcases (by omega : (k : Int) = Gf n p ∨ (k : Int) < Gf n p) with h2 | h2
  ·rw [h2] at he; exact absurd hi he
  ·omega
def I5 (l : List Int) : Int := TE l fun n => decide (n ≠ 0)
theorem FW (l : List Int) (vl : Value) (h : Hp) (hR : RdL cI 1 h [] vl l) (ms : List Hp) : Dq Tryz.prog 80 #[vl] h ms (.int .i64 (I5 l)) := by
 refine Ds ?_ ms
 have hl := hR.len_le
 refine Av func80 ntmps80 rfl rfl (fun w0 hw0 => ?_)
 simp only [A4]
 refine Ax (Qm rfl (Aq (Ac (Ax (Qm rfl (Aq (Ag ?_)))))))
 refine AD (fun n s h' ms' => ∃ (k : Nat), n = l.length - k ∧ s = [(0, vl), (3, .int .i64 k)] ∧ h = h' ∧ ms' = [] ∧ k ≤ l.length ∧ ∀ j (hj : j < l.length), j < k → decide (l[j] ≠ 0) = false)
  (l.length - 0) _ ⟨0, rfl, rfl, rfl, rfl, by omega, fun j hj h => by omega⟩ Qs ?_
 rintro n s h' ms' ⟨k, rfl, rfl, rfl, rfl, hk, hno⟩
 refine Ac (Ax (Qm rfl (Qm rfl (Qx (AJ hR.rd.any rfl underlying24 rfl) rfl (Qm rfl (Aq ?_))))))
 refine AF rfl (fun hlt => ?_) (fun hlt => ?_)
 ·have hlt' : k < l.length := by omega
  refine Ai (Ab (Ac (Ag (Ax (Qm rfl (Qm rfl (Qx (Ah _ hR.rd.any rfl underlying24 A8 rfl rfl rfl (by omega)) rfl (Ql rfl underlying3 (hR.any.cell0 hlt' rfl) (Qm rfl (Aq ?_))))))))))
  refine AF rfl (fun hpk => ?_) (fun hpk => ?_)
  ·refine Ac (Ad (Qm rfl (Qm rfl (Aq (Ao (Ap (Ae (Ae (Ap (Ae ?_))))))))))
   exact Am rfl rfl (by unfold I5; rw [GA hlt' (decide_eq_true hpk) fun j hj => hno j _ hj])
  ·refine Ai (Aj (Ab (Ad (Qm rfl (Qx (oA rfl) rfl (Qm rfl (Ak ?_)))))))
   refine Al (l.length - (k + 1)) _ (by omega) ⟨k + 1, rfl, rfl, rfl, rfl, by omega, fun j hj h1 => ?_⟩ Qs
   rcases (by omega : j < k ∨ j = k) with h2 | rfl
   ·exact hno j hj h2
   ·exact decide_eq_false hpk
 ·refine Aw (Aa (Aa (Af (Ab (Ax (Qm rfl (Aq (Ao ?_))))))))
  exact Am rfl rfl (by unfold I5; rw [Hc fun j hj => hno j hj (by omega)])
end Go.Proofs.YtdnelknieikbaaaGreat
namespace Go.Proofs.YtdnelknieikbaaaGreat
open Go.Proofs.Tryz
open Go.Eng Go.RowKit Go.Lin
theorem La (n : Nat) (f : Nat → Int) : vec n f ++ [f n] = vec (n + 1) f := by
 unfold vec
 rw [List.range_succ, List.map_append]
 rfl
theorem Jo (p : Int) (r c : Nat) (f : Nat → Nat → Int) (w : Nat → Int) (ev vv : Value) (h : Hp) (R : RtM p r c f) (hw : ∀ j, j < c → 0 ≤ w j ∧ w j < p) (hR : RdL cI 1 h [] ev (mat r c f)) (hV : RdL cI 1 h [] vv (vec c w)) :
  FnT Tryz.prog 83 #[.agg #[.int .i64 p, .int .i64 r, .int .i64 c, ev], vv] h [] (fun x h' ms' => h.le h' ∧ ∃ m, ms' = [m] ∧ OwnL cI 1 3 m x (vec r (D2 p c f w))) := by
 have o1 := hR.rd.one
 have hb := R.bd
 have rl := R.rl
 have cl := R.cl
 have ew := AQ c w
 have hrc : r * c ≤ 400 * 400 := Nat.mul_le_mul rl cl
 have el : (mat r c f).length = r * c := AY _ _ _
 refine Av func83 ntmps83 rfl rfl (fun w0 hw0 => ?_)
 simp only [A4]
 refine Ax ?_
 refine AS [_, _, _, _] rfl rfl (by rfl) rfl rfl rfl (fun g2 => ?_)
 refine Qm rfl (Aq (By 0 rfl fun h1 l1 hS => ?_))
 have hR := hR.up l1
 have hV := hV.up l1
 have hA := Seg.all hS
 have hA0 := hA 0 _ rfl
 refine Ax (Qm rfl (Aq (Ac (Ax (Qm rfl (Aq (Ag (BX ?_))))))))
 refine AD (fun q s hh ms' => ∃ (i : Nat) (v : Value) (m : Hp), q = r - i ∧ s = [(1, vv), (2, .pointer (some ⟨g2, 0, none⟩)), (5, v), (6, .int .i64 i)] ∧ h1 = hh ∧ ms' = [m] ∧ i ≤ r ∧ OwnL cI 1 3 m v (vec i (D2 p c f w)))
  (r - 0) _ ⟨0, _, _, rfl, rfl, rfl, rfl, by omega, OwnL.nil Br⟩ Qs ?_
 rintro q s hh ms' ⟨i, v, m, rfl, rfl, rfl, rfl, hi, hO⟩
 refine Ac (Ax (Qm rfl (Qf Bh rfl (Ql rfl underlying3 (hA _ _ rfl _) (Qm rfl (Aq ?_))))))
 refine AF rfl (fun hlt => ?_) (fun hlt => ?_)
 ·have hir : i < r := by omega
  refine Ai (Ab (Ac (Ag (Ax (Qm rfl (Aq (Ac (Ax (Qm rfl (Aq (Ag ?_)))))))))))
  refine AD (fun q s hh ms' => ∃ (j : Nat) (x : Int), q = c - j ∧ s = [(1, vv), (2, .pointer (some ⟨g2, 0, none⟩)), (5, v), (6, .int .i64 i), (7, .int .i64 x), (8, .int .i64 j)] ∧ h1 = hh ∧ ms' = [m] ∧ j ≤ c ∧ x = sm j (fun t => f i t * w t) % p)
   (c - 0) _ ⟨0, 0, rfl, rfl, rfl, rfl, by omega, (Int.zero_emod p).symm⟩ Qs ?_
  rintro q s hh ms' ⟨j, x, rfl, rfl, rfl, rfl, hj, hx⟩
  have x0 : 0 ≤ x := by rw [hx]; exact Int.emod_nonneg _ (by omega)
  have x1 : x < p := by rw [hx]; exact Int.emod_lt_of_pos _ (by omega)
  refine Ac (Ax (Qm rfl (Qf A0 rfl (Ql rfl underlying3 (hA _ _ rfl _) (Qm rfl (Aq ?_))))))
  refine AF rfl (fun hlt2 => ?_) (fun hlt2 => ?_)
  ·have hjc : j < c := by omega
   have hix := Cp hir hjc
   have hbm := DF (R.en i hir j hjc) (hw j hjc) hb.2
   refine Ai (Ab (Ac (Ag (BB 19 Cd (by kernel_rfl) rfl (Wm rfl (Wf Bc rfl (Wl rfl underlying24 (hA _ _ rfl _) (Wm rfl (Wf A0 rfl (Wl rfl underlying3 (hA _ _ rfl _) (AV (oM rfl) rfl rfl (Wm rfl (AV (oA rfl) rfl rfl (AV (Ah (i * c + j) hR.rd.any rfl underlying24 A8 rfl rfl (by omega) (by omega)) rfl rfl (Wl rfl underlying3 (hR.any.ent hir hjc) (Wm rfl (Wm rfl (AV (Ah _ hV.rd.any rfl underlying24 A8 rfl rfl rfl (by omega)) rfl rfl (Wl rfl underlying3 (hV.any.ev hjc) (AV (oM rfl) rfl rfl (AV (oA rfl) rfl rfl (Wf BE rfl (Wl rfl underlying3 (hA0 _) (BC (Qx (B0 rfl rfl rfl (by omega) (by omega)) rfl (Qm rfl (Ak (Aj (Ab (Ad (Qm rfl (Qx (oA rfl) rfl (Qm rfl (Ak ?_))))))))))))))))))))))))))))))))))
   refine Al (c - (j + 1)) _ (by omega) ⟨j + 1, (x + f i j * w j) % p, rfl, rfl, rfl, rfl, by omega, ?_⟩ Qs
   rw [hx, Int.emod_add_emod]
   rfl
  ·obtain rfl : j = c := by omega
   have evi := AQ i (D2 p j f w)
   refine Aw (Aa (Aa (Af (Ab (Ad (Qm rfl (Qm rfl ?_)))))))
   refine AB [_] rfl underlying24 A8 rfl (by rfl) rfl rfl (by omega) rfl rfl rfl (fun g43 => ?_)
   refine Bm 1 hO (RdL.one Br (List.Mem.head _) rfl) rfl underlying24 A8 rfl (by omega) rfl rfl rfl Cv (by simp only [evi, List.length_singleton]; omega) (by simp only [evi, List.length_singleton]; omega) rfl rfl rfl (fun v' m' hO' => ?_)
   refine Qm rfl (Ak (Aj (Ab (Ad (Qm rfl (Qx (oA rfl) rfl (Qm rfl (Ak (A5 ?_)))))))))
   refine Al (r - (i + 1)) _ (by omega) ⟨i + 1, v', m', rfl, rfl, rfl, rfl, by omega, ?_⟩ Qs
   rw [hx] at hO'
   rw [← La]
   exact hO'
 ·refine Aw (Aa (Aa (Af (Ab (Ax (Qm rfl (Qm rfl (Aq (Ao ?_)))))))))
  exact Am rfl rfl (⟨l1, m, rfl, by rw [show i = r by omega] at hO; exact hO⟩)
end Go.Proofs.YtdnelknieikbaaaGreat
namespace Go.Proofs.YtdnelknieikbaaaGreat
open Go.Eng Go.RowKit Go.Lin
theorem Red.fin {p : Int} {r c : Nat} {f F : Nat → Nat → Int} {pv : List Nat} (hl : r ≤ pv.length) : ∀ (d j : Nat), Red p r c f F pv j → Red p r c f F pv (j + d)
 | 0, j, R => R
 | d + 1, j, R => by
  have := (Red.fin hl d j R).skip fun i hi hli => by omega
  exact this
def SQ (p : Int) (t k : Nat) (v : Int) (F : Nat → Nat → Int) (n a b : Nat) : Int := if b < n then De p t k v F a b else F a b
theorem Sj (p : Int) (t k : Nat) (v : Int) (F : Nat → Nat → Int) (a b : Nat) : SQ p t k v F 0 a b = F a b := if_neg (by omega)
theorem Va (p : Int) (t k : Nat) (v : Int) (F : Nat → Nat → Int) (n a : Nat) : SQ p t k v F n a n = F a n := if_neg (by omega)
theorem QX (p : Int) (t k : Nat) (v : Int) (F : Nat → Nat → Int) (n a b : Nat) : DB (DB (SQ p t k v F n) k n (F t n)) t n (F k n * v % p) a b = SQ p t k v F (n + 1) a b := by
 unfold DB SQ De FE
 by_cases h1 : a = t ∧ b = n
 ·obtain ⟨rfl, rfl⟩ := h1
  simp
 ·rw [if_neg h1]
  by_cases h2 : a = k ∧ b = n
  ·obtain ⟨rfl, rfl⟩ := h2
   have : ¬ a = t := fun e => h1 ⟨e, rfl⟩
   simp [this]
  ·rw [if_neg h2]
   by_cases h3 : b < n
   ·have h4 : b < n + 1 := by omega
    simp only [h3, h4, if_true]
   ·by_cases h4 : b < n + 1
    ·have hb : b = n := by omega
     have ha : ¬ a = t := fun e => h1 ⟨e, hb⟩
     have hk : ¬ a = k := fun e => h2 ⟨e, hb⟩
     simp only [h3, h4, ha, hk, if_true, if_false]
    ·simp only [h3, h4, if_false]
theorem TF (p : Int) (t k j : Nat) (v : Int) (F : Nat → Nat → Int) (c a b : Nat) (hb : b < c) : SQ p t k v F c a b = Hi p t k j v F 0 a b := by
 unfold SQ Hi
 rw [if_pos hb, if_neg (by omega)]
def PF (p : Int) (t k j : Nat) (v : Int) (F : Nat → Nat → Int) (i n a b : Nat) : Int := if a < i ∨ (a = i ∧ b < n) then J0 p t k j v F a b else De p t k v F a b
theorem LX (p : Int) (t k j : Nat) (v : Int) (F : Nat → Nat → Int) (i a b : Nat) : PF p t k j v F i 0 a b = Hi p t k j v F i a b := by
 unfold PF Hi
 by_cases h : a < i
 ·rw [if_pos (.inl h), if_pos h]
 ·rw [if_neg (by omega), if_neg h]
theorem PS (p : Int) (t k j : Nat) (v : Int) (F : Nat → Nat → Int) (i n a b : Nat) (hi : i ≠ t) : DB (PF p t k j v F i n) i n ((De p t k v F i n + (p - De p t k v F i j) * De p t k v F t n) % p) a b = PF p t k j v F i (n + 1) a b := by
 unfold DB PF
 by_cases h : a = i ∧ b = n
 ·obtain ⟨rfl, rfl⟩ := h
  rw [if_pos ⟨rfl, rfl⟩, if_pos (by omega)]
  unfold J0
  rw [if_neg hi, Int.mul_comm]
 ·rw [if_neg h]
  by_cases h2 : a < i ∨ (a = i ∧ b < n)
  ·rw [if_pos h2, if_pos (by omega)]
  ·rw [if_neg h2, if_neg (by omega)]
theorem UX (p : Int) (t k j : Nat) (v : Int) (F : Nat → Nat → Int) (i n : Nat) : PF p t k j v F i n i n = De p t k v F i n := if_neg (by omega)
theorem V3 (p : Int) (t k j : Nat) (v : Int) (F : Nat → Nat → Int) (i n b : Nat) : PF p t k j v F i n t b = De p t k v F t b := by
 unfold PF J0; rw [if_pos rfl]; split <;> rfl
theorem T3 (p : Int) (t k j : Nat) (v : Int) (F : Nat → Nat → Int) (i c a b : Nat) (hb : b < c) : PF p t k j v F i c a b = Hi p t k j v F (i + 1) a b := by
 unfold PF Hi
 by_cases h : a < i ∨ (a = i ∧ b < c)
 ·rw [if_pos h, if_pos (by omega)]
 ·rw [if_neg h, if_neg (by omega)]
end Go.Proofs.YtdnelknieikbaaaGreat
namespace Go.Proofs.YtdnelknieikbaaaGreat
open Go.Proofs.Tryz
open Go.Eng Go.RowKit Go.Lin
theorem MA (p : Int) (r c : Nat) (f : Nat → Nat → Int) (ev : Value) (h : Hp) (hp : IsP p) (hr : r ≤ 400) (hc : c ≤ 800) (hf : UO p r c f) (hR : RdL cI 1 h [] ev (mat r c f)) :
  FnT Tryz.prog 86 #[.agg #[.int .i64 p, .int .i64 r, .int .i64 c, ev]] h [] (fun x h' ms' => h.le h' ∧ ∃ (F : Nat → Nat → Int) (pv : List Nat) (eu vp : Value) (m m2 : Hp), x = .tuple #[.agg #[.int .i64 p, .int .i64 r, .int .i64 c, eu], vp] ∧ ms' = [m, m2] ∧ OwnL cI 1 3 m eu (mat r c F) ∧ OwnL cI 1 3 m2 vp (HY pv) ∧ Ho p r c f F pv) := by
 have hb : 2 ≤ p ∧ p ≤ 997 := ⟨hp.1, hp.2.1⟩
 have e1 := hR.rd.one
 have b2 : r * c ≤ 400 * 800 := Nat.mul_le_mul hr hc
 have el : (mat r c f).length = r * c := AY _ _ _
 refine Av func86 ntmps86 rfl rfl (fun w0 hw0 => ?_)
 simp only [A4]
 refine Ax ?_
 refine AS [_, _, _, _] rfl rfl (by rfl) rfl rfl rfl (fun g1 => ?_)
 refine BZ [.int .i64 0, .int .i64 0, .int .i64 0, .slice none 0 0] rfl AI rfl rfl (fun g2 => Qm rfl (Aq (By 1 rfl fun h' hle hS => ?_)))
 have hR := hR.up hle
 have hA := Seg.all hS
 have hA0 := hA 0 _ rfl
 refine Ax (Qf BE rfl (Ql rfl underlying3 (hA0 _) (Qm rfl (B3 (Qf A0 rfl (Ql rfl underlying3 (hA _ _ rfl _) (Qm rfl (Aq ?_))))))))
 refine Bv (fun s hh ms' => ∃ (m : Hp) (eu : Value) (g6 : Nat), s = [(1, .pointer (some ⟨g1, 0, none⟩)), (2, .pointer (some ⟨g2, 0, none⟩)), (4, .int .i64 p), (5, .int .i64 c), (6, .pointer (some ⟨g6, 0, none⟩))] ∧ h' = hh ∧ ms' = [AX g6 42 [.int .i64 p, .int .i64 r, .int .i64 c, eu], m, AX g2 42 [.int .i64 0, .int .i64 0, .int .i64 0, .slice none 0 0]] ∧ OwnL cI 1 3 m eu (mat r c f)) ?_ (fun s h ms hI => ?_)
 ·refine AW (n := 11) (bs := [true, true, true, true, false, true, true, false, false, false, false]) [true, true, true, true, false, true, true] Cd (by kernel_rfl) (by kernel_rfl) rfl rfl (Qq rfl (QF Bh rfl (QL rfl underlying3 (hA _ _ rfl _) (Qq rfl (QF Bc rfl (QL rfl underlying24 (hA _ _ rfl _) ?_))))))
  unfold CD
  simp only [List.cons_append, List.nil_append]
  refine A2 [4, 9] (by kernel_rfl) rfl ?_
  refine Az rfl ?_ ?_
  ·refine AZ [] [] [] rfl underlying24 A8 rfl (by omega) (by kernel_rfl) (by repeat (first | exact trivial | refine ⟨⟨by first | rfl | exact (hR.rd.any).cells | exact ((hO1.rd (h := h) (ms := [m1]) (List.Mem.head _)).rd).cells | exact Rd.cells ‹_› | exact (RdL.rd ‹_›).cells, rfl, rfl⟩, ?_⟩)) rfl rfl rfl rfl (fun g25 => ?_)
   refine Qw (A2 [7, 9] (by kernel_rfl) rfl ?_)
   refine Az rfl ?_ ?_
   ·refine Bm 0 (OwnL.blk (F := cI) (el := 3) (g := g25) (l := ([] : List Int)) 0 Br rfl (by omega)) hR.any rfl underlying24 A8 rfl (by omega) rfl rfl rfl Cv (by simp; omega) (by simp; omega) rfl rfl rfl (fun v1 m1 hO1 => ?_)
    rw [List.nil_append] at hO1
    have ov : v1.oneCell' = true := (hO1.rd (h := h) (ms := [m1]) (List.Mem.head _)).rd.one
    refine Qw ?_
    refine An 8 29 (by kernel_rfl) rfl (Hp.le_refl _) rfl (AT Gh [.int .i64 0, .int .i64 0, .int .i64 0, .slice none 0 0] [(0, _), (1, _), (2, _), (3, _)] [_, _, _, _] rfl AI rfl rfl (by repeat (first | exact trivial | refine ⟨⟨rfl, rfl, rfl⟩, ?_⟩ | refine ⟨⟨((hO1.rd (h := h) (ms := [m1]) (List.Mem.head _)).rd).cells, rfl, rfl⟩, ?_⟩)) rfl) ?_
    refine Qo 9 rfl (BZ [.int .i64 0, .int .i64 0, .int .i64 0, .slice none 0 0] rfl AI rfl rfl (fun g6 => Qw (Qo 10 rfl ?_)))
    refine Sa 0 [_, _, _, _] AI rfl (by simp [ov]) ?_
    refine Qw (Qe ?_)
    exact AA _ ⟨m1, v1, g6, rfl, rfl, rfl, hO1⟩ Qs
   refine Az rfl ?_ ?_
   ·refine BZ [.int .i64 0, .int .i64 0, .int .i64 0, .slice none 0 0] rfl AI rfl rfl (fun g6 => Qw (Qo 7 rfl ?_))
    refine Bm 1 (OwnL.blk (F := cI) (el := 3) (g := g25) (l := ([] : List Int)) 0 Br rfl (by omega)) hR.any rfl underlying24 A8 rfl (by omega) rfl rfl rfl Cv (by simp; omega) (by simp; omega) rfl rfl rfl (fun v1 m1 hO1 => ?_)
    rw [List.nil_append] at hO1
    have ov : v1.oneCell' = true := (hO1.rd (h := h) (ms := [m1]) (List.Mem.head _)).rd.one
    refine Qw ?_
    refine An 8 29 (by kernel_rfl) rfl (Hp.le_refl _) rfl (AT Gh [.int .i64 0, .int .i64 0, .int .i64 0, .slice none 0 0] [(0, _), (1, _), (2, _), (3, _)] [_, _, _, _] rfl AI rfl rfl (by repeat (first | exact trivial | refine ⟨⟨rfl, rfl, rfl⟩, ?_⟩ | refine ⟨⟨((hO1.rd (h := h) (ms := [m1]) (List.Mem.head _)).rd).cells, rfl, rfl⟩, ?_⟩)) rfl) ?_
    refine Qo 10 rfl ?_
    refine Sa 0 [_, _, _, _] AI rfl (by simp [ov]) ?_
    refine Qw (Qe ?_)
    exact AA _ ⟨m1, v1, g6, rfl, rfl, rfl, hO1⟩ Qs
   exact A3
  refine Az rfl ?_ ?_
  ·refine BZ [.int .i64 0, .int .i64 0, .int .i64 0, .slice none 0 0] rfl AI rfl rfl (fun g6 => Qw (Qo 4 rfl ?_))
   refine AZ [] [] [] rfl underlying24 A8 rfl (by omega) (by kernel_rfl) (by repeat (first | exact trivial | refine ⟨⟨by first | rfl | exact (hR.rd.any).cells | exact ((hO1.rd (h := h) (ms := [m1]) (List.Mem.head _)).rd).cells | exact Rd.cells ‹_› | exact (RdL.rd ‹_›).cells, rfl, rfl⟩, ?_⟩)) rfl rfl rfl rfl (fun g25 => ?_)
   refine Qw (Qo 7 rfl ?_)
   refine Bm 0 (OwnL.blk (F := cI) (el := 3) (g := g25) (l := ([] : List Int)) 0 Br rfl (by omega)) hR.any rfl underlying24 A8 rfl (by omega) rfl rfl rfl Cv (by simp; omega) (by simp; omega) rfl rfl rfl (fun v1 m1 hO1 => ?_)
   rw [List.nil_append] at hO1
   have ov : v1.oneCell' = true := (hO1.rd (h := h) (ms := [m1]) (List.Mem.head _)).rd.one
   refine Qw ?_
   refine An 8 29 (by kernel_rfl) rfl (Hp.le_refl _) rfl (AT Gh [.int .i64 0, .int .i64 0, .int .i64 0, .slice none 0 0] [(0, _), (1, _), (2, _), (3, _)] [_, _, _, _] rfl AI rfl rfl (by repeat (first | exact trivial | refine ⟨⟨rfl, rfl, rfl⟩, ?_⟩ | refine ⟨⟨((hO1.rd (h := h) (ms := [m1]) (List.Mem.head _)).rd).cells, rfl, rfl⟩, ?_⟩)) rfl) ?_
   refine Qo 10 rfl ?_
   refine Sa 1 [_, _, _, _] AI rfl (by simp [ov]) ?_
   refine Qw (Qe ?_)
   exact A9 (AA _ ⟨m1, v1, g6, rfl, rfl, rfl, hO1⟩ Qs)
  exact A3
 obtain ⟨m, eu, g6, rfl, rfl, rfl, hO⟩ := hI
 ·have e2 : eu.oneCell' = true := (hO.rd (h := h) (ms := [m]) (List.Mem.head _)).rd.one
  refine BX (Ea (ms' := [AX g6 42 [.int .i64 p, .int .i64 r, .int .i64 c, eu], m, Hp.emp, AX g2 42 [.int .i64 0, .int .i64 0, .int .i64 0, .slice none 0 0]]) ((List.Perm.swap _ _ _).trans ((List.Perm.swap _ _ _).cons _)) (Ax (Qm rfl (B3 (Qm rfl (Aq (Ac (Ax (Qm rfl (Aq (Ag ?_)))))))))))
  refine AD (fun q s hh ms' => ∃ (j : Nat) (F : Nat → Nat → Int) (pv : List Nat) (vp : Value) (m m2 : Hp), q = c - j ∧ s = [(1, .pointer (some ⟨g1, 0, none⟩)), (2, .pointer (some ⟨g2, 0, none⟩)), (4, .int .i64 p), (5, .int .i64 c), (6, .pointer (some ⟨g6, 0, none⟩)), (7, vp), (8, .int .i64 (pv.length : Nat)), (9, .int .i64 j)] ∧ h' = hh ∧ ms' = [AX g6 42 [.int .i64 p, .int .i64 r, .int .i64 c, eu], m, m2, AX g2 42 [.int .i64 0, .int .i64 0, .int .i64 0, .slice none 0 0]] ∧ j ≤ c ∧ OwnL cI 1 3 m eu (mat r c F) ∧ OwnL cI 1 3 m2 vp (HY pv) ∧ Red p r c f F pv j)
   (c - 0) _ ⟨0, f, [], _, m, _, rfl, rfl, rfl, rfl, by omega, hO, OwnL.nil Br, Red.start hf⟩ Qs ?_
  rintro q s hh ms' ⟨j, F, pv, vp, m, m2, rfl, rfl, rfl, rfl, hj, hO, hO2, hRed⟩
  have ovp := (DA (h := h') (ms := [m2]) hO2 (List.Mem.head _)).one
  have hlr := hRed.len
  refine Ac (Ax (Qm rfl (Qm rfl (Qm rfl (Qm rfl ?_)))))
  refine AR (t := 33) rfl (fun hlt => ?_) (fun hlt => ?_)
  ·have hjc : j < c := by omega
   refine Qg (As rfl rfl) rfl (Qg (oF Bh rfl) rfl (Qg (oL rfl underlying3 (hA _ _ rfl _)) rfl (Qg (Dy rfl rfl rfl) rfl (Qm rfl (Aq ?_)))))
   refine AF rfl (fun hlt0 => ?_) (fun hlt0 => ?_)
   ·have htr : pv.length < r := by omega
    refine Ai (Ab (Ac (Ag (Ax (Qm rfl (Qm rfl (Aq (Ac (Ag ?_)))))))))
    refine AD (fun q s hh ms' => ∃ (i : Nat), q = r - i ∧ s = [(1, .pointer (some ⟨g1, 0, none⟩)), (2, .pointer (some ⟨g2, 0, none⟩)), (4, .int .i64 p), (5, .int .i64 c), (6, .pointer (some ⟨g6, 0, none⟩)), (7, vp), (8, .int .i64 pv.length), (9, .int .i64 j), (10, .int .i64 i)] ∧ h' = hh ∧ ms' = [AX g6 42 [.int .i64 p, .int .i64 r, .int .i64 c, eu], m, m2, AX g2 42 [.int .i64 0, .int .i64 0, .int .i64 0, .slice none 0 0]] ∧ pv.length ≤ i ∧ i ≤ r ∧ ∀ a, pv.length ≤ a → a < i → F a j = 0)
     (r - pv.length) _ ⟨pv.length, rfl, rfl, rfl, rfl, by omega, by omega, fun a h1 h2 => by omega⟩ Qs ?_
    rintro q s hh ms' ⟨i, rfl, rfl, rfl, rfl, hli, hir, hno⟩
    have elF : (mat r c F).length = r * c := AY _ _ _
    refine Ac (Ax (Qm rfl (Qf Bh rfl (Ql rfl underlying3 (hA _ _ rfl _) (Qm rfl (Qm rfl ?_))))))
    refine AR (t := 46) rfl (fun hi => ?_) (fun hi => ?_)
    ·have hi : i < r := by omega
     have hix := Cp hi hjc
     have hFi := hRed.bd i hi j hjc
     refine Qg (oF Bc rfl) rfl (Qg (oL rfl underlying24 (Cell.blk 0 rfl rfl)) rfl (Qg (As rfl rfl) rfl (Qg (As rfl rfl) rfl (Qg (oM rfl) rfl (Qg (As rfl rfl) rfl (Qg (oA rfl) rfl (Qg (Ah (i * c + j) (hO.rd (List.Mem.tail _ (List.Mem.head _))).rd rfl underlying24 A8 rfl rfl (by omega) (by omega)) rfl (Qg (oL rfl underlying3 ((hO.rd (List.Mem.tail _ (List.Mem.head _))).ent hi hjc)) rfl (Qg (EJ rfl rfl rfl) rfl (Qm rfl (Aq ?_)))))))))))
     refine AF rfl (fun hz => ?_) (fun hz => ?_)
     ·refine Ai (Ab (Ag (Ad (Qm rfl (Qx (oA rfl) rfl (Qm rfl (Ak (Aj ?_))))))))
      refine Al (r - (i + 1)) _ (by omega) ⟨i + 1, rfl, rfl, rfl, rfl, by omega, by omega, fun a h1 h2 => ?_⟩ Qs
      rcases (by omega : a < i ∨ a = i) with h3 | rfl
      ·exact hno a h1 h3
      ·exact hz
     ·refine Aw (Aa (Aa (Af (Ab (Ac (Ax (Qm rfl (Qf Bh rfl (Ql rfl underlying3 (hA _ _ rfl _) (Qm rfl (Aq (AF rfl (fun hc => absurd hc (by omega)) (fun hc => Ai (Ab (Ax (Qf Bc rfl (Ql rfl underlying24 (Cell.blk 0 rfl rfl) (Qm rfl (Qm rfl (Qx (oM rfl) rfl (Qm rfl (Qx (oA rfl) rfl (Qx (Ah (i * c + j) (hO.rd (List.Mem.tail _ (List.Mem.head _))).rd rfl underlying24 A8 rfl rfl (by omega) (by omega)) rfl (Ql rfl underlying3 ((hO.rd (List.Mem.tail _ (List.Mem.head _))).ent hi hjc) (Qm rfl (Qx (AG rfl call81 rfl (Ry (F i j) p _ hp (by omega) (by omega) _)) rfl (Qm rfl (Aq (Ac (Ax (Qm rfl (Aq (Ag ?_)))))))))))))))))))))))))))))))))
      have ho1 := Kh hp (show 1 ≤ F i j by omega) hFi.2
      have ho2 := F1 hp (show 1 ≤ F i j by omega) hFi.2
      generalize Gf (F i j) p = v at *
      refine AD (fun q s hh ms' => ∃ (b : Nat) (m : Hp), q = c - b ∧ s = [(1, .pointer (some ⟨g1, 0, none⟩)), (2, .pointer (some ⟨g2, 0, none⟩)), (4, .int .i64 p), (5, .int .i64 c), (6, .pointer (some ⟨g6, 0, none⟩)), (7, vp), (8, .int .i64 pv.length), (9, .int .i64 j), (10, .int .i64 i), (11, .int .i64 v), (12, .int .i64 b)] ∧ h' = hh ∧ ms' = [AX g6 42 [.int .i64 p, .int .i64 r, .int .i64 c, eu], m, m2, AX g2 42 [.int .i64 0, .int .i64 0, .int .i64 0, .slice none 0 0]] ∧ b ≤ c ∧ OwnL cI 1 3 m eu (mat r c (SQ p pv.length i v F b)))
       (c - 0) _ ⟨0, m, rfl, rfl, rfl, rfl, by omega, by rw [AO (fun a _ b _ => Sj p pv.length i v F a b)]; exact hO⟩ Qs ?_
      rintro q s hh ms' ⟨b, m, rfl, rfl, rfl, rfl, hbc, hO⟩
      refine Ac (Ax (Qm rfl (Qm rfl (Qm rfl (Aq ?_)))))
      refine AF rfl (fun hltb => ?_) (fun hltb => ?_)
      ·have hb' : b < c := by omega
       have hxi := Cp hi hb'
       have hxt := Cp htr hb'
       have hFb := hRed.bd i hi b hb'
       have hbm := DF hFb (p := p) ⟨show 0 ≤ v by omega, ho1.2⟩ hb.2
       have els : (mat r c (SQ p pv.length i v F b)).length = r * c := AY _ _ _
       have hat := Va p pv.length i v F b
       refine Ai (Ab (Ac (Ag (Ax (Qf Bc rfl (Ql rfl underlying24 (Cell.blk 0 rfl rfl) (Qm rfl (Qm rfl (Qx (oM rfl) rfl (Qm rfl (Qx (oA rfl) rfl (Qx (Ah (i * c + b) (hO.rd (List.Mem.tail _ (List.Mem.head _))).rd rfl underlying24 A8 rfl rfl (by omega) (by omega)) rfl (Ql rfl underlying3 ((hat i ▸ (hO.rd (List.Mem.tail _ (List.Mem.head _))).ent hi hb')) (Qm rfl (Aq (Ac (BB 16 Cd (by kernel_rfl) rfl (Wf Bc rfl (Wl rfl underlying24 (Cell.blk 0 rfl rfl) (Wm rfl (Wm rfl (AV (oM rfl) rfl rfl (Wm rfl (AV (oA rfl) rfl rfl (Wf Bc rfl (Wl rfl underlying24 (Cell.blk 0 rfl rfl) (Wm rfl (Wm rfl (AV (oM rfl) rfl rfl (Wm rfl (AV (oA rfl) rfl rfl (AV (Ah (pv.length * c + b) (hO.rd (List.Mem.tail _ (List.Mem.head _))).rd rfl underlying24 A8 rfl rfl (by omega) (by omega)) rfl rfl (Wl rfl underlying3 ((hat pv.length ▸ (hO.rd (List.Mem.tail _ (List.Mem.head _))).ent htr hb')) (BC (Qx (Ah (i * c + b) (hO.rd (List.Mem.tail _ (List.Mem.head _))).rd rfl underlying24 A8 rfl rfl (by omega) (by omega)) rfl (Bu 1 (i * c + b) hO rfl A8 rfl rfl rfl (by omega) rfl rfl (fun m1 hO1 => ?_)))))))))))))))))))))))))))))))))))))
       rw [C4 _ hb'] at hO1
       have els1 : (mat r c (DB (SQ p pv.length i v F b) i b (F pv.length b))).length = r * c := AY _ _ _
       refine Aq (BB 12 Cd (by kernel_rfl) rfl (Wf Bc rfl (Wl rfl underlying24 (Cell.blk 0 rfl rfl) (Wm rfl (Wm rfl (AV (oM rfl) rfl rfl (Wm rfl (AV (oA rfl) rfl rfl (Wm rfl (Wm rfl (AV (oM rfl) rfl rfl (Wm rfl (AV (B0 rfl rfl rfl (by omega) (by omega)) rfl rfl (BC (Qx (Ah (pv.length * c + b) (hO1.rd (List.Mem.tail _ (List.Mem.head _))).rd rfl underlying24 A8 rfl rfl (by omega) (by omega)) rfl (Bu 1 (pv.length * c + b) hO1 rfl A8 rfl rfl rfl (by omega) rfl rfl (fun m2' hO2' => ?_)))))))))))))))))
       rw [C4 _ hb', AO (fun a _ b' _ => QX p pv.length i v F b a b')] at hO2'
       refine Ak (Aj (Ab (Ad (Qm rfl (Qx (oA rfl) rfl (Qm rfl (Ak ?_)))))))
       refine Al (c - (b + 1)) _ (by omega) ⟨b + 1, m2', rfl, rfl, rfl, rfl, by omega, hO2'⟩ Qs
      ·obtain rfl : b = c := by omega
       rw [AO (fun a _ b' hb' => TF p pv.length i j v F b a b' hb')] at hO
       have hb2 := R2 (v := v) hb.1 htr hi hRed.bd
       refine Aw (Aa (Aa (Af (Ab (Ac (Ax (Qm rfl (Aq (Ag ?_)))))))))
       refine AD (fun q s hh ms' => ∃ (k : Nat) (m : Hp), q = r - k ∧ s = [(1, .pointer (some ⟨g1, 0, none⟩)), (2, .pointer (some ⟨g2, 0, none⟩)), (4, .int .i64 p), (5, .int .i64 b), (6, .pointer (some ⟨g6, 0, none⟩)), (7, vp), (8, .int .i64 pv.length), (9, .int .i64 j), (10, .int .i64 i), (11, .int .i64 v), (14, .int .i64 k)] ∧ h' = hh ∧ ms' = [AX g6 42 [.int .i64 p, .int .i64 r, .int .i64 b, eu], m, m2, AX g2 42 [.int .i64 0, .int .i64 0, .int .i64 0, .slice none 0 0]] ∧ k ≤ r ∧ OwnL cI 1 3 m eu (mat r b (Hi p pv.length i j v F k)))
        (r - 0) _ ⟨0, m, rfl, rfl, rfl, rfl, by omega, hO⟩ Qs ?_
       rintro q s hh ms' ⟨k, m, rfl, rfl, rfl, rfl, hk, hO⟩
       refine Ac (Ax (Qm rfl (Qf Bh rfl (Ql rfl underlying3 (hA _ _ rfl _) (Qm rfl (Aq ?_))))))
       refine AF rfl (fun hltk => ?_) (fun hltk => ?_)
       ·have hkr : k < r := by omega
        have hxk := Cp hkr hjc
        have hn := hb2 k hkr j hjc
        have hkk := L4 p pv.length i j v F k j
        have elk : (mat r b (Hi p pv.length i j v F k)).length = r * b := AY _ _ _
        refine Ai (Ab (Ac (Ag (Ax (Qf Bc rfl (Ql rfl underlying24 (Cell.blk 0 rfl rfl) (Qm rfl (Qm rfl (Qx (oM rfl) rfl (Qm rfl (Qx (oA rfl) rfl (Qx (Ah (k * b + j) (hO.rd (List.Mem.tail _ (List.Mem.head _))).rd rfl underlying24 A8 rfl rfl (by omega) (by omega)) rfl (Ql rfl underlying3 ((hkk ▸ (hO.rd (List.Mem.tail _ (List.Mem.head _))).ent hkr hjc)) (Qm rfl (B3 (Qm rfl (Aq (Ag ?_))))))))))))))))))
        refine AD (fun q s hh ms' => ∃ (d : Nat) (m : Hp), q = b - d ∧ s = [(1, .pointer (some ⟨g1, 0, none⟩)), (2, .pointer (some ⟨g2, 0, none⟩)), (4, .int .i64 p), (5, .int .i64 b), (6, .pointer (some ⟨g6, 0, none⟩)), (7, vp), (8, .int .i64 pv.length), (9, .int .i64 j), (10, .int .i64 i), (11, .int .i64 v), (14, .int .i64 k), (15, .int .i64 (De p pv.length i v F k j)), (16, .int .i64 d)] ∧ h' = hh ∧ ms' = [AX g6 42 [.int .i64 p, .int .i64 r, .int .i64 b, eu], m, m2, AX g2 42 [.int .i64 0, .int .i64 0, .int .i64 0, .slice none 0 0]] ∧ d ≤ b ∧ ((k = pv.length ∨ De p pv.length i v F k j = 0) → d = 0) ∧ OwnL cI 1 3 m eu (mat r b (PF p pv.length i j v F k d)))
         (b - 0) _ ⟨0, m, rfl, rfl, rfl, rfl, by omega, fun _ => rfl, by rw [AO (fun a _ b' _ => LX p pv.length i j v F k a b')]; exact hO⟩ Qs ?_
        rintro q s hh ms' ⟨d, m, rfl, rfl, rfl, rfl, hd, hd0, hO⟩
        have hdone : (k = pv.length ∨ De p pv.length i v F k j = 0) → OwnL cI 1 3 m eu (mat r b (Hi p pv.length i j v F (k + 1))) := fun hx => by
         obtain rfl := hd0 hx
         rw [AO (fun a _ b' _ => LX p pv.length i j v F k a b'), AO (fun a _ b' hb' => IJ p pv.length i j v F k a b' (by rcases hx with hx | hx; exact .inl hx; exact .inr ⟨hx, hb2 k hkr b' hb'⟩))] at hO
         exact hO
        refine Ac (Ax (Qm rfl (Qm rfl (Qm rfl (Qm rfl ?_)))))
        refine AR (t := 137) rfl (fun hq1 => ?_) (fun hq1 => ?_)
        ·have hdb : d < b := by omega
         refine Qg (As rfl rfl) rfl (Qg (As rfl rfl) rfl (Qg (B4 rfl rfl rfl) rfl (Qm rfl (Qm rfl ?_))))
         refine AR (t := 142) rfl (fun hq2 => ?_) (fun hq2 => ?_)
         ·have hkt : k ≠ pv.length := by omega
          refine Qg (As rfl rfl) rfl (Qg (Dd rfl rfl rfl) rfl (Qm rfl (Aq ?_)))
          refine AF rfl (fun hq3 => ?_) (fun hq3 => ?_)
          ·have hxd := Cp hkr hdb
           have hxt := Cp htr hdb
           have hv1 := hb2 k hkr d hdb
           have hv2 := hb2 pv.length htr d hdb
           have hka := UX p pv.length i j v F k d
           have hkt2 := V3 p pv.length i j v F k d d
           have hbm := DF (p := p) (a := p - De p pv.length i v F k j) ⟨by omega, by omega⟩ hv2 hb.2
           have elp : (mat r b (PF p pv.length i j v F k d)).length = r * b := AY _ _ _
           refine Ai (Ab (Ac (Ag (BB 32 Cd (by kernel_rfl) rfl (Wf Bc rfl (Wl rfl underlying24 (Cell.blk 0 rfl rfl) (Wm rfl (Wm rfl (AV (oM rfl) rfl rfl (Wm rfl (AV (oA rfl) rfl rfl (Wf Bc rfl (Wl rfl underlying24 (Cell.blk 0 rfl rfl) (Wm rfl (Wm rfl (AV (oM rfl) rfl rfl (Wm rfl (AV (oA rfl) rfl rfl (AV (Ah (k * b + d) (hO.rd (List.Mem.tail _ (List.Mem.head _))).rd rfl underlying24 A8 rfl rfl (by omega) (by omega)) rfl rfl (Wl rfl underlying3 ((hka ▸ (hO.rd (List.Mem.tail _ (List.Mem.head _))).ent hkr hdb)) (Wm rfl (Wm rfl (AV (oS rfl) rfl rfl (Wf Bc rfl (Wl rfl underlying24 (Cell.blk 0 rfl rfl) (Wm rfl (Wm rfl (AV (oM rfl) rfl rfl (Wm rfl (AV (oA rfl) rfl rfl (AV (Ah (pv.length * b + d) (hO.rd (List.Mem.tail _ (List.Mem.head _))).rd rfl underlying24 A8 rfl rfl (by omega) (by omega)) rfl rfl (Wl rfl underlying3 ((hkt2 ▸ (hO.rd (List.Mem.tail _ (List.Mem.head _))).ent htr hdb)) (AV (oM rfl) rfl rfl (AV (oA rfl) rfl rfl (Wm rfl (AV (B0 rfl rfl rfl (by omega) (by omega)) rfl rfl (BC (Qx (Ah (k * b + d) (hO.rd (List.Mem.tail _ (List.Mem.head _))).rd rfl underlying24 A8 rfl rfl (by omega) (by omega)) rfl (Bu 1 (k * b + d) hO rfl A8 rfl rfl rfl (by omega) rfl rfl (fun m1 hO1 => ?_))))))))))))))))))))))))))))))))))))))))
           rw [C4 _ hdb, AO (fun a _ b' _ => PS p pv.length i j v F k d a b' hkt)] at hO1
           refine Ak (Aj (Ab (Ad (Qm rfl (Qx (oA rfl) rfl (Qm rfl (Ak ?_)))))))
           refine Al (b - (d + 1)) _ (by omega) ⟨d + 1, m1, rfl, rfl, rfl, rfl, by omega, fun hx => by omega, hO1⟩ Qs
          ·refine Aw (Aa (Aa (Af (Aj (Ab (Ad (Qm rfl (Qx (oA rfl) rfl (Qm rfl (Ak ?_))))))))))
           refine Al (r - (k + 1)) _ (by omega) ⟨k + 1, m, rfl, rfl, rfl, rfl, by omega, hdone (.inr (by omega))⟩ Qs
         ·refine Qk rfl (Qk rfl (Qm rfl (Aq (Bb rfl (Aw (Aa (Aa (Af (Aj (Ab (Ad (Qm rfl (Qx (oA rfl) rfl (Qm rfl (Ak ?_)))))))))))))))
          refine Al (r - (k + 1)) _ (by omega) ⟨k + 1, m, rfl, rfl, rfl, rfl, by omega, hdone (.inl (by omega))⟩ Qs
        ·refine Qk rfl (Qk rfl (Qk rfl (Qm rfl (Qm rfl (Qk rfl (Qk rfl (Qm rfl (Aq (Bb rfl (Aw (Aa (Aa (Af (Aj (Ab (Ad (Qm rfl (Qx (oA rfl) rfl (Qm rfl (Ak ?_))))))))))))))))))))
         obtain rfl : d = b := by omega
         refine Al (r - (k + 1)) _ (by omega) ⟨k + 1, m, rfl, rfl, rfl, rfl, by omega, by rw [AO (fun a _ b' hb' => T3 p pv.length i j v F k d a b' hb')] at hO; exact hO⟩ Qs
       ·obtain rfl : k = r := by omega
        refine Aw (Aa (Aa (Af (Ab (Ax (Qm rfl (Qm rfl ?_)))))))
        refine AB [_] rfl underlying24 A8 rfl (by rfl) rfl rfl (by omega) rfl rfl rfl (fun g183 => ?_)
        refine Bm 3 hO2 (RdL.one Br (List.Mem.head _) rfl) rfl underlying24 A8 rfl (by omega) rfl rfl rfl Cv (by simp only [EF, List.length_singleton]; omega) (by simp only [EF, List.length_singleton]; omega) rfl rfl rfl (fun vp' mv hOv => ?_)
        rw [LV] at hOv
        refine Qm rfl (IA (Qm rfl (Qx (oA rfl) rfl (Qm rfl (Ak (Aj (Ab (Ad (Qm rfl (Qx (oA rfl) rfl (Qm rfl (Ak (A5 ?_)))))))))))))
        have hlen1 : (pv ++ [j]).length = pv.length + 1 := by simp
        refine Al (b - (j + 1)) [(1, .pointer (some ⟨g1, 0, none⟩)), (2, .pointer (some ⟨g2, 0, none⟩)), (4, .int .i64 p), (5, .int .i64 b), (6, .pointer (some ⟨g6, 0, none⟩)), (7, vp'), (8, .int .i64 ((pv.length + 1 : Nat) : Int)), (9, .int .i64 ((j + 1 : Nat) : Int))] (by omega) ⟨j + 1, J0 p pv.length i j v F, pv ++ [j], vp', m, mv, rfl, by rw [hlen1], rfl, rfl, by omega, by rw [AO (fun a ha b' _ => NZ p pv.length i j v F k a b' ha)] at hO; exact hO, hOv, hRed.step hb.1 hi hli hjc ho2⟩ Qs
    ·refine Qk rfl (Qk rfl (Qk rfl (Qk rfl (Qk rfl (Qk rfl (Qk rfl (Qk rfl (Qk rfl (Qk rfl (Qm rfl (Aq (Bb rfl (Aw (Aa (Aa (Af (Ab (Ac (Ax (Qm rfl (Qf Bh rfl (Ql rfl underlying3 (hA _ _ rfl _) (Qm rfl (Aq ?_))))))))))))))))))))))))
     refine AF rfl (fun hc => ?_) (fun hc => absurd (by omega) hc)
     refine Aw (Aa (Af (Ab (Ad (Qm rfl (Qx (oA rfl) rfl (Qm rfl (Ak ?_))))))))
     refine Al (c - (j + 1)) _ (by omega) ⟨j + 1, F, pv, vp, m, m2, rfl, rfl, rfl, rfl, by omega, hO, hO2, hRed.skip fun a ha hl => hno a hl (by omega)⟩ Qs
   ·have hfin := Red.fin (show r ≤ pv.length by omega) (c - j) j hRed
    rw [show j + (c - j) = c by omega] at hfin
    refine Aw (Aa (Aa (Af (Ab (Ax (Qx (oG rfl underlying42 AI (Seg.blk 0 rfl)) rfl (Qm rfl ?_)))))))
    refine Sa 3 [_, _, _, _] AI rfl (by simp [e2]) ?_
    refine Qm rfl (Aq (Ao (A5 ?_)))
    exact CX (vs := [_, _, _, _]) 2 rfl rfl rfl underlying42 rfl AI rfl rfl (⟨hle, F, pv, eu, vp, m, m2, rfl, rfl, hO, hO2, ⟨hfin⟩⟩)
  ·obtain rfl : j = c := by omega
   refine Qk rfl (Qk rfl (Qk rfl (Qk rfl (Qm rfl (Aq (Bb rfl (Aw (Aa (Aa (Af (Ab (Ax (Qx (oG rfl underlying42 AI (Seg.blk 0 rfl)) rfl (Qm rfl ?_))))))))))))))
   refine Sa 3 [_, _, _, _] AI rfl (by simp [e2]) ?_
   refine Qm rfl (Aq (Ao (A5 ?_)))
   exact CX (vs := [_, _, _, _]) 2 rfl rfl rfl underlying42 rfl AI rfl rfl (⟨hle, F, pv, eu, vp, m, m2, rfl, rfl, hO, hO2, ⟨hRed⟩⟩)
end Go.Proofs.YtdnelknieikbaaaGreat
namespace Go.Proofs.YtdnelknieikbaaaGreat
open Go.Proofs.Tryz
open Go.Eng Go.RowKit Go.Lin
def VecB (d : Nat → Nat) (fr n : Nat) (es : List Value) (v : Nat → Nat → Int) (m : Hp) : Prop := Bag n (fun k x => OwnL cI 1 3 x (es.getD k undef) (vec (d (fr + k)) (v (fr + k)))) m
def StO (d : Nat → Nat) (g fr to : Nat) (v : Nat → Nat → Int) (m : Hp) : Prop :=
 ∃ (vv : Value) (es : List Value) (ma mb : Hp), fr ≤ to ∧ m = (AX g 110 [.int .i64 fr, .int .i64 to, vv]).join (ma.join mb) ∧ (AX g 110 [.int .i64 fr, .int .i64 to, vv]).disj (ma.join mb) ∧ ma.disj mb ∧ OwnL cV 1 24 ma vv es ∧ es.length = to + 1 - fr ∧ VecB d fr es.length es v mb
def We (h : Hp) (d : Nat → Nat) (g fr to : Nat) (v : Nat → Nat → Int) : Prop :=
 ∃ (vv : Value) (es : List Value), fr ≤ to ∧ Seg h [] ⟨g, 0, none⟩ [.int .i64 fr, .int .i64 to, vv] ∧ RdL cV 1 h [] vv es ∧ es.length = to + 1 - fr ∧ ∀ k (hk : k < es.length), RdL cI 1 h [] es[k] (vec (d (fr + k)) (v (fr + k)))
theorem Ev {es : List Value} {k : Nat} (hk : k < es.length) : es.getD k undef = es[k] := by simp [List.getD, hk]
theorem VecB.rd {d : Nat → Nat} {fr n : Nat} {es : List Value} {v : Nat → Nat → Int} {m h : Hp} (B : VecB d fr n es v m) (hl : m.le h) (hn : n = es.length) : ∀ k (hk : k < es.length), RdL cI 1 h [] es[k] (vec (d (fr + k)) (v (fr + k))) := fun k hk => by
 obtain ⟨x, hx, O⟩ := Bag.all B k (by omega)
 rw [Ev hk] at O
 exact O.rdh (Hp.le_trans hx hl)
theorem StO.rd {d : Nat → Nat} {g fr to : Nat} {v : Nat → Nat → Int} {m h : Hp} (S : StO d g fr to v m) (hl : m.le h) : We h d g fr to v := by
 obtain ⟨vv, es, ma, mb, h0, rfl, h1, h2, h3, h4, h5⟩ := S
 have l1 : ma.le h := Hp.le_trans (Hp.le_trans Hp.le_joinl (Hp.le_joinr h1)) hl
 have l2 : mb.le h := Hp.le_trans (Hp.le_trans (Hp.le_joinr h2) (Hp.le_joinr h1)) hl
 exact ⟨vv, es, h0, Seg.ofLe (Hp.le_trans Hp.le_joinl hl), h3.rdh l1, h4, h5.rd l2 rfl⟩
theorem Wu (a : Addr) : a.add 0 = a := by unfold Addr.add; simp
theorem SO (d : Nat → Nat) (g fr to : Nat) (v : Nat → Nat → Int) (h : Hp) (hS : We h d g fr to v) (ht : to ≤ 1000) : ∃ u, (∀ ms, Dq Tryz.prog 107 #[.pointer (some ⟨g, 0, none⟩)] h ms u) ∧ RdL cI 1 h [] u (vec (d to) (v to)) := by
 obtain ⟨vv, es, h0, h1, h2, h3, h4⟩ := hS
 have hk : to - fr < es.length := by omega
 refine ⟨es[to - fr], fun ms => Ds ?_ ms, by have := h4 (to - fr) hk; rwa [show fr + (to - fr) = to by omega] at this⟩
 have hA := Seg.all h1
 have hlen : ((es.length : Nat) : Int) = (to : Int) + 1 - fr := by omega
 have hn : es.length ≤ 1001 := by omega
 refine Av func107 ntmps107 rfl rfl (fun w0 hw0 => ?_)
 simp only [A4]
 refine Ax (Qm rfl (Aq (Ac (AW (n := 15) (bs := [true, true, true, true, true, true, true, true, true, true, true, true, true, true, false]) [true, true, true, true, true, true, true, true, true, true, true, true, true, true] Cd (by kernel_rfl) (by kernel_rfl) rfl rfl (Qq rfl (Qq rfl (QF C7 rfl (QF CY rfl (QL rfl underlying62 (hA 2 _ rfl _) (Qq rfl (Qq rfl (QF C7 rfl (QF CY rfl (QL rfl underlying62 (hA 2 _ rfl _) (Qp rfl (AJ h2.rd.any rfl underlying62 rfl) (Qp rfl (oS rfl) (Qp rfl (Ah (to - fr) h2.rd.any rfl underlying62 BN rfl rfl (by omega) (by omega)) (QL rfl underlying24 (h2.any.cell0 hk rfl) ?_))))))))))))))))))
 unfold CD
 simp only [List.cons_append, List.nil_append]
 refine Qo 14 rfl (Qm rfl (Qw (Qe (Ab (Ao ?_)))))
 exact Am rfl rfl (rfl)
end Go.Proofs.YtdnelknieikbaaaGreat
namespace Go.Proofs.YtdnelknieikbaaaGreat
open Go.Proofs.Tryz
open Go.Eng Go.RowKit Go.Lin
def HH (p n : Int) (ft : Nat) (v w : Nat → Nat → Int) (k i : Nat) : Int := if ft ≤ k then (v k i + n * w k i) % p else v k i
def IS (p n : Int) (to b : Nat) (v w : Nat → Nat → Int) (k i : Nat) : Int := if to < k + b then (v k i + n * w k i) % p else v k i
def Jd (p n : Int) (i : Nat) (v w : Nat → Int) (a : Nat) : Int := if a < i then (v a + n * w a) % p else v a
theorem Oy (p n : Int) (i : Nat) (v w : Nat → Int) (a : Nat) : (if a = i then (v i + n * w i) % p else Jd p n i v w a) = Jd p n (i + 1) v w a := by
 unfold Jd
 by_cases h : a = i
 ·rw [if_pos h, if_pos (by omega), h]
 ·rw [if_neg h]
  by_cases h2 : a < i
  ·rw [if_pos h2, if_pos (by omega)]
  ·rw [if_neg h2, if_neg (by omega)]
theorem T7 (p n : Int) (i : Nat) (v w : Nat → Int) : Jd p n i v w i = v i := if_neg (by omega)
theorem U4 (p n : Int) (d : Nat → Nat) (gs gt fs ft to : Nat) (v w : Nat → Nat → Int) (vv : Value) (es : List Value) (mb : Hp) (h : Hp) (hp : 2 ≤ p ∧ p ≤ 997) (hn : 0 ≤ n ∧ n ≤ 997) (hto : to ≤ 1000) (hfs : fs ≤ to) (hd : ∀ k, d k ≤ 400)
  (hv : ∀ k, fs ≤ k → k ≤ to → ∀ i, i < d k → 0 ≤ v k i ∧ v k i < p) (hw : ∀ k, ft ≤ k → k ≤ to → ∀ i, i < d k → 0 ≤ w k i ∧ w k i < p)
  (hS : Seg h [] ⟨gs, 0, none⟩ [.int .i64 fs, .int .i64 to, vv]) (hE : RdL cV 1 h [] vv es) (hl : es.length = to + 1 - fs) (B : VecB d fs es.length es v mb) (hT : We h d gt ft to w) :
  FnT Tryz.prog 112 #[.pointer (some ⟨gs, 0, none⟩), .int .i64 p, .int .i64 n, .pointer (some ⟨gt, 0, none⟩)] h [mb] (fun r h' ms' => h = h' ∧ ∃ mb', ms' = [mb'] ∧ VecB d fs es.length es (HH p n ft v w) mb') := by
 obtain ⟨wv, ws, hft, hS2, hE2, hl2, hW⟩ := hT
 have hA := Seg.all hS
 have hA2 := Seg.all hS2
 have c1 : ((es.length : Nat) : Int) = (to : Int) + 1 - fs := by omega
 have c2 : ((ws.length : Nat) : Int) = (to : Int) + 1 - ft := by omega
 refine Av func112 ntmps112 rfl rfl (fun w0 hw0 => ?_)
 simp only [A4]
 refine Ax (Qm rfl (Aq (Ag ?_)))
 refine AD (fun q s hh ms' => ∃ (b : Nat) (m : Hp), q = 2000 - b ∧ s = [(0, .pointer (some ⟨gs, 0, none⟩)), (1, .int .i64 p), (2, .int .i64 n), (3, .pointer (some ⟨gt, 0, none⟩)), (8, .int .i64 ((b : Int) + 1))] ∧ h = hh ∧ ms' = [m] ∧ b ≤ es.length ∧ b ≤ ws.length ∧ VecB d fs es.length es (IS p n to b v w) m)
  (2000 - 0) _ ⟨0, mb, rfl, rfl, rfl, rfl, by omega, by omega, B.mono fun l hl x O => by rw [BA (f := IS p n to 0 v w (fs + l)) (g := v (fs + l)) (fun i _ => if_neg (by omega))]; exact O⟩ Qs ?_
 rintro q s hh ms' ⟨b, m, rfl, rfl, rfl, rfl, hb1, hb2, B⟩
 refine Ac (Ac (AW (n := 15) (bs := [true, true, true, true, true, true, true, true, true, true, true, true, true, true, true]) [true, true, true, true, true, true, true, true, true, true, true, true, true, true, true] Cd (by kernel_rfl) (by kernel_rfl) rfl rfl (Qq rfl (Qq rfl (Qq rfl (QF C7 rfl (QF CY rfl (QL rfl underlying62 (hA 2 _ rfl _) (Qp rfl (AJ hE.rd.any rfl underlying62 rfl) (Qq rfl (Qq rfl (QF C7 rfl (QF CY rfl (QL rfl underlying62 (hA2 2 _ rfl _) (Qp rfl (AJ hE2.rd.any rfl underlying62 rfl) (Qp rfl (MX rfl rfl rfl) (Qq rfl ?_)))))))))))))))))
 unfold CD
 simp only [List.cons_append, List.nil_append]
 refine Qe (Ab ?_)
 refine AF rfl (fun hlt => ?_) (fun hlt => ?_)
 ·have hkk : to - b - fs < es.length := by omega
  have hkk2 : to - b - ft < ws.length := by omega
  have hbt : b ≤ to := by omega
  refine Ai (Ab (Ac (Ag (Ac (AW (n := 32) (bs := [true, true, true, true, true, true, true, true, true, true, true, true, true, true, true, true, true, true, true, true, true, true, true, true, true, true, true, true, true, true, false, false]) [true, true, true, true, true, true, true, true, true, true, true, true, true, true, true, true, true, true, true, true, true, true, true, true, true, true, true, true, true, true] Cd (by kernel_rfl) (by kernel_rfl) rfl rfl (Qq rfl (Qq rfl (QF C7 rfl (QF CY rfl (QL rfl underlying62 (hA 2 _ rfl _) (Qq rfl (Qq rfl (QF C7 rfl (QF CY rfl (QL rfl underlying62 (hA 2 _ rfl _) (Qp rfl (AJ hE.rd.any rfl underlying62 rfl) (Qq rfl (Qp rfl (oS rfl) (Qp rfl (Ah (to - b - fs) hE.rd.any rfl underlying62 BN rfl rfl (by omega) (by omega)) (QL rfl underlying24 (hE.any.cell0 hkk rfl) (Qq rfl (Qq rfl (QF C7 rfl (QF CY rfl (QL rfl underlying62 (hA2 2 _ rfl _) (Qq rfl (Qq rfl (QF C7 rfl (QF CY rfl (QL rfl underlying62 (hA2 2 _ rfl _) (Qp rfl (AJ hE2.rd.any rfl underlying62 rfl) (Qq rfl (Qp rfl (oS rfl) (Qp rfl (Ah (to - b - ft) hE2.rd.any rfl underlying62 BN rfl rfl (by omega) (by omega)) (QL rfl underlying24 (hE2.any.cell0 hkk2 rfl) ?_)))))))))))))))))))))))))))))))))))
  unfold CD
  simp only [List.cons_append, List.nil_append]
  refine Qo 30 rfl (Qm rfl (Qw (Qo 31 rfl (Qm rfl (Qw (Qe ?_))))))
  obtain ⟨m1, m2, rfl, hdj, O, hoth, hclose⟩ := Bag.open B hkk
  rw [Ev hkk, show fs + (to - b - fs) = to - b by omega] at O
  have hWk := hW (to - b - ft) hkk2
  rw [show ft + (to - b - ft) = to - b by omega] at hWk
  have hvk := hv (to - b) (by omega) (by omega)
  have hwk := hw (to - b) (by omega) (by omega)
  have hdk := hd (to - b)
  have O : OwnL cI 1 3 m1 es[to - b - fs] (vec (d (to - b)) (v (to - b))) := by
   rwa [BA (f := IS p n to b v w (to - b)) (g := v (to - b)) (fun i _ => if_neg (by omega))] at O
  refine Ab (Il hdj ?_)
  have ew := AQ (d (to - b)) (w (to - b))
  have hRl : ∀ ms, m1 ∈ ms → Rd h ms es[to - b - fs] 1 (d (to - b)) ((vec (d (to - b)) (v (to - b))).flatMap cI) := fun ms hm => by
   have := (O.rd (h := h) hm).rd
   rwa [AQ] at this
  refine Ax (Qm rfl (Qx (AJ (hRl _ (List.Mem.head _)) rfl underlying24 rfl) rfl (Qm rfl (Aq (Ag ?_)))))
  refine AD (fun q s hh ms' => ∃ (i : Nat) (m1 : Hp), q = d (to - b) - i ∧ s = [(0, .pointer (some ⟨gs, 0, none⟩)), (1, .int .i64 p), (2, .int .i64 n), (3, .pointer (some ⟨gt, 0, none⟩)), (8, .int .i64 ((b : Int) + 1)), (9, es[to - b - fs]), (10, ws[to - b - ft]), (60, .int .i64 (d (to - b))), (61, .int .i64 i)] ∧ h = hh ∧ ms' = [m1, m2] ∧ i ≤ d (to - b) ∧ OwnL cI 1 3 m1 es[to - b - fs] (vec (d (to - b)) (Jd p n i (v (to - b)) (w (to - b)))))
   (d (to - b) - 0) _ ⟨0, m1, rfl, rfl, rfl, rfl, by omega, by rw [BA (f := Jd p n 0 (v (to - b)) (w (to - b))) (g := v (to - b)) (fun i _ => if_neg (by omega))]; exact O⟩ Qs ?_
  rintro q s hh ms' ⟨i, m1, rfl, rfl, rfl, rfl, hi, O⟩
  have hRl : ∀ ms, m1 ∈ ms → Rd h ms es[to - b - fs] 1 (d (to - b)) ((vec (d (to - b)) (Jd p n i (v (to - b)) (w (to - b)))).flatMap cI) := fun ms hm => by
   have := (O.rd (h := h) hm).rd
   rwa [AQ] at this
  refine Ax (Qm rfl (Aq (Ac ?_)))
  refine AF rfl (fun hlti => ?_) (fun hlti => ?_)
  ·have hid : i < d (to - b) := by omega
   have hvi := hvk i hid
   have hwi := hwk i hid
   have hmb : 0 ≤ n * w (to - b) i ∧ n * w (to - b) i ≤ 997 * 997 := ⟨Int.mul_nonneg hn.1 hwi.1, Int.mul_le_mul hn.2 (by omega) hwi.1 (by omega)⟩
   have ew2 := AQ (d (to - b)) (Jd p n i (v (to - b)) (w (to - b)))
   have hcw : ∀ ms, Cell h ms ((Bl ws[to - b - ft]).add (i * 1)) (.int .i64 (w (to - b) i)) := fun ms => (hWk.any (ms := ms)).ev hid
   have hcv : ∀ ms, m1 ∈ ms → Cell h ms ((Bl es[to - b - fs]).add (i * 1)) (.int .i64 (v (to - b) i)) := fun ms hm => by
    have := (O.rd (h := h) hm).ev hid
    rwa [T7] at this
   refine Ai (Ab (Ac (Ag (Ax (Qm rfl (Qm rfl (Aq (AW (n := 17) (bs := [true, true, true, true, true, false, true, true, true, true, true, true, false, true, false, true, false]) [true, true, true, true, true, false, true, true, true, true, true, true, false, true, false, true] Cd (by kernel_rfl) (by kernel_rfl) rfl rfl (Qq rfl (Qq rfl (Qq rfl (Qq rfl (Qp rfl (Bo (i) (hRl [m1] (List.Mem.head _)) rfl underlying24 A8 rfl rfl (by omega) (by omega)) (Qq rfl (Qq rfl (Qq rfl (Qp rfl (Ah (i) hWk.rd.any rfl underlying24 A8 rfl rfl (by omega) (by omega)) (QL rfl underlying3 (hcw _) (Qp rfl (oM rfl) (Qq rfl (Qp rfl (Bo (i) (hRl [m1] (List.Mem.head _)) rfl underlying24 A8 rfl rfl (by omega) (by omega)) ?_)))))))))))))))))))))
   unfold CD
   simp only [List.cons_append, List.nil_append]
   refine Qo 5 rfl (Ql rfl underlying3 (hcv _ (List.Mem.head _)) (Qw (Qo 12 rfl (Qx (oA rfl) rfl (Qw (Qo 14 rfl (Qx (B0 rfl rfl rfl (by omega) (by omega)) rfl (Qw (Qo 16 rfl (Bu 0 i O rfl A8 rfl rfl rfl (by omega) rfl rfl (fun m' hO' => Qw (Qe (Aj (Ab (Ad (Qx (oA rfl) rfl (Qm rfl (Ak ?_))))))))))))))))))
   refine Al (d (to - b) - (i + 1)) _ (by omega) ⟨i + 1, m', rfl, rfl, rfl, rfl, by omega, ?_⟩ Qs
   rw [D6, BA (fun a _ => Oy p n i (v (to - b)) (w (to - b)) a)] at hO'
   exact hO'
  ·obtain rfl : i = d (to - b) := by omega
   refine Aw (Aa (Aa (Af (Aj (Ab (Ad (Qm rfl (Qx (oA rfl) rfl (Qm rfl (Ak (Ck fun hap => ?_)))))))))))
   have hd12 : m1.disj m2 := (List.pairwise_cons.1 hap).1 _ (List.mem_singleton.2 rfl)
   refine Cq ?_
   refine Al (2000 - (b + 1)) _ (by omega) ⟨b + 1, m1.join m2, rfl, rfl, rfl, rfl, by omega, by omega, ?_⟩ Qs
   refine hclose _ m1 hd12 ?_ fun k hk hne x O => ?_
   ·rw [Ev hkk, show fs + (to - b - fs) = to - b by omega, BA (f := IS p n to (b + 1) v w (to - b)) (g := Jd p n (d (to - b)) (v (to - b)) (w (to - b))) (fun a ha => ?_)]
    ·exact O
    ·unfold IS Jd
     rw [if_pos (by omega), if_pos ha]
   ·rw [BA (f := IS p n to (b + 1) v w (fs + k)) (g := IS p n to b v w (fs + k)) (fun a _ => ?_)]
    ·exact O
    ·unfold IS
     by_cases h3 : to < fs + k + b
     ·rw [if_pos h3, if_pos (by omega)]
     ·rw [if_neg h3, if_neg (by omega)]
 ·refine Aw (Aa (Aa (Af ?_)))
  have hfin : ∀ l a, l < es.length → HH p n ft v w (fs + l) a = IS p n to b v w (fs + l) a := fun l a hl => by
   unfold HH IS
   by_cases h3 : ft ≤ fs + l
   ·rw [if_pos h3, if_pos (by omega)]
   ·rw [if_neg h3, if_neg (by omega)]
  exact B6 rfl (⟨rfl, m, rfl, B.mono fun l hl x O => by rw [BA (f := HH p n ft v w (fs + l)) (g := IS p n to b v w (fs + l)) (fun a _ => hfin l a hl)]; exact O⟩)
end Go.Proofs.YtdnelknieikbaaaGreat
namespace Go.Proofs.YtdnelknieikbaaaGreat
open Go.Proofs.Tryz
open Go.Eng Go.RowKit Go.Lin
variable {n d k : Nat} {w : Nat → Nat → Int} {v : Value}
def BagV (d n : Nat) (es : List Value) (w : Nat → Nat → Int) (m : Hp) : Prop := es.length = n ∧ Bag n (fun k x => OwnL cI 1 3 x (es.getD k undef) (vec d (w k))) m
theorem BagV.zero (d : Nat) (w : Nat → Nat → Int) : BagV d 0 [] w Hp.emp := ⟨rfl, Bag.zero _⟩
theorem BagV.snoc {es : List Value} {w' : Nat → Nat → Int} {m x : Hp} (B : BagV d n es w m) (O : OwnL cI 1 3 x v (vec d (w' n))) (hd : m.disj x) (hw : ∀ k, k < n → ∀ i, i < d → w' k i = w k i) : BagV d (n + 1) (es ++ [v]) w' (m.join x) := by
 obtain ⟨h1, B⟩ := B
 refine ⟨by rw [List.length_append, h1]; rfl, Bag.snoc (B.mono fun l hl x O => ?_) ?_ hd⟩
 ·have : (es ++ [v]).getD l undef = es.getD l undef := by simp [List.getD, List.getElem?_append_left (show l < es.length by omega)]
  rw [this, BA (hw l hl)]; exact O
 ·have : (es ++ [v]).getD n undef = v := by simp [List.getD, ← h1]
  rw [this]; exact O
theorem BagV.rd {es : List Value} {m h : Hp} {vv : Value} (B : BagV d n es w m) (hR : RdL cV 1 h [] vv es) (hl : m.le h) : RdV h vv n d w := by
 obtain ⟨h1, B⟩ := B
 refine ⟨es, h1, hR, fun j hj => ?_⟩
 obtain ⟨x, hx, O⟩ := Bag.all B j (by omega)
 rw [Ev hj] at O
 exact O.rdh (Hp.le_trans hx hl)
theorem RdV.rdn {h : Hp} (R : RdV h v n d w) : ∃ vs : List Value, vs.length = n ∧ Rd h [] v 1 n (vs.flatMap cV) := by
 obtain ⟨vs, h1, h2, _⟩ := R
 refine ⟨vs, h1, ?_⟩
 have := h2.rd
 rwa [h1] at this
theorem Cj (h : v.oneCell' = true) : ∀ a ∈ [v], ∀ c ∈ cV a, c.oneCell' = true := fun a ha c hc => by
 rw [List.mem_singleton.1 ha] at hc
 simp [cV] at hc
 subst hc; exact h
theorem K5 {α : Type} (a b c : α) : [a, b, c].Perm [c, a, b] := List.Perm.trans (List.Perm.cons a (List.Perm.swap c b [])) (List.Perm.swap c a [b])
def from_ (n : Nat) (pv : List Nat) : List Nat := pv.filter fun j => decide (n ≤ j)
theorem SC {pv : List Nat} (hk : k < pv.length) (h : n ≤ pv.getD k 0) : from_ n (pv.take (k + 1)) = from_ n (pv.take k) ++ [pv.getD k 0] := by
 unfold from_
 rw [ES _ _ _ hk]
 have e := Cn hk
 rw [e] at h
 rw [if_pos (by simp; exact h), e]
theorem SS {pv : List Nat} (hk : k < pv.length) (h : ¬ n ≤ pv.getD k 0) : from_ n (pv.take (k + 1)) = from_ n (pv.take k) := by
 unfold from_
 rw [ES _ _ _ hk]
 have e := Cn hk
 rw [e] at h
 rw [if_neg (by simp; omega), List.append_nil]
theorem JP {l : List Nat} {x : Nat} (hk : k < l.length) : (l ++ [x]).getD k 0 = l.getD k 0 := by simp [List.getD, List.getElem?_append_left hk]
theorem FD {l : List Nat} {x : Nat} : (l ++ [x]).getD l.length 0 = x := by simp [List.getD]
theorem Rx (p : Int) (d n : Nat) (w : Nat → Nat → Int) (vl : Value) (h : Hp) (R : RtM p d n fun i j => w j i) (hnd : n + d ≤ 400) (hR : RdV h vl n d w) :
  FnT Tryz.prog 116 #[.int .i64 p, .int .i64 d, vl] h [] (fun x h' ms' => h.le h' ∧ ∃ (F : Nat → Nat → Int) (pv : List Nat) (ma mb : Hp) (es : List Value), Ho p d (n + d) (jn n (fun i j => w j i) Dl) F pv ∧ ms' = [ma, mb] ∧ OwnL cV 1 24 ma x es ∧ BagV d (from_ n pv).length es (fun t i => jn n (fun i j => w j i) Dl i ((from_ n pv).getD t 0)) mb) := by
 have hb := R.bd
 have rl := R.rl
 have cl := R.cl
 obtain ⟨vs0, hvs0, hRn⟩ := RdV.rdn hR
 have o1 := hRn.one
 refine Av func116 ntmps116 rfl rfl (fun w0 hw0 => ?_)
 simp only [A4]
 refine Ax (Qm rfl (B3 (Qm rfl (Qm rfl (Qm rfl (Qc call97 rfl (Bi p d n w vl h R.i64 rl cl hR) (fun x h1 ms1 l1 hF => ?_)))))))
 obtain ⟨rfl, ec, mc, rfl, rfl, hOc⟩ := hF
 refine AH hOc fun h1 l1 hRc => (Qm rfl (Qm rfl (Qc call87 rfl (J3 p d h1 R.pr rl) (fun x h2 ms2 l2 hF => ?_))))
 obtain ⟨rfl, eo, mo, rfl, rfl, hOo⟩ := hF
 refine AH hOo fun h2 l2 hRo => ?_
 have hRc := hRc.up l2
 refine Qc call138 rfl (Rj p d n d (fun i j => w j i) Dl ec eo h2 R (MD R.pr rl) hnd hRc hRo) (fun x h3 ms3 l3 hF => ?_)
 obtain ⟨l3, v3, rfl, ej, mj, rfl, rfl, hOj⟩ := hF
 have RJ : RtM p d (n + d) (jn n (fun i j => w j i) Dl) := ⟨R.pr, rl, by omega, fun i hi j hj => by
  unfold jn
  split
  ·rename_i hjn; exact R.en i hi j hjn
  ·exact (MD R.pr rl).en i hi (j - n) (by omega)⟩
 refine AH hOj fun h4 l4 hRj => ?_
 have oj := hRj.rd.one
 refine Qm rfl (Qm rfl (Qm rfl (BZ [.int .i64 0, .int .i64 0, .int .i64 0, .slice none 0 0] rfl AI rfl rfl (fun g7 => ?_))))
 refine Sa 0 [_, _, _, _] AI rfl (by simp [oj]) ?_
 refine Qm rfl (Aq (By 0 rfl fun h5 l5 hS => ?_))
 have hRj := hRj.up l5
 refine Ax (Qx (oG rfl underlying42 AI (Seg.any hS)) rfl (Qc call120 rfl (Eh p d (n + d) (jn n (fun i j => w j i) Dl) ej h5 RJ hRj) (fun x h6 ms6 l6 hF => ?_)))
 obtain ⟨l6, F, pv, eu, vp, m, m2, rfl, rfl, hOe, hOp, hE⟩ := hF
 have oe : eu.oneCell' = true := (hOe.rd (h := h) (ms := [m]) (List.Mem.head _)).rd.one
 have op : vp.oneCell' = true := (hOp.rd (h := h) (ms := [m2]) (List.Mem.head _)).rd.one
 have hRj := hRj.up l6
 have hS := hS.le l6
 have hlh : h.le h6 := Hp.le_trans l1 (Hp.le_trans l2 (Hp.le_trans l3 (Hp.le_trans l4 (Hp.le_trans l5 l6))))
 have hRn := hRn.le hlh
 have hlen := hE.red.len
 refine Qm rfl (Qm rfl (Qm rfl (BZ [.int .i64 0, .int .i64 0, .int .i64 0, .slice none 0 0] rfl AI rfl rfl (fun g9 => ?_))))
 refine Sa 0 [_, _, _, _] AI rfl (by simp [oe]) ?_
 refine Qm rfl (Aq (HF 0 rfl (HF 0 rfl (Bg hOp fun h7 l7 hRp => ?_))))
 have hRj := hRj.up l7
 have hS := hS.le l7
 have hRn := hRn.le l7
 have hlh := Hp.le_trans hlh l7
 have hRpn : Rd h7 [] vp 1 pv.length ((HY pv).flatMap cI) := by
  have := hRp.rd
  rwa [EF] at this
 refine Ax (Qm rfl (Aq (Ac (Ax (Qm rfl (Qx (AJ hRpn.any rfl underlying24 rfl) rfl (Qm rfl (Aq (Ag (BX (BX ?_)))))))))))
 refine AD (fun q s hh ms' => ∃ (k : Nat) (es : List Value) (vv : Value) (ma mb : Hp), q = pv.length - k ∧ s = [(2, vl), (7, .pointer (some ⟨g7, 0, none⟩)), (11, vv), (30, vp), (31, .int .i64 pv.length), (32, .int .i64 k)] ∧ h7 = hh ∧ ms' = [ma, mb] ∧ k ≤ pv.length ∧ OwnL cV 1 24 ma vv es ∧ BagV d (from_ n (pv.take k)).length es (fun t i => jn n (fun i j => w j i) Dl i ((from_ n (pv.take k)).getD t 0)) mb)
  (pv.length - 0) _ ⟨0, [], _, _, _, rfl, rfl, rfl, rfl, by omega, OwnL.nil BK, BagV.zero _ _⟩ Qs ?_
 rintro q s hh ms' ⟨k, es, vv, ma, mb, rfl, rfl, rfl, rfl, hk, hO, hB⟩
 refine Ax (Qm rfl (Aq (Ac ?_)))
 refine AF rfl (fun hlt => ?_) (fun hlt => ?_)
 ·have hkl : k < pv.length := by omega
  have hpc : pv.getD k 0 < n + d := by rw [Cn hkl]; exact hE.red.lt k hkl
  have hpcell : ∀ ms, Cell h7 ms ((Bl vp).add (k * 1)) (.int .i64 ((pv.getD k 0 : Nat) : Int)) := fun ms => by
   have hl : k < (HY pv).length := by rw [EF]; exact hkl
   have := (hRp.any (ms := ms)).cell0 hl (u := .int .i64 (HY pv)[k]) rfl
   have e : (HY pv)[k] = ((pv.getD k 0 : Nat) : Int) := by simp [HY, List.getD_eq_getElem?_getD, hkl]
   rw [e] at this
   exact this
  refine Ai (Ab (Ac (Ag (Ax (Qx (Ah _ hRpn.any rfl underlying24 A8 rfl rfl rfl (by omega)) rfl (Ql rfl underlying3 (hpcell _) (Qm rfl (B3 (Qm rfl (Qm rfl (Qx (AJ hRn.any rfl underlying62 rfl) rfl (Qm rfl (Aq ?_)))))))))))))
  refine AF rfl (fun hge => ?_) (fun hge => ?_)
  ·have hge' : n ≤ pv.getD k 0 := by omega
   refine Ad (Qm rfl (Qx (oG rfl underlying42 AI (Seg.any hS)) rfl (Qm rfl (Qc call89 rfl (Eb p d (n + d) (jn n (fun i j => w j i) Dl) ej (pv.getD k 0) h7 rl (by omega) hpc hRj) (fun v h8 ms8 l8 hF => ?_)))))
   obtain ⟨rfl, mv, rfl, hOv⟩ := hF
   have ov : v.oneCell' = true := (hOv.rd (h := h) (ms := [mv]) (List.Mem.head _)).rd.one
   refine AB [_] rfl underlying62 BN rfl (((hOv.rd (h := h) (ms := [mv]) (List.Mem.head _)).rd).cells) rfl rfl (by omega) rfl rfl rfl (fun g44 => ?_)
   have hes : es.length ≤ 400 := by
    have h1 := hB.1
    have h2 : (from_ n (pv.take k)).length ≤ (pv.take k).length := List.length_filter_le _ _
    rw [List.length_take] at h2
    omega
   refine Ba 2 hO (RdL.one BK (List.Mem.head _) rfl) rfl underlying62 BN rfl (by omega) rfl rfl rfl (Cj ov) (by simp only [List.length_singleton]; omega) (by simp only [List.length_singleton]; omega) rfl rfl rfl (fun vv' ma' hO' => ?_)
   refine Qm rfl (Ak (Aj (Ab (Ad (Qx (oA rfl) rfl (Qm rfl (Ak (AP 0 rfl (CF (ms' := [mb, mv, ma']) (K5 _ _ _) (Ck fun hap => ?_))))))))))
   have hd12 : mb.disj mv := (List.pairwise_cons.1 hap).1 _ List.mem_cons_self
   refine Cq (A9 ?_)
   refine Al (pv.length - (k + 1)) _ (by omega) ⟨k + 1, es ++ [v], vv', ma', mb.join mv, rfl, rfl, rfl, rfl, by omega, hO', ?_⟩ Qs
   rw [SC hkl hge', List.length_append, List.length_singleton]
   refine hB.snoc (w' := fun t i => jn n (fun i j => w j i) Dl i ((from_ n (pv.take k) ++ [pv.getD k 0]).getD t 0)) ?_ hd12 fun t ht i _ => ?_
   ·show OwnL cI 1 3 mv v (vec d fun i => jn n (fun i j => w j i) Dl i ((from_ n (pv.take k) ++ [pv.getD k 0]).getD (from_ n (pv.take k)).length 0))
    rw [FD]
    exact hOv
   ·show jn n (fun i j => w j i) Dl i ((from_ n (pv.take k) ++ [pv.getD k 0]).getD t 0) = _
    rw [JP ht]
  ·refine Ai (Aj (Ab (Ad (Qx (oA rfl) rfl (Qm rfl (Ak ?_))))))
   refine Al (pv.length - (k + 1)) _ (by omega) ⟨k + 1, es, vv, ma, mb, rfl, rfl, rfl, rfl, by omega, hO, by rw [SS hkl (by omega)]; exact hB⟩ Qs
 ·obtain rfl : k = pv.length := by omega
  rw [List.take_length] at hB
  refine Aw (Aa (Aa (Af (Ab (Ax (Qm rfl (Qm rfl (Aq (Ao ?_)))))))))
  exact Am rfl rfl (⟨hlh, F, pv, ma, mb, es, hE, rfl, hO, hB⟩)
end Go.Proofs.YtdnelknieikbaaaGreat
namespace Go.Proofs.YtdnelknieikbaaaGreat
open Go.Proofs.Tryz
open Go.Eng Go.RowKit Go.Lin
theorem StO.mk {d : Nat → Nat} {g fr to : Nat} {v : Nat → Nat → Int} {vv : Value} {es : List Value} {ma mb : Hp} (h0 : fr ≤ to) (hO : OwnL cV 1 24 ma vv es) (hl : es.length = to + 1 - fr) (B : VecB d fr es.length es v mb) (h1 : (AX g 110 [.int .i64 fr, .int .i64 to, vv]).disj ma) (h1' : (AX g 110 [.int .i64 fr, .int .i64 to, vv]).disj mb) (h2 : ma.disj mb) : StO d g fr to v ((AX g 110 [.int .i64 fr, .int .i64 to, vv]).join (ma.join mb)) :=
 ⟨vv, es, ma, mb, h0, rfl, Hp.disj_symm (Hp.disj_join (Hp.disj_symm h1) (Hp.disj_symm h1')), h2, hO, hl, B⟩
theorem Bag.single {R : Nat → Hp → Prop} {m : Hp} (h : R 0 m) : Bag 1 R m := by
 have := (Bag.zero R).snoc h (fun g => .inl rfl)
 rwa [Hp.emp_join] at this
theorem WH {a b c : Hp} (h : [a, b, c].Pairwise Hp.disj) : (a.disj b ∧ a.disj c) ∧ b.disj c ∧ True := by
 have h1 := List.pairwise_cons.1 h
 have h2 := List.pairwise_cons.1 h1.2
 exact ⟨⟨h1.1 _ (by simp), h1.1 _ (by simp)⟩, h2.1 _ (by simp), trivial⟩
theorem Vi {α : Type} (a b c : α) : [a, b, c].Perm [b, c, a] := List.Perm.trans (List.Perm.swap b a [c]) (List.Perm.cons b (List.Perm.swap c a []))
theorem RE {α : Type} (a b c d : α) : [a, b, c, d].Perm [c, a, b, d] := by
 have := (K5 a b c).append_right [d]
 exact this
theorem IB {d : Nat → Nat} {fr to : Nat} {v : Nat → Nat → Int} {w : Nat → Int} {es : List Value} {mb mu : Hp} {u' : Value} (h0 : fr ≤ to) (hl : es.length = to + 1 - fr) (B : VecB d fr es.length es v mb) (hOu : OwnL cI 1 3 mu u' (vec (d (to + 1)) w)) (hd12 : mb.disj mu) : VecB d fr (es ++ [u']).length (es ++ [u']) (fun k => if k = to + 1 then w else v k) (mb.join mu) := by
 have e : (es ++ [u']).length = es.length + 1 := by simp
 rw [e]
 refine Bag.snoc (B.mono fun l hl2 x O => ?_) ?_ hd12
 ·have : (es ++ [u']).getD l undef = es.getD l undef := by simp [List.getD, List.getElem?_append_left hl2]
  rw [this]
  show OwnL cI 1 3 x _ (vec (d (fr + l)) (if fr + l = to + 1 then w else v (fr + l)))
  rw [if_neg (by omega)]; exact O
 ·have : (es ++ [u']).getD es.length undef = u' := by simp [List.getD]
  rw [this]
  show OwnL cI 1 3 mu _ (vec (d (fr + es.length)) (if fr + es.length = to + 1 then w else v (fr + es.length)))
  rw [if_pos (by omega), show fr + es.length = to + 1 by omega]; exact hOu
theorem Hm (d : Nat → Nat) (gm sp : Nat) (w : Nat → Int) (v a0 a2 a3 : Value) (h : Hp) (hM : Seg h [] ⟨gm, 0, none⟩ [a0, .int .i64 sp, a2, a3]) (hR : RdL cI 1 h [] v (vec (d sp) w)) (hd : d sp ≤ 400) :
  FnT Tryz.prog 88 #[.pointer (some ⟨gm, 0, none⟩), v] h [] (fun x h' ms' => h = h' ∧ ∃ g m, x = .pointer (some ⟨g, 0, none⟩) ∧ ms' = [m] ∧ StO d g sp sp (fun _ => w) m) := by
 have hA := Seg.all hM
 have ew := AQ (d sp) w
 refine Av func88 ntmps88 rfl rfl (fun w0 hw0 => ?_)
 simp only [A4]
 refine Ax (Qm rfl (Aq (Ac (AW (n := 15) (bs := [true, true, true, true, true, true, true, true, true, false, false, false, false, false, false]) [true, true, true, true, true, true, true, true, true] Cd (by kernel_rfl) (by kernel_rfl) rfl rfl (Qq rfl (Qq rfl (QF F9 rfl (QL rfl underlying3 (hA 1 _ rfl _) (Qq rfl (Qq rfl (QF F9 rfl (QL rfl underlying3 (hA 1 _ rfl _) (Qq rfl ?_)))))))))))))
 unfold CD
 simp only [List.cons_append, List.nil_append]
 refine Qo 9 rfl (Qc call51 rfl (DS (vec (d sp) w) v h hR (by omega)) (fun u h1 ms1 l1 hF => ?_))
 obtain ⟨rfl, mu, rfl, hO⟩ := hF
 have ou : u.oneCell' = true := (hO.rd (h := h) (ms := [mu]) (List.Mem.head _)).rd.one
 refine Qw (Qo 10 rfl (AB [_] rfl underlying62 BN rfl ((hO.rd (h := h) (ms := [mu]) (List.Mem.head _)).rd.cells) rfl rfl (by omega) rfl rfl rfl (fun g15 => Qw (Qo 11 rfl ?_))))
 refine Qx (AT WC [.int .i64 0, .int .i64 0, .slice none 0 0] [(0, _), (1, _), (2, _)] [_, _, _] rfl BP rfl rfl (by repeat (first | exact trivial | refine ⟨⟨rfl, rfl, rfl⟩, ?_⟩)) rfl) rfl ?_
 refine Qw (Qo 12 rfl ?_)
 refine Qx (AT VW [.int .i64 0, .int .i64 0, .slice none 0 0] [(0, _)] [_, _, _] rfl VT rfl rfl (by repeat (first | exact trivial | refine ⟨⟨rfl, rfl, rfl⟩, ?_⟩)) rfl) rfl ?_
 refine Qw (Qo 13 rfl (AS [.int .i64 sp, .int .i64 sp, .slice (some ⟨g15, 0, none⟩) 1 1] rfl rfl rfl rfl rfl rfl (fun g18 => Qw (Qo 14 rfl (Qm rfl (Qw (Qe (Ab (Ao (Ck fun hap => ?_))))))))))
 obtain ⟨hp1, hp2, _⟩ := WH hap
 refine CF (ms' := [AX g15 24 [u], mu, AX g18 110 [.int .i64 sp, .int .i64 sp, .slice (some ⟨g15, 0, none⟩) 1 1]]) (Vi _ _ _) (Cq (A9 (Cq ?_)))
 exact Am rfl rfl (⟨rfl, g18, _, rfl, rfl, StO.mk (Nat.le_refl _) (OwnL.blk (l := [u]) 1 BK rfl (by omega)) (by simp) (Bag.single (by simpa using hO)) hp1.1 hp1.2 hp2⟩)
theorem grow_ok (d : Nat → Nat) (g fr to : Nat) (v : Nat → Nat → Int) (w : Nat → Int) (u : Value) (m h : Hp) (S : StO d g fr to v m) (hR : RdL cI 1 h [] u (vec (d (to + 1)) w)) (hd : d (to + 1) ≤ 400) (hto : to ≤ 1000) :
  FnT Tryz.prog 113 #[.pointer (some ⟨g, 0, none⟩), u] h [m] (fun x h' ms' => h = h' ∧ ∃ m', ms' = [m'] ∧ StO d g fr (to + 1) (fun k => if k = to + 1 then w else v k) m') := by
 obtain ⟨vv, es, ma, mb, h0, rfl, hd1, hd2, hO, hl, B⟩ := S
 have ew := AQ (d (to + 1)) w
 refine Av func113 ntmps113 rfl rfl (fun w0 hw0 => ?_)
 simp only [A4]
 refine Il hd1 (Di (Il hd2 ?_))
 refine Bv (fun s hh ms' => ∃ (vv' : Value) (es' : List Value) (ma' mb' : Hp), s = [(0, .pointer (some ⟨g, 0, none⟩))] ∧ h = hh ∧ ms' = [ma', mb', AX g 110 [.int .i64 fr, .int .i64 to, vv']] ∧ OwnL cV 1 24 ma' vv' es' ∧ es'.length = to + 1 + 1 - fr ∧ VecB d fr es'.length es' (fun k => if k = to + 1 then w else v k) mb') ?_ (fun s h ms hI => ?_)
 ·refine AW (n := 14) (bs := [true, true, true, true, true, false, true, false, false, false, true, true, true, false]) [true, true, true, true, true, false, true, false, false, false, true, true, true] Cd (by kernel_rfl) (by kernel_rfl) rfl rfl (Qq rfl (Qq rfl (Qq rfl (QF C7 rfl (QF CY rfl (Qq rfl (Qq rfl (QF C7 rfl (QF CY rfl ?_)))))))))
  unfold CD
  simp only [List.cons_append, List.nil_append]
  refine A2 [5, 7] (by kernel_rfl) rfl ?_
  refine Az rfl ?_ ?_
  ·refine Ql rfl underlying62 (Cell.blk 2 (k := 2) rfl rfl) (Qw (Qo 7 rfl (Qc call51 rfl (DS (vec (d (to + 1)) w) u h hR (by omega)) (fun u' h1 ms1 l1 hF => ?_))))
   obtain ⟨rfl, mu, rfl, hOu⟩ := hF
   have ou : u'.oneCell' = true := (hOu.rd (h := h) (ms := [mu]) (List.Mem.head _)).rd.one
   refine Qw (Qo 8 rfl (AB [_] rfl underlying62 BN rfl ((hOu.rd (h := h) (ms := [mu]) (List.Mem.head _)).rd.cells) rfl rfl (by omega) rfl rfl rfl (fun g12 => Qw (Qo 9 rfl ?_))))
   refine Ba 2 hO (RdL.one BK (List.Mem.head _) rfl) rfl underlying62 BN rfl (by omega) rfl rfl rfl (Cj ou) (by simp only [List.length_singleton]; omega) (by simp only [List.length_singleton]; omega) rfl rfl rfl (fun vv' ma' hO' => ?_)
   have ov : vv'.oneCell' = true := (hO'.rd (h := h) (ms := [ma']) (List.Mem.head _)).rd.one
   refine Qw (Qo 13 rfl ?_)
   refine AK 4 _ rfl Co rfl rfl (by assumption) rfl rfl (by (simp; done)) rfl rfl ?_
   refine Qw (Qe (AP 0 rfl (CF (ms' := [mb, mu, ma', AX g 110 [.int .i64 fr, .int .i64 to, vv']]) (RE _ _ _ _) (Ck fun hap => ?_))))
   have hd12 : mb.disj mu := (List.pairwise_cons.1 hap).1 _ List.mem_cons_self
   refine Cq (A9 (AA _ ⟨vv', es ++ [u'], ma', mb.join mu, rfl, rfl, rfl, hO', by rw [List.length_append, List.length_singleton]; omega, IB h0 hl B hOu hd12⟩ Qs))
  refine Az rfl ?_ ?_
  ·refine Qc call51 rfl (DS (vec (d (to + 1)) w) u h hR (by omega)) (fun u' h1 ms1 l1 hF => ?_)
   obtain ⟨rfl, mu, rfl, hOu⟩ := hF
   have ou : u'.oneCell' = true := (hOu.rd (h := h) (ms := [mu]) (List.Mem.head _)).rd.one
   refine Qw (A2 [5, 8] (by kernel_rfl) rfl ?_)
   refine Az rfl ?_ ?_
   ·refine Ql rfl underlying62 (Cell.blk 3 (k := 2) rfl rfl) (Qw (Qo 8 rfl (AB [_] rfl underlying62 BN rfl ((hOu.rd (h := h) (ms := [mu]) (List.Mem.head _)).rd.cells) rfl rfl (by omega) rfl rfl rfl (fun g12 => Qw (Qo 9 rfl ?_)))))
    refine Ba 2 hO (RdL.one BK (List.Mem.head _) rfl) rfl underlying62 BN rfl (by omega) rfl rfl rfl (Cj ou) (by simp only [List.length_singleton]; omega) (by simp only [List.length_singleton]; omega) rfl rfl rfl (fun vv' ma' hO' => ?_)
    have ov : vv'.oneCell' = true := (hO'.rd (h := h) (ms := [ma']) (List.Mem.head _)).rd.one
    refine Qw (Qo 13 rfl ?_)
    refine AK 4 _ rfl Co rfl rfl (by assumption) rfl rfl (by (simp; done)) rfl rfl ?_
    refine Qw (Qe (AP 0 rfl (CF (ms' := [mb, mu, ma', AX g 110 [.int .i64 fr, .int .i64 to, vv']]) (RE _ _ _ _) (Ck fun hap => ?_))))
    have hd12 : mb.disj mu := (List.pairwise_cons.1 hap).1 _ List.mem_cons_self
    refine Cq (A9 (AA _ ⟨vv', es ++ [u'], ma', mb.join mu, rfl, rfl, rfl, hO', by rw [List.length_append, List.length_singleton]; omega, IB h0 hl B hOu hd12⟩ Qs))
   refine Az rfl ?_ ?_
   ·refine AB [_] rfl underlying62 BN rfl ((hOu.rd (h := h) (ms := [mu]) (List.Mem.head _)).rd.cells) rfl rfl (by omega) rfl rfl rfl (fun g12 => Qw (Qo 5 rfl (Ql rfl underlying62 (Cell.blk 4 (k := 2) rfl rfl) (Qw (Qo 9 rfl ?_)))))
    refine Ba 2 hO (RdL.one BK (List.Mem.head _) rfl) rfl underlying62 BN rfl (by omega) rfl rfl rfl (Cj ou) (by simp only [List.length_singleton]; omega) (by simp only [List.length_singleton]; omega) rfl rfl rfl (fun vv' ma' hO' => ?_)
    have ov : vv'.oneCell' = true := (hO'.rd (h := h) (ms := [ma']) (List.Mem.head _)).rd.one
    refine Qw (Qo 13 rfl ?_)
    refine AK 4 _ rfl Co rfl rfl (by assumption) rfl rfl (by (simp; done)) rfl rfl ?_
    refine Qw (Qe (AP 0 rfl (CF (ms' := [mb, mu, ma', AX g 110 [.int .i64 fr, .int .i64 to, vv']]) (RE _ _ _ _) (Ck fun hap => ?_))))
    have hd12 : mb.disj mu := (List.pairwise_cons.1 hap).1 _ List.mem_cons_self
    refine Cq (A9 (AA _ ⟨vv', es ++ [u'], ma', mb.join mu, rfl, rfl, rfl, hO', by rw [List.length_append, List.length_singleton]; omega, IB h0 hl B hOu hd12⟩ Qs))
   exact A3
  exact A3
 ·obtain ⟨vv', es', ma', mb', rfl, rfl, rfl, hO', hl', B'⟩ := hI
  refine Ad (Qm rfl (Qm rfl (Qf C7 rfl (Qf Fd rfl (Ql rfl underlying3 (Cell.blk 2 (k := 1) rfl rfl) (Qx (oA rfl) rfl (Qm rfl (Qf C7 rfl (Qf Fd rfl ?_)))))))))
  refine AK 2 _ rfl A8 rfl rfl (by rfl) rfl rfl (by (simp; done)) rfl rfl ?_
  refine Ak (Ck fun hap => ?_)
  obtain ⟨hp1, hp2, _⟩ := WH hap
  refine Cq (A9 (Cq ?_))
  exact B6 rfl (⟨rfl, _, rfl, StO.mk (by omega) hO' hl' B' (Hp.disj_symm hp1.2) (Hp.disj_symm hp2) hp1.1⟩)
end Go.Proofs.YtdnelknieikbaaaGreat
namespace Go.Proofs.YtdnelknieikbaaaGreat
open Go.Proofs.Tryz
open Go.Eng Go.RowKit Go.Lin
variable {d : Nat → Nat} {m : Hp}
structure SM where
 g : Nat
 fr : Nat
 to : Nat
 v : Nat → Nat → Int
def BagS (d : Nat → Nat) (N : Nat) (S : Nat → SM) (m : Hp) : Prop := Bag N (fun l x => StO d (S l).g (S l).fr (S l).to (S l).v x) m
def SM.Bd (p : Int) (d : Nat → Nat) (S : SM) : Prop := ∀ k, S.fr ≤ k → k ≤ S.to → ∀ i, i < d k → 0 ≤ S.v k i ∧ S.v k i < p
theorem BagS.rd {N : Nat} {S : Nat → SM} {h : Hp} (B : BagS d N S m) (hl : m.le h) {l : Nat} (hN : l < N) : We h d (S l).g (S l).fr (S l).to (S l).v := by
 obtain ⟨x, hx, O⟩ := Bag.all B l hN
 exact O.rd (Hp.le_trans hx hl)
theorem StO.le {g fr to : Nat} {v : Nat → Nat → Int} (S : StO d g fr to v m) : fr ≤ to := by
 obtain ⟨vv, es, ma, mb, h0, _⟩ := S
 exact h0
theorem BagS.fr_to {N : Nat} {S : Nat → SM} (B : BagS d N S m) {l : Nat} (hN : l < N) : (S l).fr ≤ (S l).to := by
 obtain ⟨x, hx, O⟩ := Bag.all B l hN
 exact O.le
def adds (p n : Int) (s t : Nat) (S : Nat → SM) (l : Nat) : SM := if l = s then { S s with v := HH p n (S t).fr (S s).v (S t).v } else S l
theorem Nn (p n : Int) (d : Nat → Nat) (N s t : Nat) (S : Nat → SM) (mB h : Hp) (hp : 2 ≤ p ∧ p ≤ 997) (hn : 0 ≤ n ∧ n ≤ 997) (hd : ∀ k, d k ≤ 400) (hs : s < N) (ht : t < N) (hne : s ≠ t) (hto : (S s).to = (S t).to) (hto2 : (S s).to ≤ 1000) (bs : (S s).Bd p d) (bt : (S t).Bd p d) (B : BagS d N S mB) :
  FnT Tryz.prog 112 #[.pointer (some ⟨(S s).g, 0, none⟩), .int .i64 p, .int .i64 n, .pointer (some ⟨(S t).g, 0, none⟩)] h [mB] (fun r h' ms' => h = h' ∧ ∃ mB', ms' = [mB'] ∧ BagS d N (adds p n s t S) mB') := by
 obtain ⟨m1, m2, rfl, hdj, hO, hoth, hclose⟩ := Bag.open B hs
 obtain ⟨vv, es, ma, mb, h0, rfl, h1, h2, h3, h4, h5⟩ := hO
 have hd1 : ma.disj m2 := Hp.disj_left (Hp.disj_right hdj)
 have hd2 : mb.disj m2 := Hp.disj_right (Hp.disj_right hdj)
 have hd3 : (AX (S s).g 110 [.int .i64 (S s).fr, .int .i64 (S s).to, vv]).disj m2 := Hp.disj_left hdj
 have g1 := Goes.part hdj []
 have g2 := Goes.parts h1 (List.Perm.refl ((AX (S s).g 110 [.int .i64 (S s).fr, .int .i64 (S s).to, vv]) :: ma.join mb :: [m2]))
 have g3 := Goes.perm (List.Perm.swap (ma.join mb) (AX (S s).g 110 [.int .i64 (S s).fr, .int .i64 (S s).to, vv]) [m2])
 have g4 := Goes.parts h2 (List.Perm.swap mb ma [AX (S s).g 110 [.int .i64 (S s).fr, .int .i64 (S s).to, vv], m2])
 refine Lh (ms1 := [mb] ++ [ma, AX (S s).g 110 [.int .i64 (S s).fr, .int .i64 (S s).to, vv], m2]) (g1.trans (g2.1.trans (g3.trans g4.1))) (fun k hk => I4 k (g2.2 k (Ly (List.Perm.swap _ _ _) k (g4.2 k hk)))) ?_
 refine LU (K2 (post := fun r ms' => ∃ mb', ms' = [mb'] ∧ VecB d (S s).fr es.length es (HH p n (S t).fr (S s).v (S t).v) mb') fun h' hl hm => ?_) ?_
 ·have hlm := hm m2 (by simp)
  obtain ⟨x, hx, hT⟩ := hoth t ht (Ne.symm hne)
  have hT := hT.rd (Hp.le_trans hx hlm)
  rw [← hto] at hT
  exact (U4 p n d (S s).g (S t).g (S s).fr (S t).fr (S s).to (S s).v (S t).v vv es mb h' hp hn hto2 h0 hd bs (by rw [hto]; exact bt) (Seg.ofLe (hm _ (List.Mem.tail _ (List.Mem.head _)))) (h3.rdh (hm _ (List.Mem.head _))) h4 h5 hT).mono fun r h2 ms2 ⟨e, mb', e2, B'⟩ => ⟨mb', e2, B'⟩
 ·rintro r h' ms' ⟨rfl, ms2, rfl, mb', rfl, B'⟩ hap
  have hap' : [mb', ma, AX (S s).g 110 [.int .i64 (S s).fr, .int .i64 (S s).to, vv], m2].Pairwise Hp.disj := hap
  have q1 := List.pairwise_cons.1 hap'
  have q2 := List.pairwise_cons.1 q1.2
  have q3 := List.pairwise_cons.1 q2.2
  have d1 : ma.disj mb' := Hp.disj_symm (q1.1 _ (by simp))
  have d2 : (AX (S s).g 110 [.int .i64 (S s).fr, .int .i64 (S s).to, vv]).disj ma := Hp.disj_symm (q2.1 _ (by simp))
  have d3 : (AX (S s).g 110 [.int .i64 (S s).fr, .int .i64 (S s).to, vv]).disj mb' := Hp.disj_symm (q1.1 _ (by simp))
  have d4 := q1.1 m2 (by simp)
  have d5 := q2.1 m2 (by simp)
  have d6 := q3.1 m2 (by simp)
  have hS := StO.mk (d := d) (g := (S s).g) h0 h3 h4 B' d2 d3 d1
  refine ⟨[((AX (S s).g 110 [.int .i64 (S s).fr, .int .i64 (S s).to, vv]).join (ma.join mb')).join m2], ?_, rfl, _, rfl, ?_⟩
  ·refine (Goes.perm (List.Perm.swap ma mb' _)).trans ((Goes.join ma mb' _).trans ((Goes.perm (List.Perm.swap _ _ _)).trans ((Goes.join _ _ _).trans (Goes.join _ _ _))))
  ·refine hclose _ _ (Hp.disj_join d6 (Hp.disj_join d5 d4)) ?_ fun k hk hks x O => ?_
   ·unfold adds
    rw [if_pos rfl]
    exact hS
   ·unfold adds
    rw [if_neg hks]
    exact O
def HS (s : Nat) (w : Nat → Int) (S : Nat → SM) (l : Nat) : SM := if l = s then { S s with to := (S s).to + 1, v := fun k => if k = (S s).to + 1 then w else (S s).v k } else S l
theorem KZ (d : Nat → Nat) (N s : Nat) (S : Nat → SM) (w : Nat → Int) (u : Value) (mB h : Hp) (hs : s < N) (hR : RdL cI 1 h [] u (vec (d ((S s).to + 1)) w)) (hd : d ((S s).to + 1) ≤ 400) (hto : (S s).to ≤ 1000) (B : BagS d N S mB) :
  FnT Tryz.prog 113 #[.pointer (some ⟨(S s).g, 0, none⟩), u] h [mB] (fun x h' ms' => h = h' ∧ ∃ mB', ms' = [mB'] ∧ BagS d N (HS s w S) mB') := by
 obtain ⟨m1, m2, rfl, hdj, hO, hoth, hclose⟩ := Bag.open B hs
 refine Lh (ms1 := [m1] ++ [m2]) (Goes.part hdj []) I4 ?_
 refine LU (K2 (post := fun r ms' => ∃ m', ms' = [m'] ∧ StO d (S s).g (S s).fr ((S s).to + 1) (fun k => if k = (S s).to + 1 then w else (S s).v k) m') fun h' hl hm => ?_) ?_
 ·exact (grow_ok d (S s).g (S s).fr (S s).to (S s).v w u m1 h' hO (hR.up hl) hd hto).mono fun r h2 ms2 ⟨e, m', e2, S'⟩ => ⟨m', e2, S'⟩
 ·rintro r h' ms' ⟨rfl, ms2, rfl, m', rfl, S'⟩ hap
  have d1 : m'.disj m2 := (List.pairwise_cons.1 hap).1 _ (by simp)
  refine ⟨[m'.join m2], Goes.join _ _ _, rfl, _, rfl, hclose _ _ d1 ?_ fun k hk hks x O => ?_⟩
  ·unfold HS
   rw [if_pos rfl]
   exact S'
  ·unfold HS
   rw [if_neg hks]
   exact O
end Go.Proofs.YtdnelknieikbaaaGreat
namespace Go.Proofs.YtdnelknieikbaaaGreat
open Go.Proofs.Tryz
open Go.Eng Go.RowKit Go.Lin
def PJ (n i : Nat) (f : Nat → Int) (a : Nat) : Int := if a < i ∨ n - 1 - a < i then f (n - 1 - a) else f a
theorem S8 (n i : Nat) (f : Nat → Int) {a : Nat} (h1 : i ≤ a) (h2 : i ≤ n - 1 - a) : PJ n i f a = f a := if_neg (by omega)
theorem SK {n i : Nat} (f : Nat → Int) (hi : i < n - 1 - i) {a : Nat} (ha : a < n) : (if a = n - 1 - i then f i else if a = i then f (n - 1 - i) else PJ n i f a) = PJ n (i + 1) f a := by
 unfold PJ
 by_cases h1 : a = n - 1 - i
 ·rw [if_pos h1, if_pos (by omega)]; congr 1; omega
 ·rw [if_neg h1]
  by_cases h2 : a = i
  ·rw [if_pos h2, if_pos (by omega), h2]
  ·rw [if_neg h2]
   by_cases h3 : a < i ∨ n - 1 - a < i
   ·rw [if_pos h3, if_pos (by omega)]
   ·rw [if_neg h3, if_neg (by omega)]
theorem IY (n : Nat) (f : Nat → Int) (v : Value) (m h : Hp) (hn : n ≤ 1000000) (O : OwnL cI 1 3 m v (vec n f)) :
  FnT Tryz.prog 52 #[v] h [m] (fun x h' ms' => h = h' ∧ ∃ m', ms' = [m'] ∧ OwnL cI 1 3 m' v (vec n fun a => f (n - 1 - a))) := by
 have hRd : ∀ (f : Nat → Int) m, OwnL cI 1 3 m v (vec n f) → Rd h [m] v 1 n ((vec n f).flatMap cI) := fun f m O => by
  have := (O.rd (h := h) (ms := [m]) (List.Mem.head _)).rd
  rwa [AQ] at this
 refine Av func52 ntmps52 rfl rfl (fun w0 hw0 => ?_)
 simp only [A4]
 refine Ax (Qm rfl (Qx (AJ (hRd _ _ O) rfl underlying24 rfl) rfl (Qx (oS rfl) rfl (Qm rfl (Qm rfl (Aq (Ag ?_)))))))
 refine AD (fun q s hh ms' => ∃ (i : Nat) (m : Hp), q = n + 1 - i ∧ s = [(0, v), (2, .int .i64 i), (3, .int .i64 ((n : Int) - 1 - i))] ∧ h = hh ∧ ms' = [m] ∧ i ≤ n ∧ OwnL cI 1 3 m v (vec n (PJ n i f)))
  (n + 1 - 0) [(0, v), (2, .int .i64 0), (3, .int .i64 ((n : Int) - 1))] ⟨0, m, rfl, by rw [show ((n : Int) - 1 - (0 : Nat)) = (n : Int) - 1 by omega]; rfl, rfl, rfl, by omega, by rw [BA (f := PJ n 0 f) (g := f) (fun a _ => if_neg (by omega))]; exact O⟩ Qs ?_
 rintro q s hh ms' ⟨i, m, rfl, rfl, rfl, rfl, hi, O⟩
 refine Ac (Ax (Qm rfl (Qm rfl (Qm rfl (Aq ?_)))))
 refine AF rfl (fun hlt => ?_) (fun hlt => ?_)
 ·have hin : i < n - 1 - i := by omega
  have e1 : (n : Int) - 1 - i = ((n - 1 - i : Nat) : Int) := by omega
  have hi2 : n - 1 - i < n := by omega
  have c1 : ∀ {j : Nat}, j < n → i ≤ j → i ≤ n - 1 - j → ∀ ms, m ∈ ms → Cell h ms ((Bl v).add (j * 1)) (.int .i64 (f j)) := fun hj h1 h2 ms hm => by
   have := (O.rd (h := h) hm).ev hj
   rwa [S8 n i f h1 h2] at this
  have el : (vec n (PJ n i f)).length = n := AQ _ _
  have el2 : ∀ x, ((vec n (PJ n i f)).set i x).length = n := fun x => by rw [List.length_set, AQ]
  refine Ai (Ab ?_)
  refine Bv (fun s hh ms' => ∃ (m2 : Hp), s = [(0, v), (2, .int .i64 i), (3, .int .i64 ((n : Int) - 1 - i))] ∧ h = hh ∧ ms' = [m2] ∧ OwnL cI 1 3 m2 v (((vec n (PJ n i f)).set i (f (n - 1 - i))).set (n - 1 - i) (f i))) ?_ (fun s h ms hI => ?_)
  ·refine Ag (AW (n := 16) (bs := [true, true, true, true, true, true, true, false, true, true, true, false, true, false, true, false]) [true, true, true, true, true, true, true, false, true, true, true, false, true, false, true] Cd (by kernel_rfl) (by kernel_rfl) rfl rfl (Qq rfl (Qq rfl (Qq rfl (Qq rfl (Qq rfl (Qq rfl (Qp rfl (Bo (n - 1 - i) (hRd _ _ O) rfl underlying24 A8 rfl rfl (by omega) (by omega)) (Qq rfl (Qq rfl (Qp rfl (Bo (i) (hRd _ _ O) rfl underlying24 A8 rfl rfl (by omega) (by omega)) (Qp rfl (Bo (i) (hRd _ _ O) rfl underlying24 A8 rfl rfl (by omega) (by omega)) (Qp rfl (Bo (n - 1 - i) (hRd _ _ O) rfl underlying24 A8 rfl rfl (by omega) (by omega)) ?_)))))))))))))
   unfold CD
   simp only [List.cons_append, List.nil_append]
   refine A2 [7, 11] (by kernel_rfl) rfl ?_
   refine Az rfl ?_ ?_
   ·refine Ql rfl underlying3 (c1 (show n - 1 - i < n by omega) (by omega) (by omega) _ (List.Mem.head _)) ?_
    refine Qw (Qo 11 rfl ?_)
    refine Ql rfl underlying3 (c1 (show i < n by omega) (by omega) (by omega) _ (List.Mem.head _)) ?_
    refine Qw (Qo 13 rfl (Bu 0 i O rfl A8 rfl rfl rfl (by omega) rfl rfl (fun m1 O1 => Qw (Qo 15 rfl ?_))))
    refine Bu 0 (n - 1 - i) O1 rfl A8 rfl rfl rfl (by rw [el2]; omega) rfl rfl (fun m2 O2 => ?_)
    refine Qw (Qe ?_)
    exact Aj (AA _ ⟨m2, rfl, rfl, rfl, O2⟩ Qs)
   refine Az rfl ?_ ?_
   ·refine Ql rfl underlying3 (c1 (show i < n by omega) (by omega) (by omega) _ (List.Mem.head _)) ?_
    refine Qw (Qo 7 rfl ?_)
    refine Ql rfl underlying3 (c1 (show n - 1 - i < n by omega) (by omega) (by omega) _ (List.Mem.head _)) ?_
    refine Qw (Qo 13 rfl (Bu 0 i O rfl A8 rfl rfl rfl (by omega) rfl rfl (fun m1 O1 => Qw (Qo 15 rfl ?_))))
    refine Bu 0 (n - 1 - i) O1 rfl A8 rfl rfl rfl (by rw [el2]; omega) rfl rfl (fun m2 O2 => ?_)
    refine Qw (Qe ?_)
    exact Aj (AA _ ⟨m2, rfl, rfl, rfl, O2⟩ Qs)
   exact A3
  ·obtain ⟨m2, rfl, rfl, rfl, O2⟩ := hI
   refine Ad (Qm rfl (Qx (oA rfl) rfl (Qm rfl (Qx (oS rfl) rfl (Qm rfl (Qm rfl (Ak ?_)))))))
   refine Al (n + 1 - (i + 1)) [(0, v), (2, .int .i64 ((i : Int) + 1)), (3, .int .i64 ((n : Int) - 1 - i - 1))] (by omega) ⟨i + 1, m2, rfl, by rw [show ((n : Int) - 1 - i - 1) = (n : Int) - 1 - (i + 1 : Nat) by omega]; rfl, rfl, rfl, by omega, ?_⟩ Qs
   rw [D6, D6, BA (fun a ha => SK f hin ha)] at O2
   exact O2
 ·refine Aw (Aa (Aa (Af ?_)))
  have e1 : ∀ a, a < n → PJ n i f a = f (n - 1 - a) := fun a ha => by
   unfold PJ
   by_cases h1 : a < i ∨ n - 1 - a < i
   ·rw [if_pos h1]
   ·rw [if_neg h1]; congr 1; omega
  exact B6 rfl (⟨rfl, m, rfl, by rw [BA e1] at O; exact O⟩)
end Go.Proofs.YtdnelknieikbaaaGreat
namespace Go.Proofs.YtdnelknieikbaaaGreat
open Go.Eng Go.RowKit Go.Lin
variable {S : Nat → SM} {Z : Zg} {N k s l i t : Nat} {al en st : List Nat} {p n : Int} {w : Nat → Nat → Int} {x : Nat → Int}
theorem _root_.Go.Lin.Valid.congr {D D' : Dc} (V : Valid Z D) (hN : D'.N = D.N) (hf : ∀ l, l < D.N → D'.fr l = D.fr l ∧ D'.to l = D.to l) (hv : ∀ l, l < D.N → ∀ k, D.on k l = true → ∀ i, i < Z.d k → Cg Z.p (D'.vec l k i) (D.vec l k i)) : Valid Z D' := by
 have hon : ∀ k l, l < D.N → D'.on k l = D.on k l := fun k l hl => by unfold Dc.on; rw [(hf l hl).1, (hf l hl).2]
 refine ⟨fun l hl => ?_, fun k hk => ?_, fun k hk => ?_, fun k hk l hl ho i hi => ?_⟩
 ·rw [hN] at hl; rw [(hf l hl).1, (hf l hl).2]; exact V.ends l hl
 ·rw [hN]
  exact (V.ind k hk).congr (fun l hl => (hon k l hl).symm) fun l hl ho i hi => hv l hl k ho i hi
 ·rw [hN, CC fun l hl => hon k l hl]; exact V.cnt k hk
 ·rw [hN] at hl
  rw [hon _ l hl] at ho ⊢
  refine (EC (fun j hj => hv l hl _ ho j hj) i).trans ((V.arr k hk l hl ho i hi).trans ?_)
  cases h : D.on (Z.tgt k) l with
  | false => exact Cg.refl _ _
  | true => exact (hv l hl _ h i hi).symm
theorem Rk (F : Lin.Fld p) {n d : Nat} (hI : Ind p n tt d w) (hno : ¬ ∃ x : Nat → Int, ∀ a, a < d → Cg p (Bj n tt x w a) (w n a)) : Ind p (n + 1) tt d w := by
 intro c hc
 have e : ∀ a, Bj (n + 1) tt c w a = Bj n tt c w a + c n * w n a := fun a => rfl
 have hn : p ∣ c n := Classical.byContradiction fun h => by
  obtain ⟨u, hu⟩ := F.inv _ h
  refine hno ⟨fun l => -(u * c l), fun a ha => ?_⟩
  have h1 := hc a ha
  rw [e] at h1
  have h2 : Cg p (u * (Bj n tt c w a + c n * w n a)) 0 := by
   have := (Cg.refl p u).mul h1
   rwa [Int.mul_zero] at this
  have h3 : Cg p (u * (c n * w n a)) (w n a) := by
   have := hu.mul (Cg.refl p (w n a))
   rwa [Int.one_mul, Int.mul_comm (c n), Int.mul_assoc] at this
  have h4 : Bj n tt (fun l => -(u * c l)) w a = -(u * Bj n tt c w a) := by
   rw [Cs, Cs, ← Int.neg_mul, ← Cb]
   exact AE fun l _ => by rw [Int.neg_mul, Int.mul_assoc, Int.neg_mul]
  rw [h4]
  rw [Int.mul_add] at h2
  have h5 := h2.sub h3
  have e5 : u * Bj n tt c w a + u * (c n * w n a) - u * (c n * w n a) = u * Bj n tt c w a := by omega
  have h6 : Cg p (u * Bj n tt c w a) (0 - w n a) := by rwa [e5] at h5
  have := h6.neg
  rwa [show -(0 - w n a) = w n a by omega] at this
 intro l hl hb
 rcases (by omega : l < n ∨ l = n) with h | rfl
 ·refine hI c (fun a ha => ?_) l h rfl
  have h1 := hc a ha
  rw [e] at h1
  have h2 : Cg p (c n * w n a) 0 := by unfold Cg; rw [Int.sub_zero]; exact Int.dvd_mul_of_dvd_left hn
  have := h1.sub h2
  rwa [Int.add_sub_cancel, Int.sub_zero] at this
 ·exact hn
def Dr (N : Nat) (S : Nat → SM) : Dc := ⟨N, fun l => (S l).fr, fun l => (S l).to, fun l => (S l).v⟩
structure Mch (Z : Zg) (k N : Nat) (S : Nat → SM) (al en : List Nat) : Prop where
 val : Valid (Z.tr k) (Dr N S)
 perm : (en ++ al).Perm (List.range N)
 live : ∀ l ∈ al, (S l).to = k
 dead : ∀ l ∈ en, (S l).to < k
 ord : al.Pairwise ((Dr N S).may Z)
 bd : ∀ l, l < N → (S l).Bd Z.p Z.d
theorem Mch.lt (M : Mch Z k N S al en) (h : l ∈ al) : l < N := List.mem_range.1 (M.perm.mem_iff.1 (List.mem_append_right _ h))
theorem Mch.nodup (M : Mch Z k N S al en) : al.Nodup := (List.nodup_append.1 (M.perm.nodup_iff.2 List.nodup_range)).2.1
theorem Mch.in_ (M : Mch Z k N S al en) (h : l < N) (ht : (S l).to = k) : l ∈ al := by
 rcases List.mem_append.1 (M.perm.mem_iff.2 (List.mem_range.2 h)) with h1 | h1
 ·have := M.dead l h1; omega
 ·exact h1
theorem Mch.cnt_al (M : Mch Z k N S al en) : al.length = Z.d k := by
 have h := M.val.cnt k (show k < k + 1 by omega)
 have hp : al.Perm (Df N ((Dr N S).on k)) := FA M.nodup fun l => by
  constructor
  ·intro hl
   have h1 := M.lt hl
   have h2 := M.live l hl
   have h3 := M.val.ends l h1
   exact ⟨h1, Dc.on_iff.2 ⟨by have : (S l).fr ≤ (S l).to := h3.1; show (S l).fr ≤ k; omega, by show k ≤ (S l).to; omega⟩⟩
  ·rintro ⟨h1, h2⟩
   have h3 := (M.val.ends l h1).2
   have h4 := (Dc.on_iff.1 h2).2
   exact M.in_ h1 (by have h5 : (S l).to < k + 1 := h3; have h6 : k ≤ (S l).to := h4; omega)
 exact (H7 hp).symm.trans h
structure Fw (Z : Zg) (k N : Nat) (S0 S : Nat → SM) (al st de : List Nat) (i : Nat) (w : Nat → Nat → Int) : Prop where
 val : Valid (Z.tr k) (Dr N S)
 same : ∀ l, (S l).g = (S0 l).g ∧ (S l).fr = (S0 l).fr ∧ (S l).to = (S0 l).to
 bd : ∀ l, l < N → (S l).Bd Z.p Z.d
 sub : st.Sublist (al.take i)
 perm : (st ++ de).Perm (al.take i)
 im : ∀ t, t < st.length → ∀ a, a < Z.d (k + 1) → w t a = ap (Z.mat k) (Z.d k) ((S (st.getD t 0)).v k) a % Z.p
 ind : Ind Z.p st.length tt (Z.d (k + 1)) w
 dead : ∀ l ∈ de, ∀ a, a < Z.d (k + 1) → Cg Z.p (ap (Z.mat k) (Z.d k) ((S l).v k) a) 0
theorem SF (p : Int) (d : Nat) (w : Nat → Nat → Int) : Ind p 0 tt d w := fun c hc l hl => by omega
theorem Fw.start (M : Mch Z k N S al en) (w : Nat → Nat → Int) : Fw Z k N S S al [] [] 0 w :=
 ⟨M.val, fun _ => ⟨rfl, rfl, rfl⟩, M.bd, by simp, by simp, fun t ht => by simp at ht, SF _ _ _, fun l hl => by simp at hl⟩
theorem BU {l : List Nat} (hi : i < l.length) : l.take (i + 1) = l.take i ++ [l.getD i 0] := by
 have e : l.getD i 0 = l[i] := by simp [List.getD, hi]
 rw [e, List.take_append_getElem hi]
theorem Fw.stay (F : Lin.Fld Z.p) {S0 : Nat → SM} {de : List Nat} {w' : Nat → Nat → Int} (W : Fw Z k N S0 S al st de i w) (hi : i < al.length) (hw : ∀ t, t < st.length → ∀ a, a < Z.d (k + 1) → w' t a = w t a) (hv : ∀ a, a < Z.d (k + 1) → w' st.length a = ap (Z.mat k) (Z.d k) ((S (al.getD i 0)).v k) a % Z.p)
  (hno : ∀ x : Nat → Int, ¬ ∀ a, a < Z.d (k + 1) → Cg Z.p (ap (fun i j => w j i) st.length x a) (w' st.length a)) : Fw Z k N S0 S al (st ++ [al.getD i 0]) de (i + 1) w' := by
 refine ⟨W.val, W.same, W.bd, ?_, ?_, fun t ht a ha => ?_, ?_, W.dead⟩
 ·rw [BU hi]; exact W.sub.append_right _
 ·rw [BU hi]
  have h1 : (st ++ [al.getD i 0] ++ de).Perm ((st ++ de) ++ [al.getD i 0]) := by
   rw [List.append_assoc, List.append_assoc]
   exact List.Perm.append_left _ List.perm_append_comm
  exact h1.trans (W.perm.append_right _)
 ·rw [List.length_append, List.length_singleton] at ht
  rcases (by omega : t < st.length ∨ t = st.length) with h | rfl
  ·rw [hw t h a ha, JP h]; exact W.im t h a ha
  ·rw [FD]; exact hv a ha
 ·rw [List.length_append, List.length_singleton]
  refine Rk F (W.ind.congr (fun _ _ => rfl) fun l hl _ a ha => Cg.of_eq (hw l hl a ha)) fun ⟨x, hx⟩ => hno x fun a ha => Cg.trans (Cg.of_eq ?_) (hx a ha)
  rw [Cs]
  exact AE fun t ht => by rw [hw t ht a ha, Int.mul_comm]
structure FwI (Z : Zg) (k N : Nat) (S S' : Nat → SM) (st : List Nat) (s : Nat) (x : Nat → Int) (j : Nat) : Prop where
 val : Valid (Z.tr k) (Dr N S')
 same : ∀ l, (S' l).g = (S l).g ∧ (S' l).fr = (S l).fr ∧ (S' l).to = (S l).to
 bd : ∀ l, l < N → (S' l).Bd Z.p Z.d
 other : ∀ l, l ≠ s → S' l = S l
 sum : ∀ a, a < Z.d k → Cg Z.p ((S' s).v k a) ((S s).v k a + sm j fun t => (Z.p - x t) * (S (st.getD t 0)).v k a)
theorem FwI.start (hV : Valid (Z.tr k) (Dr N S)) (hb : ∀ l, l < N → (S l).Bd Z.p Z.d) : FwI Z k N S S st s x 0 :=
 ⟨hV, fun _ => ⟨rfl, rfl, rfl⟩, hb, fun _ _ => rfl, fun a _ => Cg.of_eq (by show _ = _ + (0 : Int); rw [Int.add_zero])⟩
theorem Po : Dr N (adds p n s t S) = (Dr N S).adds p s t n := by
 have h1 : (fun l => (adds p n s t S l).fr) = fun l => (S l).fr := funext fun l => by
  unfold adds; split
  ·rename_i h; rw [h]
  ·rfl
 have h2 : (fun l => (adds p n s t S l).to) = fun l => (S l).to := funext fun l => by
  unfold adds; split
  ·rename_i h; rw [h]
  ·rfl
 have h3 : (fun l => (adds p n s t S l).v) = ((Dr N S).adds p s t n).vec := funext fun l => funext fun k => funext fun i => by
  show _ = if l = s ∧ (S t).fr ≤ k then ((S l).v k i + n * (S t).v k i) % p else (S l).v k i
  unfold adds
  by_cases h : l = s
  ·subst h
   rw [if_pos rfl]
   show HH p n (S t).fr (S l).v (S t).v k i = _
   unfold HH
   by_cases h2 : (S t).fr ≤ k
   ·rw [if_pos h2, if_pos ⟨rfl, h2⟩]
   ·rw [if_neg h2, if_neg fun h => h2 h.2]
  ·rw [if_neg h, if_neg fun h2 => h h2.1]
 show Dc.mk N _ _ _ = Dc.mk N _ _ _
 rw [h1, h2, h3]
 rfl
theorem Hv (l : Nat) : (adds p n s t S l).g = (S l).g ∧ (adds p n s t S l).fr = (S l).fr ∧ (adds p n s t S l).to = (S l).to := by
 unfold adds; split
 ·rename_i h; rw [h]; exact ⟨rfl, rfl, rfl⟩
 ·exact ⟨rfl, rfl, rfl⟩
theorem S9 {d : Nat → Nat} (hp : 0 < p) (h : (S l).Bd p d) : (adds p n s t S l).Bd p d := by
 intro k h1 h2 i hi
 rw [(Hv l).2.1] at h1
 rw [(Hv l).2.2] at h2
 unfold adds
 split
 ·rename_i hls
  subst hls
  show 0 ≤ HH p n (S t).fr (S l).v (S t).v k i ∧ HH p n (S t).fr (S l).v (S t).v k i < p
  unfold HH
  split
  ·exact ⟨Int.emod_nonneg _ (by omega), Int.emod_lt_of_pos _ hp⟩
  ·exact h k h1 h2 i hi
 ·exact h k h1 h2 i hi
theorem FwI.step (hp : 0 < Z.p) {S' : Nat → SM} {j : Nat} (W : FwI Z k N S S' st s x j) (hs : s < N) (ht : st.getD j 0 < N) (hne : st.getD j 0 ≠ s) (hks : (S s).to = k) (hkt : (S (st.getD j 0)).to = k) (hm : (Dr N S).may Z (st.getD j 0) s) : FwI Z k N S (adds Z.p (Z.p - x j) s (st.getD j 0) S') st s x (j + 1) := by
 have hm' : (Dr N S').may Z (st.getD j 0) s := by
  unfold Dc.may at hm ⊢
  show (S' (st.getD j 0)).fr = (S' s).fr ∨ ((S' s).fr < (S' (st.getD j 0)).fr ∧ Z.back ((S' (st.getD j 0)).fr - 1) = true) ∨ ((S' (st.getD j 0)).fr < (S' s).fr ∧ Z.back ((S' s).fr - 1) = false)
  rw [(W.same s).2.1, (W.same (st.getD j 0)).2.1]
  exact hm
 refine ⟨?_, fun l => ?_, fun l hl => S9 hp (W.bd l hl), fun l hl => ?_, fun a ha => ?_⟩
 ·rw [Po]
  exact SZ (Z := Z.tr k) (K := k) rfl W.val hs ht (Ne.symm hne) (by show (S' s).to = k; rw [(W.same s).2.2]; exact hks) (by show (S' (st.getD j 0)).to = k; rw [(W.same _).2.2]; exact hkt) hm'
 ·have h1 := Hv (S := S') (p := Z.p) (n := Z.p - x j) (s := s) (t := st.getD j 0) l
  have h2 := W.same l
  exact ⟨h1.1.trans h2.1, h1.2.1.trans h2.2.1, h1.2.2.trans h2.2.2⟩
 ·unfold adds; rw [if_neg hl]; exact W.other l hl
 ·have e1 : (adds Z.p (Z.p - x j) s (st.getD j 0) S' s).v k a = ((S' s).v k a + (Z.p - x j) * (S' (st.getD j 0)).v k a) % Z.p := by
   unfold adds
   rw [if_pos rfl]
   show HH _ _ _ _ _ k a = _
   unfold HH
   rw [if_pos]
   have := (W.val.ends _ ht).1
   have h5 : (S' (st.getD j 0)).fr ≤ (S' (st.getD j 0)).to := this
   rw [(W.same (st.getD j 0)).2.2, hkt] at h5
   exact h5
  rw [e1]
  refine (Cg.mod _ _).trans ?_
  show Cg Z.p _ ((S s).v k a + (sm j _ + _))
  rw [W.other _ hne, ← Int.add_assoc]
  exact (W.sum a ha).add (Cg.refl _ _)
theorem Fw.ends {S0 S' : Nat → SM} {de : List Nat} (W : Fw Z k N S0 S al st de i w) (hi : i < al.length) (hnd : al.Nodup) (I : FwI Z k N S S' st (al.getD i 0) x st.length)
  (hx : ∀ a, a < Z.d (k + 1) → Cg Z.p (ap (fun i j => w j i) st.length x a) (ap (Z.mat k) (Z.d k) ((S (al.getD i 0)).v k) a)) : Fw Z k N S0 S' al st (de ++ [al.getD i 0]) (i + 1) w := by
 have hni : ∀ l, l ∈ al.take i → l ≠ al.getD i 0 := fun l hl he => by
  have h1 : (al.take (i + 1)).Nodup := hnd.sublist (List.take_sublist _ _)
  rw [BU hi] at h1
  exact (List.nodup_append.1 h1).2.2 l hl _ (by simp) he
 have hst : ∀ t, t < st.length → st.getD t 0 ≠ al.getD i 0 := fun t ht => hni _ (W.sub.subset (by simp [List.getD, ht]))
 have hde : ∀ l ∈ de, l ≠ al.getD i 0 := fun l hl => hni _ (W.perm.mem_iff.1 (List.mem_append_right _ hl))
 refine ⟨I.val, fun l => ?_, I.bd, ?_, ?_, fun t ht a ha => ?_, W.ind, fun l hl a ha => ?_⟩
 ·have h1 := I.same l
  have h2 := W.same l
  exact ⟨h1.1.trans h2.1, h1.2.1.trans h2.2.1, h1.2.2.trans h2.2.2⟩
 ·rw [BU hi]; exact W.sub.trans (List.sublist_append_left _ _)
 ·rw [BU hi, ← List.append_assoc]; exact W.perm.append_right _
 ·rw [I.other _ (hst t ht)]; exact W.im t ht a ha
 ·rcases List.mem_append.1 hl with hl | hl
  ·rw [I.other _ (hde l hl)]; exact W.dead l hl a ha
  ·rw [List.mem_singleton.1 hl]
   have h1 : Cg Z.p (ap (Z.mat k) (Z.d k) ((S' (al.getD i 0)).v k) a) (ap (Z.mat k) (Z.d k) ((S (al.getD i 0)).v k) a + sm st.length fun t => (Z.p - x t) * ap (Z.mat k) (Z.d k) ((S (st.getD t 0)).v k) a) := by
    refine (EC (fun j hj => I.sum j hj) a).trans (Cg.of_eq ?_)
    rw [Md (Z.mat k) (Z.d k) ((S (al.getD i 0)).v k) (fun j => sm st.length fun t => (Z.p - x t) * (S (st.getD t 0)).v k j) a]
    congr 1
    have := FY (Z.mat k) (Z.d k) st.length tt (fun t => Z.p - x t) (fun t => (S (st.getD t 0)).v k) a
    rw [show ap (Z.mat k) (Z.d k) (Bj st.length tt (fun t => Z.p - x t) fun t => (S (st.getD t 0)).v k) a = ap (Z.mat k) (Z.d k) (fun j => sm st.length fun t => (Z.p - x t) * (S (st.getD t 0)).v k j) a from AE fun j _ => by rw [Cs]] at this
    rw [this]
    exact AE fun t _ => if_pos rfl
   have h2 : Cg Z.p (sm st.length fun t => (Z.p - x t) * ap (Z.mat k) (Z.d k) ((S (st.getD t 0)).v k) a) (-(ap (fun i j => w j i) st.length x a)) := by
    have h3 : Cg Z.p (sm st.length fun t => (Z.p - x t) * ap (Z.mat k) (Z.d k) ((S (st.getD t 0)).v k) a) (sm st.length fun t => (-1) * (w t a * x t)) := by
     refine Cg.sm fun t ht => ?_
     have h4 : Cg Z.p (ap (Z.mat k) (Z.d k) ((S (st.getD t 0)).v k) a) (w t a) := by rw [W.im t ht a ha]; exact (Cg.mod _ _).symm
     have h5 : Cg Z.p (Z.p - x t) (0 - x t) := (Cg.self Z.p).sub (Cg.refl _ _)
     refine (h5.mul h4).trans (Cg.of_eq ?_)
     rw [Int.zero_sub, Int.neg_mul, Int.mul_comm (x t), Int.neg_mul, Int.one_mul]
    rw [Cb] at h3
    refine h3.trans (Cg.of_eq ?_)
    unfold ap
    rw [Int.neg_mul, Int.one_mul]
   refine (h1.trans ((Cg.refl _ _).add h2)).trans ?_
   have h6 := (Cg.refl Z.p (ap (Z.mat k) (Z.d k) ((S (al.getD i 0)).v k) a)).add (hx a ha).neg
   rwa [Int.add_right_neg] at h6
end Go.Proofs.YtdnelknieikbaaaGreat
