/- Parts of the proof: Za Zb Zc Zd Ze Zf Zg Zh Zi Zj Zk Zl Zm Zn Zo Zp. -/
import Derived.Test.YtdnelknieikbaaaGreatTD
set_option linter.unusedSimpArgs false
set_option linter.unusedVariables false
set_option maxRecDepth 100000
namespace Go.Proofs.YtdnelknieikbaaaGreat
open Tryz
open Go.Eng Go.RowKit Go.Lin
variable {p : Int}
def Dh (n : Int) : Prop := -9223372036854775808 ≤ n ∧ n ≤ 9223372036854775807
instance (n : Int) : Decidable (Dh n) := by unfold Dh; infer_instance
def IsP (p : Int) : Prop := 2 ≤ p ∧ p ≤ 997 ∧ ∀ k, k < p.toNat → 2 ≤ k → p.toNat % k ≠ 0
instance (p : Int) : Decidable (IsP p) := by unfold IsP; infer_instance
theorem IsP.prm (h : IsP p) : Prm p.toNat := by
 obtain ⟨h1, h2, h3⟩ := h
 refine GZ (by omega) fun k hk hkk => h3 k ?_ hk
 have : 2 * k ≤ k * k := Nat.mul_le_mul_right k hk
 omega
theorem IsP.fld (h : IsP p) : Fld p := by
 have := h.prm.fld
 rwa [Int.toNat_of_nonneg (by have := h.1; omega)] at this
theorem J4 (h2 : 2 ≤ p) (h9 : p ≤ 997) (j : Nat) (hj : p < (j : Int) * j) (h : ∀ k, 2 ≤ k → k < j → p.toNat % k ≠ 0) : IsP p := by
 refine ⟨h2, h9, fun k hk h2k he => ?_⟩
 have hp : Prm p.toNat := by
  refine GZ (by omega) fun k hk hkk => h k hk (Nat.lt_of_not_le fun hle => ?_)
  have h1 : j * j ≤ k * k := Nat.mul_le_mul hle hle
  have h2 : ((j * j : Nat) : Int) = (j : Int) * j := by simp
  omega
 rcases hp.2 k (Nat.dvd_of_mod_eq_zero he) with h | h <;> omega
theorem NW (hp : 0 ≤ p) (k : Nat) (hk : 0 < k) : p % (k : Int) = ((p.toNat % k : Nat) : Int) := by
 rw [Int.natCast_emod, Int.toNat_of_nonneg hp]
theorem QW (p : Int) (h : Hp) (hI : Dh p) : FnT Tryz.prog 70 #[.int .i64 p] h [] (fun r _ _ => r = .bool (decide (IsP p))) := by
 have hI1 := hI.1
 have hI2 := hI.2
 refine Av func70 ntmps70 rfl rfl (fun w0 hw0 => ?_)
 simp only [A4]
 refine Ax (Qm rfl (Aq (Ac (Ax (Qm rfl (Qm rfl (Qm rfl ?_)))))))
 refine AR (t := 6) rfl (fun hs => ?_) (fun hs => ?_)
 ·refine Qk rfl (Qk rfl (Qm rfl (Aq (AU rfl (Ax (Qm rfl (Aq (Ao (Ae ?_)))))))))
  exact Am rfl rfl (by rw [decide_eq_false]; exact fun h => absurd h.1 (by omega))
 ·refine Qg (As rfl rfl) rfl (Qg (Dd rfl rfl rfl) rfl (Qm rfl (Aq ?_)))
  refine AF rfl (fun hs2 => ?_) (fun hs2 => ?_)
  ·refine Ac (Ad (Qm rfl (Aq (Ao (Ae ?_)))))
   exact Am rfl rfl (by rw [decide_eq_false]; exact fun h => absurd h.2.1 (by omega))
  ·refine Ai (Ab (Ac (Ax (Qm rfl (Aq (Ag ?_))))))
   refine AD (fun n s h' ms' => ∃ (k : Nat), n = 1000 - k ∧ s = [(0, .int .i64 p), (3, .int .i64 k)] ∧ h = h' ∧ ms' = [] ∧ 2 ≤ k ∧ k ≤ 1000 ∧ ∀ j, 2 ≤ j → j < k → p.toNat % j ≠ 0)
    (1000 - 2) _ ⟨2, rfl, rfl, rfl, rfl, by omega, by omega, fun j h1 h2 => by omega⟩ Qs ?_
   rintro n s h' ms' ⟨k, rfl, rfl, rfl, rfl, h2, hk, hno⟩
   have hkk : (k : Int) * k ≤ 1000 * 1000 := by
    have h1 : k * k ≤ 1000 * 1000 := Nat.mul_le_mul hk hk
    have h2 : ((k * k : Nat) : Int) = (k : Int) * k := by simp
    omega
   have hkk0 : 0 ≤ (k : Int) * k := Int.mul_nonneg (by omega) (by omega)
   have hk4 : 2 * (k : Int) ≤ (k : Int) * k := Int.mul_le_mul_of_nonneg_right (by omega) (by omega)
   refine Ac (Ax (Qm rfl (Qm rfl (Qx (oM rfl) rfl (Qm rfl (Qm rfl (Aq ?_)))))))
   refine AF rfl (fun hlt => ?_) (fun hlt => ?_)
   ·refine Ai (Ab (Ac (Ag (Ax (Qm rfl (Qm rfl (Qx (B0 rfl rfl rfl (by omega) (by omega)) rfl (Qm rfl (Aq ?_)))))))))
    have hm := NW (p := p) (by omega) k (by omega)
    refine AF rfl (fun hz => ?_) (fun hz => ?_)
    ·refine Ac (Ad (Qm rfl (Aq (Ao (Ap (Ae (Ae (Ap (Ae ?_)))))))))
     exact Am rfl rfl (by rw [decide_eq_false]; exact fun h => absurd (show p.toNat % k = 0 by omega) (h.2.2 k (by omega) h2))
    ·refine Ai (Aj (Ab (Ad (Qm rfl (Qx (oA rfl) rfl (Qm rfl (Ak ?_)))))))
     refine Al (1000 - (k + 1)) _ (by omega) ⟨k + 1, rfl, rfl, rfl, rfl, by omega, by omega, fun j h1 h3 => ?_⟩ Qs
     rcases (by omega : j < k ∨ j = k) with h4 | h4
     ·exact hno j h1 h4
     ·subst h4; omega
   ·refine Aw (Aa (Aa (Af (Ab (Ax (Qm rfl (Aq (Ao ?_))))))))
    exact Am rfl rfl (by rw [decide_eq_true]; exact J4 (by omega) (by omega) k (by omega) hno)
theorem N3 (p : Int) (h : Hp) (hI : Dh p) (ms : List Hp) : Dq Tryz.prog 70 #[.int .i64 p] h ms (.bool (decide (IsP p))) := by
 refine fun w hw => (?_ : Dq _ _ _ h [] _) w (hw.weaken (Hp.le_refl _) (List.nil_sublist _))
 exact FnT.toV (QW p h hI)
def Es (rows cols : Int) : Prop := 0 ≤ rows ∧ 0 ≤ cols ∧ rows ≤ 400 ∧ cols ≤ 400
instance (r c : Int) : Decidable (Es r c) := by unfold Es; infer_instance
theorem TU (p r c : Int) (h : Hp) (hI : Dh p) : FnT Tryz.prog 100 #[.int .i64 p, .int .i64 r, .int .i64 c] h [] (fun x _ _ => x = .bool (decide (IsP p ∧ Es r c))) := by
 refine Av func100 ntmps100 rfl rfl (fun w0 hw0 => ?_)
 simp only [A4]
 refine Ax (Qm rfl (B3 (Qm rfl (Qx (AG rfl call70 rfl (N3 _ _ hI _)) rfl (Qm rfl ?_)))))
 refine AR (t := 9) rfl (fun hs => ?_) (fun hs => ?_)
 ·refine Qg (As rfl rfl) rfl (Qg (As rfl rfl) rfl (Qg (MX rfl rfl rfl) rfl (Qg (DU rfl rfl rfl) rfl (Qm rfl (Qm rfl ?_)))))
  refine AR (t := 15) rfl (fun hs2 => ?_) (fun hs2 => ?_)
  ·refine Qg (As rfl rfl) rfl (Qg (As rfl rfl) rfl (Qg (JV rfl rfl rfl) rfl (Qg (JX rfl rfl rfl) rfl (Qm rfl (Qm rfl (Aq (Ao ?_)))))))
   exact Am rfl rfl (by unfold Es; congr 1; rw [decide_eq_decide]; simp only [hs, true_and]; omega)
  ·refine Qk rfl (Qk rfl (Qk rfl (Qk rfl (Qm rfl (Qm rfl (Aq (Ao ?_)))))))
   exact Am rfl rfl (by unfold Es; rw [decide_eq_false]; rintro ⟨_, h1⟩; omega)
 ·refine Qk rfl (Qk rfl (Qk rfl (Qk rfl (Qm rfl (Qm rfl (Qk rfl (Qk rfl (Qk rfl (Qk rfl (Qm rfl (Qm rfl (Aq (Ao ?_)))))))))))))
  exact Am rfl rfl (by rw [decide_eq_false]; exact fun h => hs h.1)
theorem Q7 (p r c : Int) (h : Hp) (hI : Dh p) (ms : List Hp) : Dq Tryz.prog 100 #[.int .i64 p, .int .i64 r, .int .i64 c] h ms (.bool (decide (IsP p ∧ Es r c))) := by
 refine fun w hw => (?_ : Dq _ _ _ h [] _) w (hw.weaken (Hp.le_refl _) (List.nil_sublist _))
 exact FnT.toV (TU p r c h hI)
end Go.Proofs.YtdnelknieikbaaaGreat
namespace Go.Proofs.YtdnelknieikbaaaGreat
open Tryz
open Go.Eng Go.RowKit Go.Lin
variable {l : List Int}
theorem Ds {P : Program} {f : FuncId} {args : Array Value} {h : Hp} {v : Value} (k : FnT P f args h [] (fun r _ _ => r = v)) (ms : List Hp) : Dq P f args h ms v := by
 refine fun w hw => (?_ : Dq _ _ _ h [] _) w (hw.weaken (Hp.le_refl _) (List.nil_sublist _))
 exact FnT.toV k
def TE (l : List Int) (p : Int → Bool) : Int := match l.findIdx? p with | some i => i | none => -1
theorem GA {p : Int → Bool} {k : Nat} (hk : k < l.length) (hp : p l[k] = true) (hn : ∀ j (hj : j < k), p (l[j]'(by omega)) = false) : TE l p = k := by
 unfold TE
 have : l.findIdx? p = some k := by
  rw [List.findIdx?_eq_some_iff_getElem]
  exact ⟨hk, hp, fun j hj => by simp [hn j hj]⟩
 rw [this]
theorem Hc {p : Int → Bool} (hn : ∀ j (hj : j < l.length), p l[j] = false) : TE l p = -1 := by
 unfold TE
 have : l.findIdx? p = none := by
  rw [List.findIdx?_eq_none_iff]
  intro x hx
  obtain ⟨j, hj, rfl⟩ := List.mem_iff_getElem.1 hx
  exact hn j hj
 rw [this]
theorem N0 (l : List Int) (p : Int → Bool) : decide (0 ≤ TE l p) = l.any p := by
 unfold TE
 cases h : l.findIdx? p with
 | none => rw [List.findIdx?_eq_none_iff] at h; simp; exact h
 | some i =>
  rw [List.findIdx?_eq_some_iff_getElem] at h
  obtain ⟨h1, h2, _⟩ := h
  simp
  exact ⟨_, List.getElem_mem h1, h2⟩
theorem J9 (l : List Int) (vl : Value) (cf : FuncId) (cs : List Value) (p : Int → Bool) (h : Hp) (hR : RdL cI 1 h [] vl l)
  (hc : ∀ xs w, (callFunc cf xs).run Tryz.prog w = .ok (.enter cf xs) w)
  (hp : ∀ b ∈ l, ∀ ms, Dq Tryz.prog cf ([] ++ [Value.int .i64 b] ++ cs).toArray h ms (.bool (p b))) :
  FnT Tryz.prog 119 #[vl, .func (.func cf) #[] cs.toArray] h [] (fun r _ _ => r = .int .i64 (TE l p)) := by
 have hl := hR.len_le
 refine Av func119 ntmps119 rfl rfl (fun w0 hw0 => ?_)
 simp only [A4]
 refine Ax (Qm rfl (Aq (Ac (Ax (Qm rfl (Qx (AJ hR.rd.any rfl underlying24 rfl) rfl (Qm rfl (Aq (Ag ?_)))))))))
 refine AD (fun n s h' ms' => ∃ (k : Nat), n = l.length - k ∧ s = [(0, vl), (1, .func (.func cf) #[] cs.toArray), (7, .int .i64 l.length), (8, .int .i64 k)] ∧ h = h' ∧ ms' = [] ∧ k ≤ l.length ∧ ∀ j (hj : j < l.length), j < k → p l[j] = false)
  (l.length - 0) _ ⟨0, rfl, rfl, rfl, rfl, by omega, fun j hj h => by omega⟩ Qs ?_
 rintro n s h' ms' ⟨k, rfl, rfl, rfl, rfl, hk, hno⟩
 refine Ax (Qm rfl (Aq (Ac ?_)))
 refine AF rfl (fun hlt => ?_) (fun hlt => ?_)
 ·have hlt' : k < l.length := by omega
  refine Ai (Ab (Ac (Ag (Ax (Qm rfl (Qm rfl (B3 (Qm rfl (Qm rfl (Qm rfl (Qx (Ah _ hR.rd.any rfl underlying24 A8 rfl rfl rfl (by omega)) rfl (Ql rfl underlying3 (hR.any.cell0 hlt' rfl) (Qx (En rfl rfl hc rfl (hp _ (List.getElem_mem hlt') _)) rfl (Aq ?_))))))))))))))
  refine BJ rfl (fun hpk => ?_) (fun hpk => ?_)
  ·refine Ac (Ad (Qm rfl (Qm rfl (Aq (Ao (Ap (Ae (Ae (Ap (Ae ?_))))))))))
   exact Am rfl rfl (by rw [GA hlt' hpk fun j hj => hno j _ hj])
  ·refine Ai (Aj (Ab (Ad (Qx (oA rfl) rfl (Qm rfl (Ak ?_))))))
   refine Al (l.length - (k + 1)) _ (by omega) ⟨k + 1, rfl, rfl, rfl, rfl, by omega, fun j hj h1 => ?_⟩ Qs
   rcases (by omega : j < k ∨ j = k) with h2 | rfl
   ·exact hno j hj h2
   ·exact hpk
 ·refine Aw (Aa (Aa (Af (Ab (Ax (Qm rfl (Aq (Ao ?_))))))))
  exact Am rfl rfl (by rw [Hc fun j hj => hno j hj (by omega)])
theorem Ft (l : List Int) (vl : Value) (cf : FuncId) (cs : List Value) (p : Int → Bool) (h : Hp) (hR : RdL cI 1 h [] vl l)
  (hc : ∀ xs w, (callFunc cf xs).run Tryz.prog w = .ok (.enter cf xs) w)
  (hp : ∀ b ∈ l, ∀ ms, Dq Tryz.prog cf ([] ++ [Value.int .i64 b] ++ cs).toArray h ms (.bool (p b))) :
  FnT Tryz.prog 94 #[vl, .func (.func cf) #[] cs.toArray] h [] (fun r _ _ => r = .bool (l.any p)) := by
 refine Av func94 ntmps94 rfl rfl (fun w0 hw0 => ?_)
 simp only [A4]
 refine Ax (Qm rfl (B3 (Qm rfl (Qm rfl (Qx (AG rfl call119 rfl (Ds (J9 l vl cf cs p h hR hc hp) _)) rfl (Qm rfl (Qm rfl (Aq (Ao ?_)))))))))
 exact Am rfl rfl (by rw [← N0])
structure FM where
 p : Int
 rows : Int
 cols : Int
 e : List Int
def FM.nil : FM := ⟨0, 0, 0, []⟩
def FM.Rt (M : FM) : Prop := IsP M.p ∧ Es M.rows M.cols ∧ (M.e.length : Int) = M.rows * M.cols ∧ ∀ x ∈ M.e, 0 ≤ x ∧ x < M.p
instance (M : FM) : Decidable M.Rt := by unfold FM.Rt; infer_instance
structure FM.Ok (M : FM) : Prop where
 p : Dh M.p
 r : Dh M.rows
 c : Dh M.cols
def cM (M : FM) (ev : Value) : List Value := [.int .i64 M.p, .int .i64 M.rows, .int .i64 M.cols, ev]
theorem PC (g : Nat) (n p : Int) (h : Hp) (hD : ∀ ms, Cell h ms ⟨g, 0, none⟩ (.int .i64 p)) (ms : List Hp) : Dq Tryz.prog 101 ([] ++ [Value.int .i64 n] ++ [Value.pointer (some ⟨g, 0, none⟩)]).toArray h ms (.bool (decide (n < 0 ∨ p ≤ n))) := by
 refine Ds ?_ ms
 show FnT _ _ #[.int .i64 n, .pointer (some ⟨g, 0, none⟩)] _ _ _
 refine Av func101 ntmps101 rfl rfl (fun w0 hw0 => ?_)
 simp only [A4]
 refine Ax (Qm rfl (B3 (Qm rfl (Qm rfl (Qm rfl ?_)))))
 refine AR (t := 6) rfl (fun hs => ?_) (fun hs => ?_)
 ·refine Qk rfl (Qk rfl (Qk rfl (Qk rfl (Qm rfl (Qm rfl (Aq (Ao ?_)))))))
  exact Am rfl rfl (by rw [decide_eq_true]; exact .inl hs)
 ·refine Qg (As rfl rfl) rfl (Qg (oF BE rfl) rfl (Qg (oL rfl underlying3 (hD _)) rfl (Qg (DU rfl rfl rfl) rfl (Qm rfl (Qm rfl (Aq (Ao ?_)))))))
  exact Am rfl rfl (by congr 1; rw [decide_eq_decide]; omega)
theorem TZ {p : Int} : (!l.any fun n => decide (n < 0 ∨ p ≤ n)) = decide (∀ x ∈ l, 0 ≤ x ∧ x < p) := by
 rw [Bool.eq_iff_iff]
 simp only [Bool.not_eq_true', List.any_eq_false, decide_eq_true_eq]
 exact ⟨fun h x hx => by have := h x hx; omega, fun h x hx => by have := h x hx; omega⟩
theorem Hg {r c : Int} (hF : Es r c) : 0 ≤ r * c ∧ r * c ≤ 160000 := by
 obtain ⟨h1, h2, h3, h4⟩ := hF
 refine ⟨Int.mul_nonneg h1 h2, ?_⟩
 have := Int.mul_le_mul h3 h4 h2 (by omega : (0 : Int) ≤ 400)
 omega
theorem GX (M : FM) (ev : Value) (h : Hp) (hO : M.Ok) (hR : RdL cI 1 h [] ev M.e) : FnT Tryz.prog 73 #[.agg #[.int .i64 M.p, .int .i64 M.rows, .int .i64 M.cols, ev]] h [] (fun r _ _ => r = .bool (decide M.Rt)) := by
 have hl := hR.len_le
 refine Av func73 ntmps73 rfl rfl (fun w0 hw0 => ?_)
 simp only [A4]
 refine Ax ?_
 refine AS [_, _, _, _] rfl rfl (by rfl) rfl rfl rfl (fun g1 => ?_)
 refine Qm rfl (B3 (Qf BE rfl (Ql rfl underlying3 (Cell.blk 0 rfl rfl) (Qf Bh rfl (Ql rfl underlying3 (Cell.blk 0 rfl rfl) (Qf A0 rfl (Ql rfl underlying3 (Cell.blk 0 rfl rfl) (Qx (AG rfl call100 rfl (Q7 _ _ _ _ hO.p _)) rfl (Qm rfl ?_)))))))))
 refine AR (t := 10) rfl (fun hf => ?_) (fun hf => ?_)
 ·have hm := Hg hf.2
  refine Qg (oF Bc rfl) rfl (Qg (oL rfl underlying24 (Cell.blk 0 rfl rfl)) rfl (Qg (AJ hR.rd.any rfl underlying24 rfl) rfl (Qg (oF Bh rfl) rfl (Qg (oL rfl underlying3 (Cell.blk 0 rfl rfl)) rfl (Qg (oF A0 rfl) rfl (Qg (oL rfl underlying3 (Cell.blk 0 rfl rfl)) rfl (Qg (oM rfl) rfl (Qg (EJ rfl rfl rfl) rfl (Qm rfl (Qm rfl ?_))))))))))
  refine AR (t := 21) rfl (fun he => ?_) (fun he => ?_)
  ·refine Qg (oF Bc rfl) rfl (Qg (oL rfl underlying24 (Cell.blk 0 rfl rfl)) rfl (BD fun h' hle hS => ?_))
   have hR := hR.up hle
   have hD : ∀ i v, (cM M ev)[i]? = some v → ∀ ms, Cell h' ms ((⟨g1, 0, none⟩ : Addr).add i) v := fun i v hv ms => (hS i v hv).any
   have hD0 : ∀ ms, Cell h' ms ⟨g1, 0, none⟩ (.int .i64 M.p) := fun ms => hD 0 _ rfl ms
   refine Qg (CE rfl rfl rfl) rfl (Qg (AG rfl call94 rfl (Ds (Ft M.e ev 101 [.pointer (some ⟨g1, 0, none⟩)] (fun n => decide (n < 0 ∨ M.p ≤ n)) h' hR call101 (fun b _ ms => PC g1 b M.p h' hD0 ms)) _)) rfl (Qg (CP rfl rfl) rfl (Qm rfl (Qm rfl (Aq (Ao ?_))))))
   exact Am rfl rfl (by rw [TZ]; congr 1; rw [decide_eq_decide]; unfold FM.Rt; exact ⟨fun hx => ⟨hf.1, hf.2, he, hx⟩, fun hx => hx.2.2.2⟩)
  ·refine Qk rfl (Qk rfl (Qk rfl (Qk rfl (Qk rfl (Qm rfl (Qm rfl (Aq (Ao ?_))))))))
   exact Am rfl rfl (by rw [decide_eq_false]; exact fun hx => he hx.2.2.1)
 ·refine Qk rfl (Qk rfl (Qk rfl (Qk rfl (Qk rfl (Qk rfl (Qk rfl (Qk rfl (Qk rfl (Qm rfl (Qm rfl (Qk rfl (Qk rfl (Qk rfl (Qk rfl (Qk rfl (Qm rfl (Qm rfl (Aq (Ao ?_)))))))))))))))))))
  exact Am rfl rfl (by rw [decide_eq_false]; exact fun hx => hf ⟨hx.1, hx.2.1⟩)
end Go.Proofs.YtdnelknieikbaaaGreat
namespace Go.Proofs.YtdnelknieikbaaaGreat
open Tryz
open Go.Eng Go.RowKit Go.Lin
def NB (p r c : Int) : FM := if IsP p ∧ Es r c then ⟨p, r, c, List.replicate (r * c).toNat 0⟩ else FM.nil
def EM (p : Int) (r c : Nat) (f : Nat → Nat → Int) : FM := ⟨p, r, c, mat r c f⟩
theorem DO {p : Int} {r c : Nat} (hp : IsP p) (hr : r ≤ 400) (hc : c ≤ 400) : NB p r c = EM p r c fun _ _ => 0 := by
 unfold NB EM
 rw [if_pos ⟨hp, by unfold Es; omega⟩, ← Kv, show ((r : Int) * c).toNat = r * c by rw [← Int.natCast_mul, Int.toNat_natCast]]
def Ez (r : Value) (ms : List Hp) (M : FM) : Prop := ∃ ev m, ms = [m] ∧ r = .agg #[.int .i64 M.p, .int .i64 M.rows, .int .i64 M.cols, ev] ∧ OwnL cI 1 3 m ev M.e
theorem GB (p r c : Int) (h : Hp) (hI : Dh p) : FnT Tryz.prog 106 #[.int .i64 p, .int .i64 r, .int .i64 c] h [] (fun v h' ms' => h = h' ∧ Ez v ms' (NB p r c)) := by
 refine Av func106 ntmps106 rfl rfl (fun w0 hw0 => ?_)
 simp only [A4]
 refine Ax (BZ [.int .i64 0, .int .i64 0, .int .i64 0, .slice none 0 0] rfl AI rfl rfl (fun g6 => Aq (Ac (Ax (Qm rfl (Qm rfl (Qm rfl (Qx (AG rfl call100 rfl (Q7 _ _ _ _ hI _)) rfl (Qm rfl (Aq ?_))))))))))
 refine BJ rfl (fun hf => ?_) (fun hf => ?_)
 ·have hf : ¬ (IsP p ∧ Es r c) := of_decide_eq_false (by simpa only [Bool.not_eq_true'] using hf)
  refine Ax ?_
  refine Qx (AT Gh [.int .i64 0, .int .i64 0, .int .i64 0, .slice none 0 0] [] [_, _, _, _] rfl AI rfl rfl (by repeat (first | exact trivial | refine ⟨⟨rfl, rfl, rfl⟩, ?_⟩)) rfl) rfl ?_
  refine Sa 0 [_, _, _, _] AI rfl (by simp [Value.oneCell']) ?_
  refine Aq (Ao (Ae (IN ?_)))
  exact Cl (vs := [_, _, _, _]) 1 rfl rfl underlying42 rfl AI rfl rfl (⟨rfl, _, _, rfl, by unfold NB; rw [if_neg hf]; rfl, by unfold NB; rw [if_neg hf]; exact OwnL.nil Br⟩)
 ·have hf : IsP p ∧ Es r c := of_decide_eq_true (by simpa only [Bool.not_eq_false'] using hf)
  have hm := Hg hf.2
  obtain ⟨n, hn⟩ : ∃ n : Nat, r * c = n := ⟨(r * c).toNat, by omega⟩
  refine Ai (Ab (Ax (Qm rfl (Qm rfl (Qm rfl (Qm rfl (Qm rfl (Qx (oM rfl) rfl (Eu (n := n) rfl underlying24 A8 rfl rfl rfl (by omega) (by omega) (by omega) (by omega) rfl rfl rfl (fun g19 => ?_))))))))))
  refine Qx (AT Gh [.int .i64 0, .int .i64 0, .int .i64 0, .slice none 0 0] [(0, _), (1, _), (2, _), (3, _)] [_, _, _, _] rfl AI rfl rfl (by repeat (first | exact trivial | refine ⟨⟨rfl, rfl, rfl⟩, ?_⟩)) rfl) rfl ?_
  refine Sa 1 [_, _, _, _] AI rfl (by simp [Value.oneCell']) ?_
  refine Aq (Ao ?_)
  exact Cl (vs := [_, _, _, _]) 1 rfl rfl underlying42 rfl AI rfl rfl (⟨rfl, _, _, rfl, by unfold NB; rw [if_pos hf], by unfold NB; rw [if_pos hf, hn]; exact OwnL.rep n 0 (by omega)⟩)
def Dl (i j : Nat) : Int := if i = j then 1 else 0
theorem NY (k : Nat) (i j : Nat) : DB (fun i j => if i = j ∧ i < k then 1 else 0) k k 1 i j = if i = j ∧ i < k + 1 then 1 else 0 := by
 unfold DB
 by_cases h : i = k ∧ j = k
 ·rw [if_pos h, if_pos (by omega)]
 ·rw [if_neg h]
  show (if i = j ∧ i < k then 1 else 0) = _
  by_cases h2 : i = j ∧ i < k
  ·rw [if_pos h2, if_pos (by omega)]
  ·rw [if_neg h2, if_neg (by omega)]
theorem J3 (p : Int) (n : Nat) (h : Hp) (hp : IsP p) (hn : n ≤ 400) : FnT Tryz.prog 87 #[.int .i64 p, .int .i64 n] h [] (fun v h' ms' => h = h' ∧ Ez v ms' (EM p n n Dl)) := by
 have hI : Dh p := ⟨by have := hp.1; omega, by have := hp.2.1; omega⟩
 refine Av func87 ntmps87 rfl rfl (fun w0 hw0 => ?_)
 simp only [A4]
 refine Ax (BZ [.int .i64 0, .int .i64 0, .int .i64 0, .slice none 0 0] rfl AI rfl rfl (fun g4 => B3 (Qm rfl (Qm rfl (Qm rfl (Qc call106 rfl (GB p n n h hI) (fun v h1 ms1 l1 hF => ?_)))))))
 obtain ⟨rfl, ev, m, rfl, rfl, hO⟩ := hF
 rw [DO hp hn hn] at hO ⊢
 have hO2 := hO.own.1
 have he1 : ev.oneCell' = true := (hO.rd (h := h) (ms := [m]) (List.Mem.head _)).rd.one
 refine BZ [.int .i64 0, .int .i64 0, .int .i64 0, .slice none 0 0] rfl AI rfl rfl (fun g5 => ?_)
 refine Sa 0 [_, _, _, _] AI rfl (by simp [he1]) ?_
 refine Aq (Ac (Ax (Qf Bh rfl (Ql rfl underlying3 (Cell.blk 0 rfl rfl) (Qm rfl (Aq (Ag ?_)))))))
 refine AD (fun q s h' ms' => ∃ (k : Nat) (m : Hp), q = n - k ∧ s = [(1, .int .i64 n), (4, .pointer (some ⟨g4, 0, none⟩)), (5, .pointer (some ⟨g5, 0, none⟩)), (12, .int .i64 n), (13, .int .i64 k)] ∧ h = h' ∧ ms' = [AX g5 42 [.int .i64 p, .int .i64 n, .int .i64 n, ev], m, AX g4 42 [.int .i64 0, .int .i64 0, .int .i64 0, .slice none 0 0]] ∧ k ≤ n ∧ OwnL cI 1 3 m ev (mat n n fun i j => if i = j ∧ i < k then 1 else 0))
  (n - 0) _ ⟨0, m, rfl, rfl, rfl, rfl, by omega, by rw [AO (g := fun _ _ => 0) (fun i _ j _ => if_neg (by omega))]; exact hO⟩ Qs ?_
 rintro q s h' ms' ⟨k, m, rfl, rfl, rfl, rfl, hk, hO⟩
 refine Ax (Qm rfl (Aq (Ac ?_)))
 refine AF rfl (fun hlt => ?_) (fun hlt => ?_)
 ·have hkn : k < n := by omega
  have hix := Cp hkn hkn
  have hl : (mat n n fun i j => if i = j ∧ i < k then 1 else 0).length = n * n := AY _ _ _
  have hkk : k * n ≤ 400 * 400 := Nat.mul_le_mul (by omega) hn
  refine Ai (Ab (Ac (Ag (Ax (Qm rfl (Qm rfl (IA (Qf Bc rfl (Ql rfl underlying24 (Cell.blk 0 rfl rfl) (Qm rfl (Qm rfl (Qx (oM rfl) rfl (Qm rfl (Qx (oA rfl) rfl (Qx (Ah (k * n + k) (hO.rd (List.Mem.tail _ (List.Mem.head _))).rd rfl underlying24 A8 rfl rfl (by omega) (by omega)) rfl (Bu 1 (k * n + k) hO rfl A8 rfl rfl rfl (by omega) rfl rfl (fun m' hO' => Ak (Aj (Ab (Ad (Qx (oA rfl) rfl (Qm rfl (Ak ?_)))))))))))))))))))))))
  refine Al (n - (k + 1)) _ (by omega) ⟨k + 1, m', rfl, rfl, rfl, rfl, by omega, ?_⟩ Qs
  rw [C4 _ hkn, AO (fun i _ j _ => NY k i j)] at hO'
  exact hO'
 ·refine Aw (Aa (Aa (Af (Ab (Ax (Qx (oG rfl underlying42 AI (Seg.blk 0 rfl)) rfl ?_))))))
  refine Sa 2 [_, _, _, _] AI rfl (by simp [he1]) ?_
  refine Aq (Ao (A5 ?_))
  exact Cl (vs := [_, _, _, _]) 1 rfl rfl underlying42 rfl AI rfl rfl (⟨rfl, ev, m, rfl, rfl, by rw [show k = n by omega, AO (g := Dl) (fun i hi j hj => by unfold Dl; simp only [hi, and_true])] at hO; exact hO⟩)
end Go.Proofs.YtdnelknieikbaaaGreat
namespace Go.Proofs.YtdnelknieikbaaaGreat
open Tryz
open Go.Eng Go.RowKit Go.Lin
theorem Px (p : Int) (h : Hp) (hI : Dh p) : FnT Tryz.prog 45 #[.int .i64 p] h [] (fun r _ _ => r = .bool (decide (IsP p))) := by
 have hI1 := hI.1
 have hI2 := hI.2
 refine Av func45 ntmps45 rfl rfl (fun w0 hw0 => ?_)
 simp only [A4]
 refine Ax (Qm rfl (Aq (Ac (Ax (Qm rfl (Qm rfl (Qm rfl ?_)))))))
 refine AR (t := 6) rfl (fun hs => ?_) (fun hs => ?_)
 ·refine Qk rfl (Qk rfl (Qm rfl (Aq (AU rfl (Ax (Qm rfl (Aq (Ao (Ae ?_)))))))))
  exact Am rfl rfl (by rw [decide_eq_false]; exact fun h => absurd h.1 (by omega))
 ·refine Qg (As rfl rfl) rfl (Qg (Dd rfl rfl rfl) rfl (Qm rfl (Aq ?_)))
  refine AF rfl (fun hs2 => ?_) (fun hs2 => ?_)
  ·refine Ac (Ad (Qm rfl (Aq (Ao (Ae ?_)))))
   exact Am rfl rfl (by rw [decide_eq_false]; exact fun h => absurd h.2.1 (by omega))
  ·refine Ai (Ab (Ac (Ax (Qm rfl (Aq (Ag ?_))))))
   refine AD (fun n s h' ms' => ∃ (k : Nat), n = 1000 - k ∧ s = [(0, .int .i64 p), (3, .int .i64 k)] ∧ h = h' ∧ ms' = [] ∧ 2 ≤ k ∧ k ≤ 1000 ∧ ∀ j, 2 ≤ j → j < k → p.toNat % j ≠ 0)
    (1000 - 2) _ ⟨2, rfl, rfl, rfl, rfl, by omega, by omega, fun j h1 h2 => by omega⟩ Qs ?_
   rintro n s h' ms' ⟨k, rfl, rfl, rfl, rfl, h2, hk, hno⟩
   refine Ac (Ax (Qm rfl (Qm rfl (Qm rfl (Aq ?_)))))
   refine AF rfl (fun hlt => ?_) (fun hlt => ?_)
   ·refine Ai (Ab (Ac (Ag (Ax (Qm rfl (Qm rfl (Qx (B0 rfl rfl rfl (by omega) (by omega)) rfl (Qm rfl (Aq ?_)))))))))
    have hm := NW (p := p) (by omega) k (by omega)
    refine AF rfl (fun hz => ?_) (fun hz => ?_)
    ·refine Ac (Ad (Qm rfl (Aq (Ao (Ap (Ae (Ae (Ap (Ae ?_)))))))))
     exact Am rfl rfl (by rw [decide_eq_false]; exact fun h => absurd (show p.toNat % k = 0 by omega) (h.2.2 k (by omega) h2))
    ·refine Ai (Aj (Ab (Ad (Qm rfl (Qx (oA rfl) rfl (Qm rfl (Ak ?_)))))))
     refine Al (1000 - (k + 1)) _ (by omega) ⟨k + 1, rfl, rfl, rfl, rfl, by omega, by omega, fun j h1 h3 => ?_⟩ Qs
     rcases (by omega : j < k ∨ j = k) with h4 | h4
     ·exact hno j h1 h4
     ·subst h4; omega
   ·refine Aw (Aa (Aa (Af (Ab (Ax (Qm rfl (Aq (Ao ?_))))))))
    exact Am rfl rfl (by rw [decide_eq_true]; exact ⟨by omega, by omega, fun j h1 h2 => hno j h2 (by omega)⟩)
theorem Is (p : Int) (h : Hp) (hI : Dh p) (ms : List Hp) : Dq Tryz.prog 45 #[.int .i64 p] h ms (.bool (decide (IsP p))) := Ds (Px p h hI) ms
theorem RY (r c : Int) (h : Hp) : FnT Tryz.prog 47 #[.int .i64 r, .int .i64 c] h [] (fun x _ _ => x = .bool (decide (Es r c))) := by
 refine Av func47 ntmps47 rfl rfl (fun w0 hw0 => ?_)
 simp only [A4]
 refine Ax (Qm rfl (B3 (Qm rfl (Qm rfl (Qm rfl ?_)))))
 refine AR (t := 7) rfl (fun hs => ?_) (fun hs => ?_)
 ·refine Qg (As rfl rfl) rfl (Qg (DU rfl rfl rfl) rfl (Qm rfl (Qm rfl ?_)))
  refine AR (t := 11) rfl (fun hs2 => ?_) (fun hs2 => ?_)
  ·refine Qg (As rfl rfl) rfl (Qg (JX rfl rfl rfl) rfl (Qm rfl (Qm rfl ?_)))
   refine AR (t := 15) rfl (fun hs3 => ?_) (fun hs3 => ?_)
   ·refine Qg (As rfl rfl) rfl (Qg (JX rfl rfl rfl) rfl (Qm rfl (Qm rfl (Aq (Ao ?_)))))
    exact Am rfl rfl (by congr 1; rw [decide_eq_decide]; unfold Es; omega)
   ·refine Qk rfl (Qk rfl (Qm rfl (Qm rfl (Aq (Ao ?_)))))
    exact Am rfl rfl (by rw [decide_eq_false]; unfold Es; omega)
  ·refine Qk rfl (Qk rfl (Qm rfl (Qm rfl (Qk rfl (Qk rfl (Qm rfl (Qm rfl (Aq (Ao ?_)))))))))
   exact Am rfl rfl (by rw [decide_eq_false]; unfold Es; omega)
 ·refine Qk rfl (Qk rfl (Qm rfl (Qm rfl (Qk rfl (Qk rfl (Qm rfl (Qm rfl (Qk rfl (Qk rfl (Qm rfl (Qm rfl (Aq (Ao ?_)))))))))))))
  exact Am rfl rfl (by rw [decide_eq_false]; unfold Es; omega)
theorem Nt (r c : Int) (h : Hp) (ms : List Hp) : Dq Tryz.prog 47 #[.int .i64 r, .int .i64 c] h ms (.bool (decide (Es r c))) := Ds (RY r c h) ms
theorem ER (M : FM) (ev : Value) (h : Hp) (hO : M.Ok) (hR : RdL cI 1 h [] ev M.e) : FnT Tryz.prog 46 #[.agg #[.int .i64 M.p, .int .i64 M.rows, .int .i64 M.cols, ev]] h [] (fun r _ _ => r = .bool (decide M.Rt)) := by
 have hl := hR.len_le
 refine Av func46 ntmps46 rfl rfl (fun w0 hw0 => ?_)
 simp only [A4]
 refine Ax ?_
 refine AS [_, _, _, _] rfl rfl (by rfl) rfl rfl rfl (fun g1 => ?_)
 refine Qm rfl (B3 (Qf BE rfl (Ql rfl underlying3 (Cell.blk 0 rfl rfl) (Qx (AG rfl call45 rfl (Is _ _ hO.p _)) rfl (Qm rfl (B3 (Qf Bh rfl (Ql rfl underlying3 (Cell.blk 0 rfl rfl) (Qf A0 rfl (Ql rfl underlying3 (Cell.blk 0 rfl rfl) (Qx (AG rfl call47 rfl (Nt _ _ _ _)) rfl (Qm rfl (Aq (Ac (Ax (Qm rfl (Qm rfl (Qm rfl ?_))))))))))))))))))
 refine CO (t := 16) rfl (fun hp => ?_) (fun hp => ?_)
 ·refine Qk rfl (Qk rfl (Qm rfl (Qm rfl (Qk rfl (Qk rfl (Qk rfl (Qk rfl (Qk rfl (Qk rfl (Qk rfl (Qk rfl (Qk rfl (Qm rfl (Aq (AU rfl (Ax (Qm rfl (Aq (Ao (Ae ?_))))))))))))))))))))
  exact Am rfl rfl (by rw [decide_eq_false]; exact fun hx => absurd hx.1 (by simpa using hp))
 ·have hp : IsP M.p := by simpa using hp
  refine Qg (As rfl rfl) rfl (Qg (CP rfl rfl) rfl (Qm rfl (Qm rfl ?_)))
  refine CO (t := 20) rfl (fun hf => ?_) (fun hf => ?_)
  ·refine Qk rfl (Qk rfl (Qk rfl (Qk rfl (Qk rfl (Qk rfl (Qk rfl (Qk rfl (Qk rfl (Qm rfl (Aq (AU rfl (Ax (Qm rfl (Aq (Ao (Ae ?_))))))))))))))))
   exact Am rfl rfl (by rw [decide_eq_false]; exact fun hx => absurd hx.2.1 (by simpa using hf))
  ·have hf : Es M.rows M.cols := by simpa using hf
   have hm := Hg hf
   refine Qg (oF Bc rfl) rfl (Qg (oL rfl underlying24 (Cell.blk 0 rfl rfl)) rfl (Qg (AJ hR.rd.any rfl underlying24 rfl) rfl (Qg (oF Bh rfl) rfl (Qg (oL rfl underlying3 (Cell.blk 0 rfl rfl)) rfl (Qg (oF A0 rfl) rfl (Qg (oL rfl underlying3 (Cell.blk 0 rfl rfl)) rfl (Qg (oM rfl) rfl (Qg (B4 rfl rfl rfl) rfl (Qm rfl (Aq ?_))))))))))
   refine AF rfl (fun hlen => ?_) (fun hlen => ?_)
   ·refine Ac (Ad (Qm rfl (Aq (Ao (Ae ?_)))))
    exact Am rfl rfl (by rw [decide_eq_false]; exact fun hx => hlen hx.2.2.1)
   ·have hlen : (M.e.length : Int) = M.rows * M.cols := Decidable.not_not.1 hlen
    refine Ai (Ab (Ac (Ax (Qm rfl (Aq (Ag ?_))))))
    refine AD (fun n s h' ms' => ∃ (k : Nat), n = M.e.length - k ∧ s = [(1, .pointer (some ⟨g1, 0, none⟩)), (5, .int .i64 k)] ∧ h = h' ∧ ms' = [AX g1 42 [.int .i64 M.p, .int .i64 M.rows, .int .i64 M.cols, ev]] ∧ k ≤ M.e.length ∧ ∀ x ∈ M.e.take k, 0 ≤ x ∧ x < M.p)
     (M.e.length - 0) _ ⟨0, rfl, rfl, rfl, rfl, by omega, by simp⟩ Qs ?_
    rintro n s h' ms' ⟨k, rfl, rfl, rfl, rfl, hk, hno⟩
    refine Ac (Ax (Qm rfl (Qf Bc rfl (Ql rfl underlying24 (Cell.blk 0 rfl rfl) (Qx (AJ hR.rd.any rfl underlying24 rfl) rfl (Qm rfl (Aq ?_)))))))
    refine AF rfl (fun hlt => ?_) (fun hlt => ?_)
    ·have hlt' : k < M.e.length := by omega
     refine Ai (Ab (Ac (Ag (Ac (BB 14 Cd (by kernel_rfl) rfl (Wf Bc rfl (Wl rfl underlying24 (Cell.blk 0 rfl rfl) (Wm rfl (AV (Ah _ hR.rd.any rfl underlying24 A8 rfl rfl rfl (by omega)) rfl rfl (Wl rfl underlying3 (hR.any.cell0 hlt' rfl) (Wm rfl (Wm rfl ?_))))))))))))
     refine DR (t := 44) rfl (fun hs => ?_) (fun hs => ?_)
     ·refine AN rfl rfl rfl rfl rfl (AN rfl rfl rfl rfl rfl (AN rfl rfl rfl rfl rfl (AN rfl rfl rfl rfl rfl (AN rfl rfl rfl rfl rfl (AN rfl rfl rfl rfl rfl (AN rfl rfl rfl rfl rfl (BC (Qk rfl (Qm rfl (Aq (AU rfl (Ax (Qm rfl (Aq (Ao (Ap (Ae (Ae (Ap (Ae ?_))))))))))))))))))))
      exact Am rfl rfl (by rw [decide_eq_false]; exact fun hx => by have := hx.2.2.2 _ (List.getElem_mem hlt'); omega)
     ·refine Bp (oF Bc rfl) rfl rfl rfl rfl (Bp (oL rfl underlying24 (Cell.blk 0 rfl rfl)) rfl rfl rfl rfl (Bp (As rfl rfl) rfl rfl rfl rfl (Bp (Ah _ hR.rd.any rfl underlying24 A8 rfl rfl rfl (by omega)) rfl rfl rfl rfl (Bp (oL rfl underlying3 (hR.any.cell0 hlt' rfl)) rfl rfl rfl rfl (Bp (oF BE rfl) rfl rfl rfl rfl (Bp (oL rfl underlying3 (Cell.blk 0 rfl rfl)) rfl rfl rfl rfl (BC (Qg (DU rfl rfl rfl) rfl (Qm rfl (Aq ?_))))))))))
      refine AF rfl (fun hs2 => ?_) (fun hs2 => ?_)
      ·refine Ac (Ad (Qm rfl (Aq (Ao (Ap (Ae (Ae (Ap (Ae ?_)))))))))
       exact Am rfl rfl (by rw [decide_eq_false]; exact fun hx => by have := hx.2.2.2 _ (List.getElem_mem hlt'); omega)
      ·refine Ai (Aj (Ab (Ad (Qm rfl (Qx (oA rfl) rfl (Qm rfl (Ak ?_)))))))
       refine Al (M.e.length - (k + 1)) _ (by omega) ⟨k + 1, rfl, rfl, rfl, rfl, by omega, ?_⟩ Qs
       intro x hx
       rw [List.take_add_one, List.getElem?_eq_getElem hlt'] at hx
       rcases List.mem_append.1 hx with hx | hx
       ·exact hno x hx
       ·simp at hx; subst hx; omega
    ·refine Aw (Aa (Aa (Af (Ab (Ax (Qm rfl (Aq (Ao ?_))))))))
     exact Am rfl rfl (by rw [decide_eq_true]; exact ⟨hp, hf, hlen, fun x hx => hno x (by rw [List.take_of_length_le (by omega)]; exact hx)⟩)
theorem FN (p r c : Int) (h : Hp) (hI : Dh p) : FnT Tryz.prog 23 #[.int .i64 p, .int .i64 r, .int .i64 c] h [] (fun v h' ms' => h = h' ∧ Ez v ms' (NB p r c)) := by
 refine Av func23 ntmps23 rfl rfl (fun w0 hw0 => ?_)
 simp only [A4]
 refine Ax (BZ [.int .i64 0, .int .i64 0, .int .i64 0, .slice none 0 0] rfl AI rfl rfl (fun g6 => B3 (Qm rfl (Qx (AG rfl call45 rfl (Is _ _ hI _)) rfl (Qm rfl (B3 (Qm rfl (Qm rfl (Qx (AG rfl call47 rfl (Nt _ _ _ _)) rfl (Qm rfl (Aq (Ac (Ax (Qm rfl (Qm rfl (Qm rfl ?_))))))))))))))))
 refine CO (t := 16) rfl (fun hp => ?_) (fun hp => ?_)
 ·have hp : ¬ IsP p := by simpa using hp
  refine Qk rfl (Qk rfl (Qm rfl (Aq (AU rfl (Ax ?_)))))
  refine Qx (AT Gh [.int .i64 0, .int .i64 0, .int .i64 0, .slice none 0 0] [] [_, _, _, _] rfl AI rfl rfl (by repeat (first | exact trivial | refine ⟨⟨rfl, rfl, rfl⟩, ?_⟩)) rfl) rfl ?_
  refine Sa 0 [_, _, _, _] AI rfl (by simp [Value.oneCell']) ?_
  refine Aq (Ao (Ae (IN ?_)))
  exact Cl (vs := [_, _, _, _]) 1 rfl rfl underlying42 rfl AI rfl rfl (⟨rfl, _, _, rfl, by unfold NB; rw [if_neg (fun hx => hp hx.1)]; rfl, by unfold NB; rw [if_neg (fun hx => hp hx.1)]; exact OwnL.nil Br⟩)
 ·have hp : IsP p := by simpa using hp
  refine Qg (As rfl rfl) rfl (Qg (CP rfl rfl) rfl (Qm rfl (Aq ?_)))
  refine BJ rfl (fun hf => ?_) (fun hf => ?_)
  ·have hf : ¬ Es r c := by simpa using hf
   refine Ax ?_
   refine Qx (AT Gh [.int .i64 0, .int .i64 0, .int .i64 0, .slice none 0 0] [] [_, _, _, _] rfl AI rfl rfl (by repeat (first | exact trivial | refine ⟨⟨rfl, rfl, rfl⟩, ?_⟩)) rfl) rfl ?_
   refine Sa 0 [_, _, _, _] AI rfl (by simp [Value.oneCell']) ?_
   refine Aq (Ao (Ae (IN ?_)))
   exact Cl (vs := [_, _, _, _]) 1 rfl rfl underlying42 rfl AI rfl rfl (⟨rfl, _, _, rfl, by unfold NB; rw [if_neg (fun hx => hf hx.2)]; rfl, by unfold NB; rw [if_neg (fun hx => hf hx.2)]; exact OwnL.nil Br⟩)
  ·have hf : Es r c := by simpa using hf
   have hm := Hg hf
   obtain ⟨n, hn⟩ : ∃ n : Nat, r * c = n := ⟨(r * c).toNat, by omega⟩
   refine Ai (Ab (Ax (Qm rfl (Qm rfl (Qm rfl (Qm rfl (Qm rfl (Qx (oM rfl) rfl (Eu (n := n) rfl underlying24 A8 rfl rfl rfl (by omega) (by omega) (by omega) (by omega) rfl rfl rfl (fun g27 => ?_))))))))))
   refine Qx (AT Gh [.int .i64 0, .int .i64 0, .int .i64 0, .slice none 0 0] [(0, _), (1, _), (2, _), (3, _)] [_, _, _, _] rfl AI rfl rfl (by repeat (first | exact trivial | refine ⟨⟨rfl, rfl, rfl⟩, ?_⟩)) rfl) rfl ?_
   refine Sa 1 [_, _, _, _] AI rfl (by simp [Value.oneCell']) ?_
   refine Aq (Ao ?_)
   exact Cl (vs := [_, _, _, _]) 1 rfl rfl underlying42 rfl AI rfl rfl (⟨rfl, _, _, rfl, by unfold NB; rw [if_pos ⟨hp, hf⟩], by unfold NB; rw [if_pos ⟨hp, hf⟩, hn]; exact OwnL.rep n 0 (by omega)⟩)
theorem Nc (p : Int) (n : Nat) (h : Hp) (hp : IsP p) (hn : n ≤ 400) : FnT Tryz.prog 20 #[.int .i64 p, .int .i64 n] h [] (fun v h' ms' => h = h' ∧ Ez v ms' (EM p n n Dl)) := by
 have hI : Dh p := ⟨by have := hp.1; omega, by have := hp.2.1; omega⟩
 refine Av func20 ntmps20 rfl rfl (fun w0 hw0 => ?_)
 simp only [A4]
 refine Ax (BZ [.int .i64 0, .int .i64 0, .int .i64 0, .slice none 0 0] rfl AI rfl rfl (fun g4 => B3 (Qm rfl (Qm rfl (Qm rfl (Qc call23 rfl (FN p n n h hI) (fun v h1 ms1 l1 hF => ?_)))))))
 obtain ⟨rfl, ev, m, rfl, rfl, hO⟩ := hF
 rw [DO hp hn hn] at hO ⊢
 have hO2 := hO.own.1
 have he1 : ev.oneCell' = true := (hO.rd (h := h) (ms := [m]) (List.Mem.head _)).rd.one
 refine BZ [.int .i64 0, .int .i64 0, .int .i64 0, .slice none 0 0] rfl AI rfl rfl (fun g5 => ?_)
 refine Sa 0 [_, _, _, _] AI rfl (by simp [he1]) ?_
 refine Aq (Ac (Ax (Qm rfl (Aq (Ag ?_)))))
 refine AD (fun q s h' ms' => ∃ (k : Nat) (m : Hp), q = n - k ∧ s = [(1, .int .i64 n), (4, .pointer (some ⟨g4, 0, none⟩)), (5, .pointer (some ⟨g5, 0, none⟩)), (6, .int .i64 k)] ∧ h = h' ∧ ms' = [AX g5 42 [.int .i64 p, .int .i64 n, .int .i64 n, ev], m, AX g4 42 [.int .i64 0, .int .i64 0, .int .i64 0, .slice none 0 0]] ∧ k ≤ n ∧ OwnL cI 1 3 m ev (mat n n fun i j => if i = j ∧ i < k then 1 else 0))
  (n - 0) _ ⟨0, m, rfl, rfl, rfl, rfl, by omega, by rw [AO (g := fun _ _ => 0) (fun i _ j _ => if_neg (by omega))]; exact hO⟩ Qs ?_
 rintro q s h' ms' ⟨k, m, rfl, rfl, rfl, rfl, hk, hO⟩
 refine Ac (Ax (Qm rfl (Qf Bh rfl (Ql rfl underlying3 (Cell.blk 0 rfl rfl) (Qm rfl (Aq ?_))))))
 refine AF rfl (fun hlt => ?_) (fun hlt => ?_)
 ·have hkn : k < n := by omega
  have hix := Cp hkn hkn
  have hl : (mat n n fun i j => if i = j ∧ i < k then 1 else 0).length = n * n := AY _ _ _
  have hkk : k * n ≤ 400 * 400 := Nat.mul_le_mul (by omega) hn
  refine Ai (Ab (Ac (Ag (Ad (Qf Bc rfl (Ql rfl underlying24 (Cell.blk 0 rfl rfl) (Qm rfl (Qm rfl (Qx (oM rfl) rfl (Qm rfl (Qx (oA rfl) rfl (Qx (Ah (k * n + k) (hO.rd (List.Mem.tail _ (List.Mem.head _))).rd rfl underlying24 A8 rfl rfl (by omega) (by omega)) rfl (Bu 1 (k * n + k) hO rfl A8 rfl rfl rfl (by omega) rfl rfl (fun m' hO' => Ak (Aj (Ab (Ad (Qm rfl (Qx (oA rfl) rfl (Qm rfl (Ak ?_)))))))))))))))))))))
  refine Al (n - (k + 1)) _ (by omega) ⟨k + 1, m', rfl, rfl, rfl, rfl, by omega, ?_⟩ Qs
  rw [C4 _ hkn, AO (fun i _ j _ => NY k i j)] at hO'
  exact hO'
 ·refine Aw (Aa (Aa (Af (Ab (Ax (Qx (oG rfl underlying42 AI (Seg.blk 0 rfl)) rfl ?_))))))
  refine Sa 2 [_, _, _, _] AI rfl (by simp [he1]) ?_
  refine Aq (Ao (A5 ?_))
  exact Cl (vs := [_, _, _, _]) 1 rfl rfl underlying42 rfl AI rfl rfl (⟨rfl, ev, m, rfl, rfl, by rw [show k = n by omega, AO (g := Dl) (fun i hi j hj => by unfold Dl; simp only [hi, and_true])] at hO; exact hO⟩)
end Go.Proofs.YtdnelknieikbaaaGreat
namespace Go.Proofs.YtdnelknieikbaaaGreat
open Tryz
open Go.Eng Go.RowKit Go.Lin
variable {p : Int} {r c : Nat} {f : Nat → Nat → Int} {ev : Value} {h : Hp}
def UO (p : Int) (r c : Nat) (f : Nat → Nat → Int) : Prop := ∀ i, i < r → ∀ j, j < c → 0 ≤ f i j ∧ f i j < p
structure RtM (p : Int) (r c : Nat) (f : Nat → Nat → Int) : Prop where
 pr : IsP p
 rl : r ≤ 400
 cl : c ≤ 400
 en : UO p r c f
theorem RtM.bd (R : RtM p r c f) : 2 ≤ p ∧ p ≤ 997 := ⟨R.pr.1, R.pr.2.1⟩
theorem RtM.i64 (R : RtM p r c f) : Dh p := ⟨by have := R.bd; omega, by have := R.bd; omega⟩
theorem RtM.ok (R : RtM p r c f) : (EM p r c f).Ok := ⟨R.i64, ⟨by have := R.rl; show _ ≤ (r : Int); omega, by have := R.rl; show (r : Int) ≤ _; omega⟩, ⟨by have := R.cl; show _ ≤ (c : Int); omega, by have := R.cl; show (c : Int) ≤ _; omega⟩⟩
theorem RtM.rt (R : RtM p r c f) : (EM p r c f).Rt := by
 have h1 := R.rl
 have h2 := R.cl
 refine ⟨R.pr, by unfold Es EM; simp only; omega, by simp [EM, AY], fun x hx => ?_⟩
 obtain ⟨i, j, hi, hj, rfl⟩ := mem_mat.1 hx
 exact R.en i hi j hj
theorem Tv (M N : FM) (ev eu : Value) (h : Hp) (hOM : M.Ok) (hON : N.Ok) (hRM : RdL cI 1 h [] ev M.e) (hRN : RdL cI 1 h [] eu N.e) : FnT Tryz.prog 121 #[.agg #[.int .i64 M.p, .int .i64 M.rows, .int .i64 M.cols, ev], .agg #[.int .i64 N.p, .int .i64 N.rows, .int .i64 N.cols, eu]] h [] (fun r _ _ => r = .bool (decide (M.Rt ∧ N.Rt ∧ M.p = N.p))) := by
 refine Av func121 ntmps121 rfl rfl (fun w0 hw0 => ?_)
 simp only [A4]
 refine Ax ?_
 refine AS [_, _, _, _] rfl rfl (by rfl) rfl rfl rfl (fun g2 => ?_)
 refine AS [_, _, _, _] rfl rfl (by rfl) rfl rfl rfl (fun g3 => ?_)
 refine Qm rfl (B3 (Qx (oG rfl underlying42 AI (Seg.blk 1 rfl)) rfl (Qx (AG rfl call73 rfl (Ds (GX M ev h hOM hRM) _)) rfl (Qm rfl ?_))))
 refine AR (t := 7) rfl (fun hs => ?_) (fun hs => ?_)
 ·refine Qg (oG rfl underlying42 AI (Seg.blk 0 rfl)) rfl (Qg (AG rfl call73 rfl (Ds (GX N eu h hON hRN) _)) rfl (Qm rfl (Qm rfl ?_)))
  refine AR (t := 11) rfl (fun hs2 => ?_) (fun hs2 => ?_)
  ·refine Qg (oF BE rfl) rfl (Qg (oL rfl underlying3 (Cell.blk 1 rfl rfl)) rfl (Qg (oF BE rfl) rfl (Qg (oL rfl underlying3 (Cell.blk 0 rfl rfl)) rfl (Qg (EJ rfl rfl rfl) rfl (Qm rfl (Qm rfl (Aq (Ao ?_))))))))
   exact Am rfl rfl (by congr 1; rw [decide_eq_decide]; simp [hs, hs2])
  ·refine Qk rfl (Qk rfl (Qk rfl (Qk rfl (Qk rfl (Qm rfl (Qm rfl (Aq (Ao ?_))))))))
   exact Am rfl rfl (by rw [decide_eq_false]; exact fun hx => hs2 hx.2.1)
 ·refine Qk rfl (Qk rfl (Qm rfl (Qm rfl (Qk rfl (Qk rfl (Qk rfl (Qk rfl (Qk rfl (Qm rfl (Qm rfl (Aq (Ao ?_))))))))))))
  exact Am rfl rfl (by rw [decide_eq_false]; exact fun hx => hs hx.1)
theorem RO (M N : FM) (ev eu : Value) (h : Hp) (hOM : M.Ok) (hON : N.Ok) (hRM : RdL cI 1 h [] ev M.e) (hRN : RdL cI 1 h [] eu N.e) : FnT Tryz.prog 44 #[.agg #[.int .i64 M.p, .int .i64 M.rows, .int .i64 M.cols, ev], .agg #[.int .i64 N.p, .int .i64 N.rows, .int .i64 N.cols, eu]] h [] (fun r _ _ => r = .bool (decide (M.Rt ∧ N.Rt ∧ M.p = N.p))) := by
 refine Av func44 ntmps44 rfl rfl (fun w0 hw0 => ?_)
 simp only [A4]
 refine Ax ?_
 refine AS [_, _, _, _] rfl rfl (by rfl) rfl rfl rfl (fun g2 => ?_)
 refine AS [_, _, _, _] rfl rfl (by rfl) rfl rfl rfl (fun g3 => ?_)
 refine Qm rfl (B3 (Qx (oG rfl underlying42 AI (Seg.blk 1 rfl)) rfl (Qx (AG rfl call46 rfl (Ds (ER M ev h hOM hRM) _)) rfl (Qm rfl (B3 (Qx (oG rfl underlying42 AI (Seg.blk 0 rfl)) rfl (Qx (AG rfl call46 rfl (Ds (ER N eu h hON hRN) _)) rfl (Qm rfl (B3 (Qm rfl (Qm rfl ?_)))))))))))
 refine AR (t := 12) rfl (fun hs => ?_) (fun hs => ?_)
 ·refine Qg (As rfl rfl) rfl (Qm rfl (Qm rfl ?_))
  refine AR (t := 15) rfl (fun hs2 => ?_) (fun hs2 => ?_)
  ·refine Qg (oF BE rfl) rfl (Qg (oL rfl underlying3 (Cell.blk 1 rfl rfl)) rfl (Qg (oF BE rfl) rfl (Qg (oL rfl underlying3 (Cell.blk 0 rfl rfl)) rfl (Qg (EJ rfl rfl rfl) rfl (Qm rfl (Qm rfl (Aq (Ao ?_))))))))
   exact Am rfl rfl (by congr 1; rw [decide_eq_decide]; simp [hs, hs2])
  ·refine Qk rfl (Qk rfl (Qk rfl (Qk rfl (Qk rfl (Qm rfl (Qm rfl (Aq (Ao ?_))))))))
   exact Am rfl rfl (by rw [decide_eq_false]; exact fun hx => hs2 hx.2.1)
 ·refine Qk rfl (Qm rfl (Qm rfl (Qk rfl (Qk rfl (Qk rfl (Qk rfl (Qk rfl (Qm rfl (Qm rfl (Aq (Ao ?_)))))))))))
  exact Am rfl rfl (by rw [decide_eq_false]; exact fun hx => hs hx.1)
theorem MT {r' c' : Nat} {g : Nat → Nat → Int} {eu : Value} (R : RtM p r c f) (S : RtM p r' c' g) (hR : RdL cI 1 h [] ev (mat r c f)) (hS : RdL cI 1 h [] eu (mat r' c' g)) (ms : List Hp) : Dq Tryz.prog 121 #[.agg #[.int .i64 p, .int .i64 r, .int .i64 c, ev], .agg #[.int .i64 p, .int .i64 r', .int .i64 c', eu]] h ms (.bool true) := by
 have := Ds (Tv (EM p r c f) (EM p r' c' g) ev eu h R.ok S.ok hR hS) ms
 rw [decide_eq_true (show (EM p r c f).Rt ∧ (EM p r' c' g).Rt ∧ (EM p r c f).p = (EM p r' c' g).p from ⟨R.rt, S.rt, rfl⟩)] at this
 exact this
theorem TP {r' c' : Nat} {g : Nat → Nat → Int} {eu : Value} (R : RtM p r c f) (S : RtM p r' c' g) (hR : RdL cI 1 h [] ev (mat r c f)) (hS : RdL cI 1 h [] eu (mat r' c' g)) (ms : List Hp) : Dq Tryz.prog 44 #[.agg #[.int .i64 p, .int .i64 r, .int .i64 c, ev], .agg #[.int .i64 p, .int .i64 r', .int .i64 c', eu]] h ms (.bool true) := by
 have := Ds (RO (EM p r c f) (EM p r' c' g) ev eu h R.ok S.ok hR hS) ms
 rw [decide_eq_true (show (EM p r c f).Rt ∧ (EM p r' c' g).Rt ∧ (EM p r c f).p = (EM p r' c' g).p from ⟨R.rt, S.rt, rfl⟩)] at this
 exact this
theorem Nv (R : RtM p r c f) (hR : RdL cI 1 h [] ev (mat r c f)) (ms : List Hp) : Dq Tryz.prog 73 #[.agg #[.int .i64 p, .int .i64 r, .int .i64 c, ev]] h ms (.bool true) := by
 have := Ds (GX (EM p r c f) ev h R.ok hR) ms
 rw [decide_eq_true R.rt] at this
 exact this
theorem Sn (R : RtM p r c f) (hR : RdL cI 1 h [] ev (mat r c f)) (ms : List Hp) : Dq Tryz.prog 46 #[.agg #[.int .i64 p, .int .i64 r, .int .i64 c, ev]] h ms (.bool true) := by
 have := Ds (ER (EM p r c f) ev h R.ok hR) ms
 rw [decide_eq_true R.rt] at this
 exact this
end Go.Proofs.YtdnelknieikbaaaGreat
namespace Go.Proofs.YtdnelknieikbaaaGreat
open Tryz
open Go.Eng Go.RowKit Go.Lin
def Fb (p : Int) (k : Nat) (f g : Nat → Nat → Int) (i j : Nat) : Int := sm k (fun t => f i t * g t j) % p
def part (p : Int) (k : Nat) (f g : Nat → Nat → Int) (i t j a b : Nat) : Int := sm (if a < i then k else if a = i then (if b < j then t + 1 else t) else 0) (fun t => f a t * g t b) % p
theorem JH (p : Int) (k : Nat) (f g : Nat → Nat → Int) (a b : Nat) : part p k f g 0 0 0 a b = 0 := by
 unfold part
 rw [if_neg (by omega)]
 by_cases h : a = 0
 ·rw [if_pos h, if_neg (by omega)]; exact Int.zero_emod p
 ·rw [if_neg h]; exact Int.zero_emod p
theorem JC (p : Int) (k : Nat) (f g : Nat → Nat → Int) (i t j a b : Nat) : DB (part p k f g i t j) i j ((part p k f g i t j i j + f i t * g t j) % p) a b = part p k f g i t (j + 1) a b := by
 unfold DB
 by_cases h : a = i ∧ b = j
 ·obtain ⟨rfl, rfl⟩ := h
  rw [if_pos ⟨rfl, rfl⟩]
  unfold part
  rw [if_neg (by omega), if_pos rfl, if_neg (by omega), if_neg (by omega), if_pos rfl, if_pos (by omega), Int.emod_add_emod]
  rfl
 ·rw [if_neg h]
  unfold part
  by_cases h1 : a < i
  ·rw [if_pos h1, if_pos h1]
  ·rw [if_neg h1, if_neg h1]
   by_cases h2 : a = i
   ·rw [if_pos h2, if_pos h2]
    by_cases h3 : b < j
    ·rw [if_pos h3, if_pos (by omega)]
    ·rw [if_neg h3, if_neg (by omega)]
   ·rw [if_neg h2, if_neg h2]
theorem JI (p : Int) (k : Nat) (f g : Nat → Nat → Int) (i t c a b : Nat) (hb : b < c) : part p k f g i t c a b = part p k f g i (t + 1) 0 a b := by
 unfold part
 by_cases h1 : a < i
 ·rw [if_pos h1, if_pos h1]
 ·rw [if_neg h1, if_neg h1]
  by_cases h2 : a = i
  ·rw [if_pos h2, if_pos h2, if_pos hb, if_neg (by omega)]
  ·rw [if_neg h2, if_neg h2]
theorem OU (p : Int) (k : Nat) (f g : Nat → Nat → Int) (i t a b : Nat) (hz : f i t = 0) : part p k f g i t 0 a b = part p k f g i (t + 1) 0 a b := by
 unfold part
 by_cases h1 : a < i
 ·rw [if_pos h1, if_pos h1]
 ·rw [if_neg h1, if_neg h1]
  by_cases h2 : a = i
  ·subst h2
   rw [if_pos rfl, if_pos rfl, if_neg (by omega), if_neg (by omega)]
   show _ = (sm t _ + f a t * g t b) % p
   rw [hz, Int.zero_mul, Int.add_zero]
  ·rw [if_neg h2, if_neg h2]
theorem Lb (p : Int) (k : Nat) (f g : Nat → Nat → Int) (i a b : Nat) : part p k f g i k 0 a b = part p k f g (i + 1) 0 0 a b := by
 unfold part
 by_cases h1 : a < i
 ·rw [if_pos h1, if_pos (by omega)]
 ·rw [if_neg h1]
  by_cases h2 : a = i
  ·rw [if_pos h2, if_neg (by omega), if_pos (by omega)]
  ·rw [if_neg h2, if_neg (by omega)]
   by_cases h3 : a = i + 1
   ·rw [if_pos h3, if_neg (by omega)]
   ·rw [if_neg h3]
theorem Lr (p : Int) (k : Nat) (f g : Nat → Nat → Int) (r a b : Nat) (ha : a < r) : part p k f g r 0 0 a b = Fb p k f g a b := by
 unfold part Fb
 rw [if_pos ha]
theorem NI {p : Int} (hp : 0 < p) (k : Nat) (f g : Nat → Nat → Int) (i t j a b : Nat) : 0 ≤ part p k f g i t j a b ∧ part p k f g i t j a b < p :=
 ⟨Int.emod_nonneg _ (by omega), Int.emod_lt_of_pos _ hp⟩
theorem DF {a b p : Int} (ha : 0 ≤ a ∧ a < p) (hb : 0 ≤ b ∧ b < p) (hp : p ≤ 997) : 0 ≤ a * b ∧ a * b ≤ 994009 := by
 refine ⟨Int.mul_nonneg ha.1 hb.1, ?_⟩
 have := Int.mul_le_mul (show a ≤ 997 by omega) (show b ≤ 997 by omega) hb.1 (by omega : (0 : Int) ≤ 997)
 omega
theorem Gq (p : Int) (r k c : Nat) (f g : Nat → Nat → Int) (ev eu : Value) (h : Hp) (R : RtM p r k f) (S : RtM p k c g) (hR : RdL cI 1 h [] ev (mat r k f)) (hS : RdL cI 1 h [] eu (mat k c g)) :
  FnT Tryz.prog 98 #[.agg #[.int .i64 p, .int .i64 r, .int .i64 k, ev], .agg #[.int .i64 p, .int .i64 k, .int .i64 c, eu]] h [] (fun x h' ms' => h = h' ∧ ∃ v, x = .tuple #[v, .bool true] ∧ Ez v ms' (EM p r c (Fb p k f g))) := by
 have hb := R.bd
 have rl := R.rl
 have kl := R.cl
 have cl := S.cl
 refine Av func98 ntmps98 rfl rfl (fun w0 hw0 => ?_)
 simp only [A4]
 refine Ax ?_
 refine AS [_, _, _, _] rfl rfl (by rfl) rfl rfl rfl (fun g2 => ?_)
 refine AS [_, _, _, _] rfl rfl (by rfl) rfl rfl rfl (fun g3 => ?_)
 refine BZ [.int .i64 0, .int .i64 0, .int .i64 0, .slice none 0 0] rfl AI rfl rfl (fun g4 => Qm rfl (Aq (Ac (Ax (Qx (oG rfl underlying42 AI (Seg.blk 2 rfl)) rfl (Qx (oG rfl underlying42 AI (Seg.blk 1 rfl)) rfl (Qx (AG rfl call121 rfl (MT R S hR hS _)) rfl (Qm rfl (Qm rfl (Qg (oF A0 rfl) rfl (Qg (oL rfl underlying3 (Cell.blk 2 rfl rfl)) rfl (Qg (oF Bh rfl) rfl (Qg (oL rfl underlying3 (Cell.blk 1 rfl rfl)) rfl (Qg (B4 rfl rfl rfl) rfl (Qm rfl (Aq (AF rfl (fun hc => absurd hc (by omega)) (fun hc => Ai (Ab (Ax (Qf BE rfl (Ql rfl underlying3 (Cell.blk 2 rfl rfl) (Qf Bh rfl (Ql rfl underlying3 (Cell.blk 2 rfl rfl) (Qf A0 rfl (Ql rfl underlying3 (Cell.blk 1 rfl rfl) (Qc call106 rfl (GB p r c h R.i64) (fun v h1 ms1 l1 hF => ?_))))))))))))))))))))))))))))
 obtain ⟨rfl, ew, m, rfl, rfl, hO⟩ := hF
 rw [DO R.pr rl cl] at hO ⊢
 have he1 : ew.oneCell' = true := (hO.rd (h := h) (ms := [m]) (List.Mem.head _)).rd.one
 refine BZ [.int .i64 0, .int .i64 0, .int .i64 0, .slice none 0 0] rfl AI rfl rfl (fun g6 => ?_)
 refine Sa 0 [_, _, _, _] AI rfl (by simp [he1]) ?_
 refine Aq (Ac (Ax (Qf Bh rfl (Ql rfl underlying3 (Cell.blk 4 rfl rfl) (Qm rfl (Aq (Ag ?_)))))))
 refine AD (fun q s h' ms' => ∃ (i : Nat) (m : Hp), q = r - i ∧ s = [(2, .pointer (some ⟨g2, 0, none⟩)), (3, .pointer (some ⟨g3, 0, none⟩)), (4, .pointer (some ⟨g4, 0, none⟩)), (6, .pointer (some ⟨g6, 0, none⟩)), (33, .int .i64 r), (34, .int .i64 i)] ∧ h = h' ∧ ms' = [AX g6 42 [.int .i64 p, .int .i64 r, .int .i64 c, ew], m, AX g4 42 [.int .i64 0, .int .i64 0, .int .i64 0, .slice none 0 0], AX g3 42 [.int .i64 p, .int .i64 k, .int .i64 c, eu], AX g2 42 [.int .i64 p, .int .i64 r, .int .i64 k, ev]] ∧ i ≤ r ∧ OwnL cI 1 3 m ew (mat r c (part p k f g i 0 0)))
  (r - 0) _ ⟨0, m, rfl, rfl, rfl, rfl, by omega, by rw [AO (g := fun _ _ => 0) (fun a _ b _ => JH p k f g a b)]; exact hO⟩ Qs ?_
 rintro q s h' ms' ⟨i, m, rfl, rfl, rfl, rfl, hi, hO⟩
 refine Ax (Qm rfl (Aq (Ac ?_)))
 refine AF rfl (fun hlt => ?_) (fun hlt => ?_)
 ·have hir : i < r := by omega
  have e1 : (i + 1) * k = i * k + k := by rw [Nat.add_mul, Nat.one_mul]
  have b1 : (i + 1) * k ≤ r * k := Nat.mul_le_mul_right k hir
  have b2 : r * k ≤ 400 * 400 := Nat.mul_le_mul rl kl
  have el : (mat r k f).length = r * k := AY _ _ _
  have e3 : ((i : Int) + 1) * k = i * k + k := by rw [Int.add_mul, Int.one_mul]
  refine Ai (Ab (Ac (Ag (Ax (Qm rfl (Qm rfl (B3 (Qf Bc rfl (Ql rfl underlying24 (Cell.blk 4 rfl rfl) (Qm rfl (Qf A0 rfl (Ql rfl underlying3 (Cell.blk 4 rfl rfl) (Qx (oM rfl) rfl (Qm rfl (Qx (oA rfl) rfl (Qf A0 rfl (Ql rfl underlying3 (Cell.blk 4 rfl rfl) (Qx (oM rfl) rfl (Qx (C5 (i * k) ((i + 1) * k) hR.rd.any rfl underlying24 A8 rfl rfl rfl (by omega) (by omega) (by omega) (by omega)) rfl (Qx (AJ (hR.row hir).rd.any rfl underlying24 rfl) rfl (Qm rfl (Aq (Ag ?_)))))))))))))))))))))))
  refine AD (fun q s h' ms' => ∃ (t : Nat) (m : Hp), q = k - t ∧ s = [(2, .pointer (some ⟨g2, 0, none⟩)), (3, .pointer (some ⟨g3, 0, none⟩)), (4, .pointer (some ⟨g4, 0, none⟩)), (6, .pointer (some ⟨g6, 0, none⟩)), (7, .int .i64 i), (33, .int .i64 r), (34, .int .i64 i), (48, Ch 1 ev (i * k) ((i + 1) * k)), (49, .int .i64 ((vec k (f i)).length : Nat)), (50, .int .i64 t)] ∧ h = h' ∧ ms' = [AX g6 42 [.int .i64 p, .int .i64 r, .int .i64 c, ew], m, AX g4 42 [.int .i64 0, .int .i64 0, .int .i64 0, .slice none 0 0], AX g3 42 [.int .i64 p, .int .i64 k, .int .i64 c, eu], AX g2 42 [.int .i64 p, .int .i64 r, .int .i64 k, ev]] ∧ t ≤ k ∧ OwnL cI 1 3 m ew (mat r c (part p k f g i t 0)))
   (k - 0) _ ⟨0, m, rfl, rfl, rfl, rfl, by omega, hO⟩ Qs ?_
  rintro q s h' ms' ⟨t, m, rfl, rfl, rfl, rfl, ht, hO⟩
  have ek := AQ k (f i)
  refine Ax (Qm rfl (Aq (Ac ?_)))
  refine AF rfl (fun hlt2 => ?_) (fun hlt2 => ?_)
  ·have htk : t < k := by omega
   have d1 : (t + 1) * c = t * c + c := by rw [Nat.add_mul, Nat.one_mul]
   have c1 : (t + 1) * c ≤ k * c := Nat.mul_le_mul_right c htk
   have c2 : k * c ≤ 400 * 400 := Nat.mul_le_mul kl cl
   have el2 : (mat k c g).length = k * c := AY _ _ _
   have d3 : ((t : Int) + 1) * c = t * c + c := by rw [Int.add_mul, Int.one_mul]
   refine Ai (Ab (Ac (Ag (Ax (Qm rfl (Qx (Ah _ (hR.row hir).rd.any rfl underlying24 A8 rfl rfl rfl (by omega)) rfl (Ql rfl underlying3 ((hR.row hir).any.ev htk) (Qm rfl (Qm rfl (B3 (Qf Bc rfl (Ql rfl underlying24 (Cell.blk 3 rfl rfl) (Qm rfl (Qf A0 rfl (Ql rfl underlying3 (Cell.blk 3 rfl rfl) (Qx (oM rfl) rfl (Qm rfl (Qx (oA rfl) rfl (Qf A0 rfl (Ql rfl underlying3 (Cell.blk 3 rfl rfl) (Qx (oM rfl) rfl (Qx (C5 (t * c) ((t + 1) * c) hS.rd.any rfl underlying24 A8 rfl rfl rfl (by omega) (by omega) (by omega) (by omega)) rfl (Qx (AJ (hS.row htk).rd.any rfl underlying24 rfl) rfl (Qm rfl (Aq (Ag ?_))))))))))))))))))))))))))
   refine AD (fun q s h' ms' => ∃ (j : Nat) (m : Hp), q = c - j ∧ s = [(2, .pointer (some ⟨g2, 0, none⟩)), (3, .pointer (some ⟨g3, 0, none⟩)), (4, .pointer (some ⟨g4, 0, none⟩)), (6, .pointer (some ⟨g6, 0, none⟩)), (7, .int .i64 i), (9, .int .i64 (f i t)), (33, .int .i64 r), (34, .int .i64 i), (48, Ch 1 ev (i * k) ((i + 1) * k)), (49, .int .i64 ((vec k (f i)).length : Nat)), (50, .int .i64 t), (66, Ch 1 eu (t * c) ((t + 1) * c)), (67, .int .i64 ((vec c (g t)).length : Nat)), (68, .int .i64 j)] ∧ h = h' ∧ ms' = [AX g6 42 [.int .i64 p, .int .i64 r, .int .i64 c, ew], m, AX g4 42 [.int .i64 0, .int .i64 0, .int .i64 0, .slice none 0 0], AX g3 42 [.int .i64 p, .int .i64 k, .int .i64 c, eu], AX g2 42 [.int .i64 p, .int .i64 r, .int .i64 k, ev]] ∧ j ≤ c ∧ OwnL cI 1 3 m ew (mat r c (part p k f g i t j)))
    (c - 0) _ ⟨0, m, rfl, rfl, rfl, rfl, by omega, hO⟩ Qs ?_
   rintro q s h' ms' ⟨j, m, rfl, rfl, rfl, rfl, hj, hO⟩
   have ec := AQ c (g t)
   refine Ax (Qm rfl (Aq (Ac ?_)))
   refine AF rfl (fun hlt3 => ?_) (fun hlt3 => ?_)
   ·have hjc : j < c := by omega
    have hix := Cp hir hjc
    have hrc : r * c ≤ 400 * 400 := Nat.mul_le_mul rl cl
    have el3' : (mat r c (part p k f g i t j)).length = r * c := AY _ _ _
    have hbp := NI (show 0 < p by omega) k f g i t j i j
    have hbm := DF (R.en i hir t htk) (S.en t htk j hjc) hb.2
    have hfb := R.en i hir t htk
    have hgb := S.en t htk j hjc
    refine Ai (Ab (Ac (Ag (Ax (Qm rfl (Qx (Ah _ (hS.row htk).rd.any rfl underlying24 A8 rfl rfl rfl (by omega)) rfl (Ql rfl underlying3 ((hS.row htk).any.ev hjc) (Qm rfl (Qm rfl (B3 (Qm rfl (Qf A0 rfl (Ql rfl underlying3 (Cell.blk 3 rfl rfl) (Qx (oM rfl) rfl (Qm rfl (Qx (oA rfl) rfl (Qm rfl (Aq (BB 15 Cd (by kernel_rfl) rfl (Wf Bc rfl (Wl rfl underlying24 (Cell.blk 0 rfl rfl) (Wm rfl (Wf Bc rfl (Wl rfl underlying24 (Cell.blk 0 rfl rfl) (Wm rfl (AV (Ah (i * c + j) (hO.rd (List.Mem.tail _ (List.Mem.head _))).rd rfl underlying24 A8 rfl rfl (by omega) (by omega)) rfl rfl (Wl rfl underlying3 ((hO.rd (ms := [AX g6 42 [.int .i64 p, .int .i64 r, .int .i64 c, ew], m, AX g4 42 [.int .i64 0, .int .i64 0, .int .i64 0, .slice none 0 0], AX g3 42 [.int .i64 p, .int .i64 k, .int .i64 c, eu], AX g2 42 [.int .i64 p, .int .i64 r, .int .i64 k, ev]]) (List.Mem.tail _ (List.Mem.head _))).ent hir hjc) (Wm rfl (Wm rfl (AV (oM rfl) rfl rfl (AV (oA rfl) rfl rfl (Wf BE rfl (Wl rfl underlying3 (Cell.blk 4 rfl rfl) (AV (B0 rfl rfl rfl (by omega) (by omega)) rfl rfl (BC (Qx (Ah (i * c + j) (hO.rd (List.Mem.tail _ (List.Mem.head _))).rd rfl underlying24 A8 rfl rfl (by omega) (by omega)) rfl (Bu 1 (i * c + j) hO rfl A8 rfl rfl rfl (by omega) rfl rfl (fun m' hO' => Ak (Aj ?_)))))))))))))))))))))))))))))))))))))))
    refine Ab (Ad (Qx (oA rfl) rfl (Qm rfl (Ak ?_))))
    refine Al (c - (j + 1)) _ (by omega) ⟨j + 1, m', rfl, rfl, rfl, rfl, by omega, ?_⟩ Qs
    rw [C4 _ hjc, AO (fun a _ b _ => JC p k f g i t j a b)] at hO'
    exact hO'
   ·refine Aw (Aa (Aa (Af (Aj (Ab (Ad (Qx (oA rfl) rfl (Qm rfl (Ak ?_)))))))))
    obtain rfl : j = c := by omega
    refine Al (k - (t + 1)) _ (by omega) ⟨t + 1, m, rfl, rfl, rfl, rfl, by omega, ?_⟩ Qs
    rw [AO (fun a _ b hb => JI p k f g i t j a b hb)] at hO
    exact hO
  ·refine Aw (Aa (Aa (Af (Aj (Ab (Ad (Qx (oA rfl) rfl (Qm rfl (Ak ?_)))))))))
   obtain rfl : t = k := by omega
   refine Al (r - (i + 1)) _ (by omega) ⟨i + 1, m, rfl, rfl, rfl, rfl, by omega, ?_⟩ Qs
   rw [AO (fun a _ b hb => Lb p t f g i a b)] at hO
   exact hO
 ·refine Aw (Aa (Aa (Af (Ab (Ax (Qx (oG rfl underlying42 AI (Seg.blk 0 rfl)) rfl ?_))))))
  refine Sa 2 [_, _, _, _] AI rfl (by simp [he1]) ?_
  refine Qm rfl (Aq (Ao ?_))
  obtain rfl : i = r := by omega
  refine AP 4 rfl (AP 3 rfl (AP 0 rfl ?_))
  exact CX (vs := [_, _, _, _]) 1 rfl rfl rfl underlying42 rfl AI rfl rfl (⟨rfl, _, rfl, ew, m, rfl, rfl, by rw [AO (fun a ha b hb => Lr p k f g i a b ha)] at hO; exact hO⟩)
end Go.Proofs.YtdnelknieikbaaaGreat
namespace Go.Proofs.YtdnelknieikbaaaGreat
open Tryz
open Go.Eng Go.RowKit Go.Lin
def jn (c : Nat) (f g : Nat → Nat → Int) (i j : Nat) : Int := if j < c then f i j else g i (j - c)
theorem Vg (c c' : Nat) (f g : Nat → Nat → Int) (k : Nat) : mat k (c + c') (jn c f g) ++ vec c (f k) ++ vec c' (g k) = mat (k + 1) (c + c') (jn c f g) := by
 rw [List.append_assoc, SI, ← Hh]
 rfl
theorem NC (p : Int) (r c c' : Nat) (f g : Nat → Nat → Int) (ev eu : Value) (h : Hp) (R : RtM p r c f) (S : RtM p r c' g) (hR : RdL cI 1 h [] ev (mat r c f)) (hS : RdL cI 1 h [] eu (mat r c' g)) :
  FnT Tryz.prog 137 #[.agg #[.int .i64 p, .int .i64 r, .int .i64 c, ev], .agg #[.int .i64 p, .int .i64 r, .int .i64 c', eu]] h [] (fun x h' ms' => h.le h' ∧ Ez x ms' (EM p r (c + c') (jn c f g))) := by
 have hb := R.bd
 have rl := R.rl
 have kl := R.cl
 have cl := S.cl
 have o1 := hR.rd.one
 have o2 := hS.rd.one
 refine Av func137 ntmps137 rfl rfl (fun w0 hw0 => ?_)
 simp only [A4]
 refine Ax ?_
 refine AS [_, _, _, _] rfl rfl (by rfl) rfl rfl rfl (fun g2 => ?_)
 refine BD fun h1 l1 hA => ?_
 have hR := hR.up l1
 have hS := hS.up l1
 refine AS [_, _, _, _] rfl rfl (by rfl) rfl rfl rfl (fun g3 => ?_)
 refine BD fun h2 l2 hB => ?_
 have hR := hR.up l2
 have hS := hS.up l2
 have hA := Seg.all (hA.le l2)
 have hB := Seg.all hB
 have l12 := Hp.le_trans l1 l2
 have hA0 := hA 0 _ rfl
 have hB0 := hB 0 _ rfl
 refine BZ [.int .i64 0, .int .i64 0, .int .i64 0, .slice none 0 0] rfl AI rfl rfl (fun g4 => B3 (Qf BE rfl (Ql rfl underlying3 (hA _ _ rfl _) (Qf Bh rfl (Ql rfl underlying3 (hA _ _ rfl _) (Qf A0 rfl (Ql rfl underlying3 (hA _ _ rfl _) (Qf A0 rfl (Ql rfl underlying3 (hB _ _ rfl _) (Qx (oA rfl) rfl ?_))))))))))
 refine Qx (AT Gh [.int .i64 0, .int .i64 0, .int .i64 0, .slice none 0 0] [(0, _), (1, _), (2, _)] [_, _, _, _] rfl AI rfl rfl (by repeat (first | exact trivial | refine ⟨⟨rfl, rfl, rfl⟩, ?_⟩)) rfl) rfl ?_
 refine BZ [.int .i64 0, .int .i64 0, .int .i64 0, .slice none 0 0] rfl AI rfl rfl (fun g5 => ?_)
 refine Sa 0 [_, _, _, _] AI rfl (by simp [Value.oneCell']) ?_
 refine Aq (Ac (Ax (Qf Bh rfl (Ql rfl underlying3 (hA _ _ rfl _) (Qm rfl (Aq (Ag (BX ?_))))))))
 refine AD (fun q s h' ms' => ∃ (k : Nat) (m : Hp) (ek : Value), q = r - k ∧ s = [(2, .pointer (some ⟨g2, 0, none⟩)), (3, .pointer (some ⟨g3, 0, none⟩)), (4, .pointer (some ⟨g4, 0, none⟩)), (5, .pointer (some ⟨g5, 0, none⟩)), (18, .int .i64 r), (19, .int .i64 k)] ∧ h2 = h' ∧ ms' = [m, AX g5 42 [.int .i64 p, .int .i64 r, .int .i64 (c + c'), ek], AX g4 42 [.int .i64 0, .int .i64 0, .int .i64 0, .slice none 0 0]] ∧ k ≤ r ∧ OwnL cI 1 3 m ek (mat k (c + c') (jn c f g)))
  (r - 0) _ ⟨0, _, _, rfl, rfl, rfl, rfl, by omega, by unfold mat; rw [Nat.zero_mul]; exact OwnL.nil Br⟩ Qs ?_
 rintro q s h' ms' ⟨k, m, ek, rfl, rfl, rfl, rfl, hk, hO⟩
 have oe : ek.oneCell' = true := (hO.rd (h := h2) (ms := [m]) (List.Mem.head _)).rd.one
 refine Ax (Qm rfl (Aq (Ac ?_)))
 refine AF rfl (fun hlt => ?_) (fun hlt => ?_)
 ·have hkr : k < r := by omega
  have e1 : (k + 1) * c = k * c + c := by rw [Nat.add_mul, Nat.one_mul]
  have b1 : (k + 1) * c ≤ r * c := Nat.mul_le_mul_right c hkr
  have b2 : r * c ≤ 400 * 400 := Nat.mul_le_mul rl kl
  have el : (mat r c f).length = r * c := AY _ _ _
  have e3 : ((k : Int) + 1) * c = k * c + c := by rw [Int.add_mul, Int.one_mul]
  have e1' : (k + 1) * c' = k * c' + c' := by rw [Nat.add_mul, Nat.one_mul]
  have b1' : (k + 1) * c' ≤ r * c' := Nat.mul_le_mul_right c' hkr
  have b2' : r * c' ≤ 400 * 400 := Nat.mul_le_mul rl cl
  have el' : (mat r c' g).length = r * c' := AY _ _ _
  have e3' : ((k : Int) + 1) * c' = k * c' + c' := by rw [Int.add_mul, Int.one_mul]
  have z1 : (mat k (c + c') (jn c f g)).length = k * (c + c') := AY _ _ _
  have z2 : k * (c + c') ≤ 400 * 800 := Nat.mul_le_mul (by omega) (by omega)
  have z3 := AQ c (f k)
  have z4 := AQ c' (g k)
  refine Ai (Ab (Ac (Ag (Ax (Qm rfl (Qm rfl (Aq (AW (n := 30) (bs := [true, false, true, true, true, true, true, true, true, true, true, true, true, true, false, true, true, true, true, true, true, true, true, true, true, true, true, false, true, false]) [true, false, true, true, true, true, true, true, true, true, true, true, true, true, false, true, true, true, true, true, true, true, true, true, true, true, true, false, true] Cd (by kernel_rfl) (by kernel_rfl) rfl rfl (QF Bc rfl (QF Bc rfl (QL rfl underlying24 (hA _ _ rfl _) (Qq rfl (QF A0 rfl (QL rfl underlying3 (hA _ _ rfl _) (Qp rfl (oM rfl) (Qq rfl (Qp rfl (oA rfl) (QF A0 rfl (QL rfl underlying3 (hA _ _ rfl _) (Qp rfl (oM rfl) (Qp rfl (C5 (k * c) ((k + 1) * c) hR.rd.any rfl underlying24 A8 rfl rfl rfl (by omega) (by omega) (by omega) (by omega)) (QF Bc rfl (QL rfl underlying24 (hB _ _ rfl _) (Qq rfl (QF A0 rfl (QL rfl underlying3 (hB _ _ rfl _) (Qp rfl (oM rfl) (Qq rfl (Qp rfl (oA rfl) (QF A0 rfl (QL rfl underlying3 (hB _ _ rfl _) (Qp rfl (oM rfl) (Qp rfl (C5 (k * c') ((k + 1) * c') hS.rd.any rfl underlying24 A8 rfl rfl rfl (by omega) (by omega) (by omega) (by omega)) (QF Bc rfl ?_))))))))))))))))))))))))))))))))))
  unfold CD
  simp only [List.cons_append, List.nil_append]
  refine Qo 1 rfl (Ql rfl underlying24 (Cell.blk 1 rfl rfl) (Qw (Qo 14 rfl ?_)))
  refine Bm 0 hO (hR.row hkr).any rfl underlying24 A8 rfl (by omega) rfl rfl rfl Cv (by simp only [List.length_append, z1, z3, z4]; omega) (by simp only [List.length_append, z1, z3, z4]; omega) rfl rfl rfl (fun v1 m1 hO1 => ?_)
  refine Qw (Qo 27 rfl ?_)
  refine Bm 0 hO1 (hS.row hkr).any rfl underlying24 A8 rfl (by omega) rfl rfl rfl Cv (by simp only [List.length_append, z1, z3, z4]; omega) (by simp only [List.length_append, z1, z3, z4]; omega) rfl rfl rfl (fun v2 m2 hO2 => ?_)
  refine Qw ?_
  have ov2 : v2.oneCell' = true := (hO2.rd (h := h2) (ms := [m2]) (List.Mem.head _)).rd.one
  refine Qo 29 rfl ?_
  refine AK 1 _ rfl BN rfl rfl (by assumption) rfl rfl (by (simp; done)) rfl rfl ?_
  refine Qw (Qe (Aj (Ab (Ad (Qx (oA rfl) rfl (Qm rfl (Ak ?_)))))))
  refine Al (r - (k + 1)) _ (by omega) ⟨k + 1, m2, v2, rfl, rfl, rfl, rfl, by omega, by rw [Vg] at hO2; exact hO2⟩ Qs
 ·refine Aw (Aa (Aa (Af (Ab (Ax (Qx (oG rfl underlying42 AI (Seg.blk 1 rfl)) rfl ?_))))))
  refine Sa 2 [_, _, _, _] AI rfl (by simp [oe]) ?_
  refine Aq (Ao ?_)
  obtain rfl : k = r := by omega
  refine AP 1 rfl ?_
  exact Cl (vs := [_, _, _, _]) 1 rfl rfl underlying42 rfl AI rfl rfl (⟨l12, ek, m, rfl, rfl, hO⟩)
end Go.Proofs.YtdnelknieikbaaaGreat
namespace Go.Proofs.YtdnelknieikbaaaGreat
open Tryz
open Go.Eng Go.RowKit Go.Lin
def cR (p : Int) (r c : Nat) (ev : Value) (ov : List Value) : List Value := .int .i64 p :: .int .i64 r :: .int .i64 c :: ev :: ov
abbrev BR (g : Nat) (p : Int) (r c : Nat) (ev : Value) (ov : List Value) : Hp := AX g 184 (cR p r c ev ov)
theorem HT (g : Nat) (p : Int) (r c : Nat) (f : Nat → Nat → Int) (ev : Value) (ov : List Value) (i : Nat) (h : Hp) (hS : Seg h [] ⟨g, 0, none⟩ (cR p r c ev ov)) (hR : RdL cI 1 h [] ev (mat r c f)) (hi : i < r) (hr : r ≤ 400) (hc : c ≤ 800) :
  Dq Tryz.prog 146 #[.pointer (some ⟨g, 0, none⟩), .int .i64 i] h [] (Ch 1 ev (i * c) ((i + 1) * c)) := by
 refine FnT.toV ?_
 have hA := Seg.all hS
 have hA0 := hA 0 _ rfl
 have e1 : (i + 1) * c = i * c + c := by rw [Nat.add_mul, Nat.one_mul]
 have b1 : (i + 1) * c ≤ r * c := Nat.mul_le_mul_right c hi
 have b2 : r * c ≤ 400 * 800 := Nat.mul_le_mul hr hc
 have el : (mat r c f).length = r * c := AY _ _ _
 have e3 : ((i : Int) + 1) * c = i * c + c := by rw [Int.add_mul, Int.one_mul]
 have hz : ∀ a : Addr, (a.add 0).add 3 = a.add 3 := fun a => by rw [A6]
 refine Av func146 ntmps146 rfl rfl (fun w0 hw0 => ?_)
 simp only [A4]
 refine Ax (Qm rfl (Aq (Ac (AW (n := 22) (bs := [true, true, true, true, true, true, true, true, true, true, true, true, true, true, true, true, true, true, true, true, true, false]) [true, true, true, true, true, true, true, true, true, true, true, true, true, true, true, true, true, true, true, true, true] Cd (by kernel_rfl) (by kernel_rfl) rfl rfl (Qq rfl (Qq rfl (QF ED rfl (QF Bc rfl (QL rfl underlying24 (hA _ _ rfl _) (Qq rfl (Qq rfl (Qq rfl (QF ED rfl (QF A0 rfl (QL rfl underlying3 (hA _ _ rfl _) (Qp rfl (oM rfl) (Qq rfl (Qp rfl (oA rfl) (Qq rfl (Qq rfl (QF ED rfl (QF A0 rfl (QL rfl underlying3 (hA _ _ rfl _) (Qp rfl (oM rfl) (Qp rfl (C5 (i * c) ((i + 1) * c) hR.rd.any rfl underlying24 A8 rfl rfl rfl (by omega) (by omega) (by omega) (by omega)) ?_)))))))))))))))))))))))))
 unfold CD
 simp only [List.cons_append, List.nil_append]
 refine Qo 21 rfl (Qm rfl (Qw (Qe (Ab (Ao ?_)))))
 exact Am rfl rfl (rfl)
end Go.Proofs.YtdnelknieikbaaaGreat
namespace Go.Proofs.YtdnelknieikbaaaGreat
open Tryz
open Go.Eng Go.RowKit Go.Lin
def turn (f : Nat → Nat → Int) (i : Nat) (G : Nat → Int) (k a b : Nat) : Int := if a = i ∧ b < k then G b else f a b
theorem turn_zero (f : Nat → Nat → Int) (i : Nat) (G : Nat → Int) (a b : Nat) : turn f i G 0 a b = f a b := if_neg (by omega)
theorem turn_at (f : Nat → Nat → Int) (i : Nat) (G : Nat → Int) (k : Nat) : turn f i G k i k = f i k := if_neg (by omega)
theorem turn_ne (f : Nat → Nat → Int) (i : Nat) (G : Nat → Int) (k a b : Nat) (h : a ≠ i) : turn f i G k a b = f a b := if_neg (by omega)
theorem turn_step (f : Nat → Nat → Int) (i : Nat) (G : Nat → Int) (k a b : Nat) : DB (turn f i G k) i k (G k) a b = turn f i G (k + 1) a b := by
 unfold DB turn
 by_cases h : a = i ∧ b = k
 ·rw [if_pos h, if_pos (by omega), h.2]
 ·rw [if_neg h]
  by_cases h2 : a = i ∧ b < k
  ·rw [if_pos h2, if_pos (by omega)]
  ·rw [if_neg h2, if_neg (by omega)]
theorem turn_all (f : Nat → Nat → Int) (i : Nat) (G : Nat → Int) (c a b : Nat) (hb : b < c) : turn f i G c a b = if a = i then G b else f a b := by
 unfold turn
 by_cases h : a = i
 ·rw [if_pos ⟨h, hb⟩, if_pos h]
 ·rw [if_neg (fun x => h x.1), if_neg h]
theorem Nl (r c : Nat) (f : Nat → Nat → Int) (i : Nat) (G : Nat → Int) (ev : Value) (m : Hp) (cf : FuncId) (fs : List Value) (h : Hp) (hO : OwnL cI 1 3 m ev (mat r c f)) (hi : i < r) (hr : r ≤ 400) (hc : c ≤ 800)
  (hcf : ∀ xs w, (callFunc cf xs).run Tryz.prog w = .ok (.enter cf xs) w)
  (hG : ∀ k, k < c → ∀ m', OwnL cI 1 3 m' ev (mat r c (turn f i G k)) → Dq Tryz.prog cf (fs ++ [Value.int .i64 k, Value.int .i64 (f i k)] ++ []).toArray h [m'] (.int .i64 (G k))) :
  FnT Tryz.prog 148 #[Ch 1 ev (i * c) ((i + 1) * c), .func (.func cf) fs.toArray #[]] h [m] (fun x h' ms' => h = h' ∧ ∃ m', ms' = [m'] ∧ OwnL cI 1 3 m' ev (mat r c fun a b => if a = i then G b else f a b)) := by
 have ec := AQ c (f i)
 refine Av func148 ntmps148 rfl rfl (fun w0 hw0 => ?_)
 simp only [A4]
 refine Ax (Qm rfl (Qx (AJ ((hO.rd (h := h) (ms := [m]) (List.Mem.head _)).row hi).rd rfl underlying24 rfl) rfl (Qm rfl (Aq (Ag ?_)))))
 refine AD (fun q s h' ms' => ∃ (k : Nat) (m : Hp), q = c - k ∧ s = [(0, Ch 1 ev (i * c) ((i + 1) * c)), (1, .func (.func cf) fs.toArray #[]), (6, Ch 1 ev (i * c) ((i + 1) * c)), (7, .int .i64 ((vec c (f i)).length : Nat)), (8, .int .i64 k)] ∧ h = h' ∧ ms' = [m] ∧ k ≤ c ∧ OwnL cI 1 3 m ev (mat r c (turn f i G k)))
  (c - 0) _ ⟨0, m, rfl, rfl, rfl, rfl, by omega, by rw [AO (fun a _ b _ => turn_zero f i G a b)]; exact hO⟩ Qs ?_
 rintro q s h' ms' ⟨k, m, rfl, rfl, rfl, rfl, hk, hO⟩
 refine Ax (Qm rfl (Aq (Ac ?_)))
 refine AF rfl (fun hlt => ?_) (fun hlt => ?_)
 ·have hkc : k < c := by omega
  have ek := AQ c (turn f i G k i)
  have hcell : Cell h [m] ((Bl (Ch 1 ev (i * c) ((i + 1) * c))).add (k * 1)) (.int .i64 (f i k)) := by
   have := ((hO.rd (h := h) (ms := [m]) (List.Mem.head _)).row hi).ev hkc
   rw [turn_at] at this
   exact this
  refine Ai (Ab (Ac (Ag (Ax (Qm rfl (Qx (Ah _ ((hO.rd (h := h) (ms := [m]) (List.Mem.head _)).row hi).rd rfl underlying24 A8 rfl rfl rfl (by omega)) rfl (Ql rfl underlying3 (hcell) (Qm rfl (Qm rfl (IA (Qm rfl (Qm rfl (Qm rfl (Qm rfl (Qm rfl (Qx (En (cs := []) rfl rfl hcf rfl (hG k hkc m hO)) rfl (Qx (Ah _ ((hO.rd (h := h) (ms := [m]) (List.Mem.head _)).row hi).rd rfl underlying24 A8 rfl rfl rfl (by omega)) rfl (EW 0 i k hO hi hkc rfl A8 rfl rfl rfl rfl rfl (fun m' hO' => Ak (Aj (Ab (Ad (Qx (oA rfl) rfl (Qm rfl (Ak ?_)))))))))))))))))))))))))
  refine Al (c - (k + 1)) _ (by omega) ⟨k + 1, m', rfl, rfl, rfl, rfl, by omega, by rw [AO (fun a _ b _ => turn_step f i G k a b)] at hO'; exact hO'⟩ Qs
 ·refine Aw (Aa (Aa (Af ?_)))
  obtain rfl : k = c := by omega
  exact B6 rfl (⟨rfl, m, rfl, by rw [AO (fun a _ b hb => turn_all f i G k a b hb)] at hO; exact hO⟩)
end Go.Proofs.YtdnelknieikbaaaGreat
namespace Go.Proofs.YtdnelknieikbaaaGreat
open Tryz
open Go.Eng Go.RowKit Go.Lin
def swp (f : Nat → Nat → Int) (i j k a b : Nat) : Int := if b < k then f (FE i j a) b else f a b
theorem K7 (f : Nat → Nat → Int) (i j k a b : Nat) : DB (DB (swp f i j k) i k (f j k)) j k (f i k) a b = swp f i j (k + 1) a b := by
 unfold DB swp FE
 by_cases h1 : a = j ∧ b = k
 ·obtain ⟨rfl, rfl⟩ := h1
  rw [if_pos ⟨rfl, rfl⟩, if_pos (by omega)]
  by_cases h2 : a = i
  ·subst h2; rw [if_pos rfl]
  ·rw [if_neg h2, if_pos rfl]
 ·rw [if_neg h1]
  by_cases h2 : a = i ∧ b = k
  ·obtain ⟨rfl, rfl⟩ := h2
   rw [if_pos ⟨rfl, rfl⟩, if_pos (by omega), if_pos rfl]
  ·rw [if_neg h2]
   by_cases h3 : b < k
   ·simp only [h3, show b < k + 1 by omega, if_true]
   ·by_cases h4 : b < k + 1
    ·have hbk : b = k := by omega
     have hai : ¬ a = i := fun e => h2 ⟨e, hbk⟩
     have haj : ¬ a = j := fun e => h1 ⟨e, hbk⟩
     simp only [h3, h4, hai, haj, if_true, if_false]
    ·simp only [h3, h4, if_false]
theorem U5 (f : Nat → Nat → Int) (i j k a : Nat) : swp f i j k a k = f a k := if_neg (by omega)
theorem Rf (f : Nat → Nat → Int) (i j a b : Nat) : swp f i j 0 a b = f a b := if_neg (by omega)
theorem TT (f : Nat → Nat → Int) (i j c a b : Nat) (hb : b < c) : swp f i j c a b = f (FE i j a) b := if_pos hb
theorem T9 (g : Nat) (p : Int) (r c : Nat) (f : Nat → Nat → Int) (ev : Value) (ov : List Value) (m : Hp) (i j : Nat) (h : Hp) (hO : OwnL cI 1 3 m ev (mat r c f)) (hi : i < r) (hj : j < r) (hr : r ≤ 400) (hc : c ≤ 800) :
  FnT Tryz.prog 147 #[.pointer (some ⟨g, 0, none⟩), .int .i64 i, .int .i64 j] h [BR g p r c ev ov, m] (fun x h' ms' => h = h' ∧ ∃ m', ms' = [BR g p r c ev ov, m'] ∧ OwnL cI 1 3 m' ev (mat r c fun a b => f (FE i j a) b)) := by
 have hRi := (hO.rd (h := h) (ms := [m]) (List.Mem.head _)).row hi
 have ec := AQ c (f i)
 refine Av func147 ntmps147 rfl rfl (fun w0 hw0 => ?_)
 simp only [A4]
 refine Ax (Qm rfl (Qm rfl (Qx (AG rfl call146 rfl (CN fun h' hl hm => HT g p r c f ev ov _ h' (Seg.ofLe (hm _ (List.Mem.head _))) (hO.rdh (hm _ (List.Mem.tail _ (List.Mem.head _)))) (by assumption) hr hc)) rfl (Qm rfl (Qm rfl (Qx (AG rfl call146 rfl (CN fun h' hl hm => HT g p r c f ev ov _ h' (Seg.ofLe (hm _ (List.Mem.head _))) (hO.rdh (hm _ (List.Mem.tail _ (List.Mem.head _)))) (by assumption) hr hc)) rfl (Qm rfl (Qm rfl (B3 (Qm rfl (Qx (CH hRi.rd rfl underlying24 rfl) rfl (Qm rfl (Aq (Ag ?_))))))))))))))
 refine AD (fun q s h' ms' => ∃ (k : Nat) (m : Hp), q = c - k ∧ s = [(6, Ch 1 ev (i * c) ((i + 1) * c)), (7, Ch 1 ev (j * c) ((j + 1) * c)), (16, .int .i64 ((vec c (f i)).length : Nat)), (17, .int .i64 k)] ∧ h = h' ∧ ms' = [BR g p r c ev ov, m] ∧ k ≤ c ∧ OwnL cI 1 3 m ev (mat r c (swp f i j k)))
  (c - 0) _ ⟨0, m, rfl, rfl, rfl, rfl, by omega, by rw [AO (fun a _ b _ => Rf f i j a b)]; exact hO⟩ Qs ?_
 rintro q s h' ms' ⟨k, m, rfl, rfl, rfl, rfl, hk, hO⟩
 have eci := AQ c (swp f i j k i)
 have ecj := AQ c (swp f i j k j)
 refine Ax (Qm rfl (Aq (Ac ?_)))
 refine AF rfl (fun hlt => ?_) (fun hlt => ?_)
 ·have hkc : k < c := by omega
  have hR2 := fun i hi => (hO.rd (h := h) (ms := [BR g p r c ev ov, m]) (List.Mem.tail _ (List.Mem.head _))).row (i := i) hi
  have hcell : ∀ i (hi : i < r), Cell h [BR g p r c ev ov, m] ((Bl (Ch 1 ev (i * c) ((i + 1) * c))).add (k * 1)) (.int .i64 (f i k)) := fun i hi => by
   have := (hR2 i hi).ev hkc
   rw [U5] at this
   exact this
  refine Ai (Ab ?_)
  refine Bv (fun s h' ms' => ∃ (m : Hp), s = [(6, Ch 1 ev (i * c) ((i + 1) * c)), (7, Ch 1 ev (j * c) ((j + 1) * c)), (16, .int .i64 ((vec c (f i)).length : Nat)), (17, .int .i64 k)] ∧ h = h' ∧ ms' = [BR g p r c ev ov, m] ∧ OwnL cI 1 3 m ev (mat r c (swp f i j (k + 1)))) ?_ (fun s h ms hI => ?_)
  ·refine Ag (Ax (Qm rfl (Qm rfl (Aq (AW (n := 16) (bs := [true, true, true, true, true, true, true, false, true, true, true, false, true, false, true, false]) [true, true, true, true, true, true, true, false, true, true, true, false, true, false, true] Cd (by kernel_rfl) (by kernel_rfl) rfl rfl (Qq rfl (Qq rfl (Qq rfl (Qq rfl (Qq rfl (Qq rfl (Qp rfl (Bo _ (hR2 j hj).rd rfl underlying24 A8 rfl rfl rfl (by omega)) (Qq rfl (Qq rfl (Qp rfl (Bo _ (hR2 i hi).rd rfl underlying24 A8 rfl rfl rfl (by omega)) (Qp rfl (Bo _ (hR2 i hi).rd rfl underlying24 A8 rfl rfl rfl (by omega)) (Qp rfl (Bo _ (hR2 j hj).rd rfl underlying24 A8 rfl rfl rfl (by omega)) ?_)))))))))))))))))
   unfold CD
   simp only [List.cons_append, List.nil_append]
   refine A2 [7, 11] (by kernel_rfl) rfl ?_
   refine Az rfl ?_ ?_
   ·refine Ql rfl underlying3 (hcell j hj) (Qw (Qo 11 rfl (Ql rfl underlying3 (hcell i hi) (Qw (Qo 13 rfl (EW 1 i k hO hi hkc rfl A8 rfl rfl rfl rfl rfl (fun m1 hO1 => Qw (Qo 15 rfl (EW 1 j k hO1 hj hkc rfl A8 rfl rfl rfl rfl rfl (fun m2 hO2 => Qw (Qe (Aj ?_))))))))))))
    refine AA _ ⟨m2, rfl, rfl, rfl, by rw [AO (fun a _ b _ => K7 f i j k a b)] at hO2; exact hO2⟩ Qs
   refine Az rfl ?_ ?_
   ·refine Ql rfl underlying3 (hcell i hi) (Qw (Qo 7 rfl (Ql rfl underlying3 (hcell j hj) (Qw (Qo 13 rfl (EW 1 i k hO hi hkc rfl A8 rfl rfl rfl rfl rfl (fun m1 hO1 => Qw (Qo 15 rfl (EW 1 j k hO1 hj hkc rfl A8 rfl rfl rfl rfl rfl (fun m2 hO2 => Qw (Qe (Aj ?_))))))))))))
    refine AA _ ⟨m2, rfl, rfl, rfl, by rw [AO (fun a _ b _ => K7 f i j k a b)] at hO2; exact hO2⟩ Qs
   exact A3
  obtain ⟨m, rfl, rfl, rfl, hO⟩ := hI
  ·refine Ad (Qx (oA rfl) rfl (Qm rfl (Ak ?_)))
   refine Al (c - (k + 1)) _ (by omega) ⟨k + 1, m, rfl, rfl, rfl, rfl, by omega, hO⟩ Qs
 ·refine Aw (Aa (Aa (Af ?_)))
  obtain rfl : k = c := by omega
  exact B6 rfl (⟨rfl, m, rfl, by rw [AO (fun a _ b hb => TT f i j k a b hb)] at hO; exact hO⟩)
end Go.Proofs.YtdnelknieikbaaaGreat
namespace Go.Proofs.YtdnelknieikbaaaGreat
open Tryz
open Go.Eng Go.RowKit Go.Lin
variable {p : Int} {n : Nat} {ov : List Int}
theorem Cg.pow {a b : Int} (h : Cg p a b) : ∀ n : Nat, Cg p (a ^ n) (b ^ n)
 | 0 => Cg.of_eq (by rw [Int.pow_zero, Int.pow_zero])
 | n + 1 => by rw [Int.pow_succ, Int.pow_succ]; exact Cg.mul (Cg.pow h n) h
theorem Np (hp : IsP p) (h1 : 1 ≤ n) (hn : (n : Int) < p) {out : Int} (ho : Cg p out ((n : Int) ^ (p.toNat - 2))) : (n : Int) * out % p = 1 := by
 have h2 := hp.1
 have hd : ¬ p.toNat ∣ n := fun hd => by have := Nat.le_of_dvd (by omega) hd; omega
 have hf := PU hp.prm hd
 have h3 : Cg p ((n : Int) * out) ((n : Int) ^ (p.toNat - 1)) := by
  have := Cg.mul (Cg.refl p (n : Int)) ho
  rw [show p.toNat - 1 = (p.toNat - 2) + 1 by omega, Int.pow_succ, Int.mul_comm _ (n : Int)]
  exact this
 have h4 : (n : Int) ^ (p.toNat - 1) % p = 1 := by
  have h5 : ((n ^ (p.toNat - 1) % p.toNat : Nat) : Int) = 1 := by rw [hf]; rfl
  rw [Int.natCast_emod, Int.natCast_pow, Int.toNat_of_nonneg (by omega)] at h5
  exact h5
 rw [Cg.iff_mod.1 h3, h4]
def Ovk (p : Int) (ov : List Int) : Prop := ov.length = 998 ∧ ∀ n (h : n < ov.length), ov[n] = 0 ∨ (0 < ov[n] ∧ ov[n] < p ∧ (n : Int) * ov[n] % p = 1)
theorem UL {r c : Nat} {ev : Value} (hn : n < ov.length) : (cR p r c ev (ov.flatMap cI))[4 + n * 1]? = some (.int .i64 ov[n]) := by
 have := Ey Br ov n hn 0 (.int .i64 ov[n]) rfl
 rw [Nat.add_zero] at this
 rw [show 4 + n * 1 = n * 1 + 4 by omega]
 exact this
theorem Ve {r c : Nat} {ev : Value} (x : Int) : (cR p r c ev (ov.flatMap cI)).set (4 + n * 1) (.int .i64 x) = cR p r c ev ((ov.set n x).flatMap cI) := by
 rw [show 4 + n * 1 = n + 1 + 1 + 1 + 1 by omega, ← Vc]
 rfl
theorem Ovk.set (H : Ovk p ov) {x : Int} (h0 : 0 < x) (h1 : x < p) (h2 : (n : Int) * x % p = 1) : Ovk p (ov.set n x) := by
 refine ⟨by simp [H.1], fun k hk => ?_⟩
 rw [List.getElem_set]
 by_cases e : n = k
 ·subst e; rw [if_pos rfl]; exact .inr ⟨h0, h1, h2⟩
 ·rw [if_neg e]; exact H.2 k (by simpa using hk)
theorem KM (a : Int) (e : Nat) : a ^ e = (a * a) ^ (e / 2) * a ^ (e % 2) := by
 conv => lhs; rw [← Nat.div_add_mod e 2, Int.pow_add, Int.pow_mul]
 rw [show a ^ 2 = a * a by rw [Int.pow_succ, Int.pow_succ, Int.pow_zero, Int.one_mul]]
theorem Py (g : Nat) (p : Int) (r c : Nat) (ev : Value) (ov : List Int) (n : Nat) (h : Hp) (hp : IsP p) (hov : Ovk p ov) (h1n : 1 ≤ n) (hn : (n : Int) < p) :
  FnT Tryz.prog 149 #[.pointer (some ⟨g, 0, none⟩), .int .i64 n] h [BR g p r c ev (ov.flatMap cI)] (fun x h' ms' => h = h' ∧ ∃ (v : Int) (ov' : List Int), x = .int .i64 v ∧ ms' = [BR g p r c ev (ov'.flatMap cI)] ∧ Ovk p ov' ∧ 0 < v ∧ v < p ∧ (n : Int) * v % p = 1) := by
 have hb : 2 ≤ p ∧ p ≤ 997 := ⟨hp.1, hp.2.1⟩
 have hl := hov.1
 have hnl : n < ov.length := by omega
 have hc := hov.2 n hnl
 have hcell : Cell h [BR g p r c ev (ov.flatMap cI)] (((⟨g, 0, none⟩ : Addr).add 4).add (n * 1)) (.int .i64 ov[n]) := by
  rw [A6]
  exact Cell.blk 0 rfl (UL hnl)
 have hP : ∀ ov' : List Value, Cell h [BR g p r c ev ov'] (((⟨g, 0, none⟩ : Addr).add 0).add 0) (.int .i64 p) := fun ov' => by
  rw [A6]
  exact Cell.blk 0 rfl rfl
 refine Av func149 ntmps149 rfl rfl (fun w0 hw0 => ?_)
 simp only [A4]
 refine Ax (Qm rfl (Aq (Ac (Ax (Qm rfl (Qm rfl (Qm rfl (Qf Kb rfl (Qx (C8 (n) rfl underlying182 A8 rfl rfl (by omega) (by omega)) rfl (Ql rfl underlying3 (hcell) (Qm rfl (Aq ?_))))))))))))
 refine AF rfl (fun hpos => ?_) (fun hpos => ?_)
 ·have hc : 0 < ov[n] ∧ ov[n] < p ∧ (n : Int) * ov[n] % p = 1 := by
   rcases hc with h0 | h0
   ·omega
   ·exact h0
  refine Ax (Qm rfl (Qm rfl (Qm rfl (Qf Kb rfl (Qx (C8 (n) rfl underlying182 A8 rfl rfl (by omega) (by omega)) rfl (Ql rfl underlying3 (hcell) (Qm rfl (Aq (Ao (Ae ?_))))))))))
  exact Am rfl rfl (⟨rfl, _, ov, rfl, rfl, hov, hc.1, hc.2.1, hc.2.2⟩)
 ·refine Ai (Ab (Ax (Qm rfl (Qm rfl (Qm rfl (Aq (Ac (Ax (Qm rfl (Qm rfl (Qf ED rfl (Qf BE rfl (Ql rfl underlying3 (hP _) (Qx (oS rfl) rfl (Qm rfl (Aq (Ag ?_)))))))))))))))))
  refine AD (fun q s h' ms' => ∃ (e : Nat) (out pw y : Int), q = e ∧ s = [(0, .pointer (some ⟨g, 0, none⟩)), (1, .int .i64 n), (5, .int .i64 out), (6, .int .i64 pw), (7, .int .i64 y)] ∧ h = h' ∧ ms' = [BR g p r c ev (ov.flatMap cI)] ∧ y = e ∧ e ≤ 1000 ∧ 0 ≤ out ∧ out < p ∧ 0 ≤ pw ∧ pw < p ∧ Cg p (out * pw ^ e) ((n : Int) ^ (p.toNat - 2)))
   (p.toNat - 2) _ ⟨p.toNat - 2, 1, (n : Int), p - 2, rfl, rfl, rfl, rfl, by omega, by omega, by omega, by omega, by omega, by omega, by rw [Int.one_mul]; exact Cg.refl _ _⟩ Qs ?_
  rintro e s h' ms' ⟨e', out, pw, y, rfl, rfl, rfl, rfl, rfl, he, o1, o2, q1, q2, hcg⟩
  have b1 := DF ⟨o1, o2⟩ ⟨q1, q2⟩ hb.2
  have b2 := DF ⟨q1, q2⟩ ⟨q1, q2⟩ hb.2
  have m1 := Int.emod_nonneg (out * pw) (show p ≠ 0 by omega)
  have m2 := Int.emod_lt_of_pos (out * pw) (show 0 < p by omega)
  have m3 := Int.emod_nonneg (pw * pw) (show p ≠ 0 by omega)
  have m4 := Int.emod_lt_of_pos (pw * pw) (show 0 < p by omega)
  have hh : Cg p ((pw * pw % p) ^ (e / 2)) ((pw * pw) ^ (e / 2)) := Cg.pow (Cg.mod _ _) _
  refine Ac (Ax (Qm rfl (Qm rfl (Aq ?_))))
  refine AF rfl (fun hlt => ?_) (fun hlt => ?_)
  ·refine Ai (Ab (Ac (Ag (Ac (Ax (Qm rfl (Qx (Vk rfl rfl rfl (by omega)) rfl (Qm rfl (Aq ?_)))))))))
   refine AF rfl (fun hodd => ?_) (fun hodd => ?_)
   ·refine Ad (Qm rfl (Qm rfl (Qx (oM rfl) rfl (Qm rfl (Qm rfl (Qf ED rfl (Qf BE rfl (Ql rfl underlying3 (hP _) (Qx (B0 rfl rfl rfl (by omega) (by omega)) rfl (Qm rfl (IA (Qm rfl (Qm rfl (Qx (oM rfl) rfl (Qm rfl (Qm rfl (Qf ED rfl (Qf BE rfl (Ql rfl underlying3 (hP _) (Qx (B0 rfl rfl rfl (by omega) (by omega)) rfl (Qm rfl (Ak (Aj (Ab (Ad (Qm rfl (Qx (Nd (n := 1) rfl rfl rfl (by omega)) rfl (Qm rfl (Ak ?_)))))))))))))))))))))))))))))
    refine Al (e / 2) _ (by omega) ⟨e / 2, out * pw % p, pw * pw % p, ((e / 2 : Nat) : Int), rfl, rfl, rfl, rfl, rfl, by omega, m1, m2, m3, m4, ?_⟩ Qs
    refine Cg.trans (Cg.mul (Cg.mod _ _) hh) (Cg.trans (Cg.of_eq ?_) hcg)
    rw [KM pw e, show e % 2 = 1 by omega, Int.pow_succ, Int.pow_zero, Int.one_mul, Int.mul_assoc, Int.mul_comm pw]
   ·refine Ai (Ab (Ad (Qm rfl (Qm rfl (Qx (oM rfl) rfl (Qm rfl (Qm rfl (Qf ED rfl (Qf BE rfl (Ql rfl underlying3 (hP _) (Qx (B0 rfl rfl rfl (by omega) (by omega)) rfl (Qm rfl (Ak (Aj (Ab (Ad (Qm rfl (Qx (Nd (n := 1) rfl rfl rfl (by omega)) rfl (Qm rfl (Ak ?_))))))))))))))))))))
    refine Al (e / 2) _ (by omega) ⟨e / 2, out, pw * pw % p, ((e / 2 : Nat) : Int), rfl, rfl, rfl, rfl, rfl, by omega, o1, o2, m3, m4, ?_⟩ Qs
    refine Cg.trans (Cg.mul (Cg.refl _ _) hh) (Cg.trans (Cg.of_eq ?_) hcg)
    rw [KM pw e, show e % 2 = 0 by omega, Int.pow_zero, Int.mul_one]
  ·obtain rfl : e = 0 := by omega
   rw [Int.pow_zero, Int.mul_one] at hcg
   have hinv := Np hp h1n hn hcg
   have hout : 0 < out := by
    rcases (by omega : out = 0 ∨ 0 < out) with h0 | h0
    ·subst h0; simp at hinv
    ·exact h0
   refine Aw (Aa (Aa (Af (Ab (Ax (Qm rfl (Qm rfl (Qm rfl (Qm rfl (Qf Kb rfl (Qx (C8 (n) rfl underlying182 A8 rfl rfl (by omega) (by omega)) rfl ?_)))))))))))
   refine AK 0 (4 + n * 1) rfl A8 rfl rfl rfl rfl (A6 _ _ _) (by show _ < (_ :: _ :: _ :: _ :: _ : List Value).length; simp only [List.length_cons, BL Br, hl]; omega) rfl rfl ?_
   rw [Ve]
   refine B3 (Qm rfl (Qm rfl (Aq (Ao ?_))))
   exact Am rfl rfl (⟨rfl, out, ov.set n out, rfl, rfl, hov.set hout o2 hinv, hout, o2, hinv⟩)
theorem Sd (g : Nat) (p : Int) (r c : Nat) (ev : Value) (ov : List Int) (n : Int) (h : Hp) (hp : IsP p) (hov : Ovk p ov) (h1n : 1 ≤ n) (hn : n < p) :
  FnT Tryz.prog 149 #[.pointer (some ⟨g, 0, none⟩), .int .i64 n] h [BR g p r c ev (ov.flatMap cI)] (fun x h' ms' => h = h' ∧ ∃ (v : Int) (ov' : List Int), x = .int .i64 v ∧ ms' = [BR g p r c ev (ov'.flatMap cI)] ∧ Ovk p ov' ∧ 0 < v ∧ v < p ∧ n * v % p = 1) := by
 obtain ⟨k, rfl⟩ := Int.eq_ofNat_of_zero_le (show 0 ≤ n by omega)
 exact Py g p r c ev ov k h hp hov (by omega) hn
end Go.Proofs.YtdnelknieikbaaaGreat
namespace Go.Proofs.YtdnelknieikbaaaGreat
open Tryz
open Go.Eng Go.RowKit Go.Lin
theorem SU (t p k n : Int) (h : Hp) (hp : IsP p) (hn : 0 ≤ n ∧ n < p) (ht : 0 ≤ t ∧ t < p) (ms : List Hp) :
  Dq Tryz.prog 150 #[.agg #[.slice none 0 0, .int .i64 t, .int .i64 p], .int .i64 k, .int .i64 n] h ms (.int .i64 (n * t % p)) := by
 refine Ds ?_ ms
 have hb : 2 ≤ p ∧ p ≤ 997 := ⟨hp.1, hp.2.1⟩
 have b1 := DF hn ht hb.2
 refine Av func150 ntmps150 rfl rfl (fun w0 hw0 => ?_)
 simp only [A4]
 refine Ax ?_
 refine AS [_, _, _] rfl rfl (by rfl) rfl rfl rfl (fun g3 => ?_)
 refine Qm rfl (B3 (Qm rfl (Qf N4 rfl (Ql rfl underlying3 (Cell.blk 0 rfl rfl) (Qx (oM rfl) rfl (Qf NH rfl (Ql rfl underlying3 (Cell.blk 0 rfl rfl) (Qx (B0 rfl rfl rfl (by omega) (by omega)) rfl (Qm rfl (Aq (Ao ?_)))))))))))
 exact Am rfl rfl (rfl)
theorem Vu (r c : Nat) (F : Nat → Nat → Int) (ev : Value) (at_ k : Nat) (t p n : Int) (h : Hp) (hR : RdL cI 1 h [] ev (mat r c F)) (ha : at_ < r) (hk : k < c) (hp : IsP p) (hn : 0 ≤ n ∧ n < p) (hF : 0 ≤ F at_ k ∧ F at_ k < p) (ht : 0 ≤ t ∧ t < p) :
  Dq Tryz.prog 151 #[.agg #[Ch 1 ev (at_ * c) ((at_ + 1) * c), .int .i64 t, .int .i64 p], .int .i64 k, .int .i64 n] h [] (.int .i64 ((n + F at_ k * t) % p)) := by
 refine FnT.toV ?_
 have hb : 2 ≤ p ∧ p ≤ 997 := ⟨hp.1, hp.2.1⟩
 have b1 := DF hF ht hb.2
 have hRa := hR.row ha
 have ea := AQ c (F at_)
 refine Av func151 ntmps151 rfl rfl (fun w0 hw0 => ?_)
 simp only [A4]
 refine Ax ?_
 refine AS [_, _, _] rfl rfl (by rfl) rfl rfl rfl (fun g3 => ?_)
 refine Qm rfl (Aq (AL fun h' hle hS => ?_))
 have hRa := hRa.up hle
 have hA := Seg.all hS
 have hA0 := hA 0 _ rfl
 refine Ac (AW (n := 14) (bs := [true, true, true, true, true, true, true, true, true, true, true, true, true, false]) [true, true, true, true, true, true, true, true, true, true, true, true, true] Cd (by kernel_rfl) (by kernel_rfl) rfl rfl (Qq rfl (QF TB rfl (QL rfl underlying24 (hA _ _ rfl _) (Qq rfl (Qp rfl (Ah (k) hRa.rd.any rfl underlying24 A8 rfl rfl (by omega) (by omega)) (QL rfl underlying3 (hRa.any.ev hk) (QF N4 rfl (QL rfl underlying3 (hA _ _ rfl _) (Qp rfl (oM rfl) (Qp rfl (oA rfl) (QF NH rfl (QL rfl underlying3 (hA _ _ rfl _) (Qp rfl (B0 rfl rfl rfl (by omega) (by omega)) ?_))))))))))))))
 unfold CD
 simp only [List.cons_append, List.nil_append]
 refine Qo 13 rfl (Qm rfl (Qw (Qe (Ab (Ao ?_)))))
 exact Am rfl rfl (rfl)
theorem DS (l : List Int) (v : Value) (h : Hp) (hR : RdL cI 1 h [] v l) (hl : l.length ≤ 1000000) : FnT Tryz.prog 51 #[v] h [] (fun x h' ms' => h = h' ∧ ∃ m, ms' = [m] ∧ OwnL cI 1 3 m x l) := by
 refine Av func51 ntmps51 rfl rfl (fun w0 hw0 => ?_)
 simp only [A4]
 refine Ax (Qm rfl (Aq (Ac (Ax (Qm rfl (Qx (Ru hR.rd.any rfl underlying24 rfl rfl) rfl (Aq ?_)))))))
 refine BJ rfl (fun hn => ?_) (fun hn => ?_)
 ·have h0 := O9 hR.rd hn
  obtain rfl : l = [] := List.eq_nil_of_length_eq_zero h0
  refine Ax (Qm rfl (Aq (Ao (Ae (IN ?_)))))
  exact Am rfl rfl (⟨rfl, _, rfl, OwnL.nil Br⟩)
 ·refine Ai (Ab (Ax ?_))
  refine AZ [] [] [] rfl underlying24 A8 rfl (by omega) (by kernel_rfl) (by repeat (first | exact trivial | refine ⟨⟨by first | rfl | exact (hR.rd.any).cells | exact Rd.cells ‹_› | exact (RdL.rd ‹_›).cells, rfl, rfl⟩, ?_⟩)) rfl rfl rfl rfl (fun g5 => ?_)
  refine Qm rfl ?_
  have hO : OwnL cI 1 3 (AX g5 3 []) (.slice (some ⟨g5, 0, none⟩) 0 0) [] := OwnL.blk (l := ([] : List Int)) 0 Br rfl (by omega)
  refine Bm 0 hO hR.any rfl underlying24 A8 rfl (by omega) rfl rfl rfl Cv (by simp; omega) (by simp; omega) rfl rfl rfl (fun v' m' hO' => ?_)
  refine Qm rfl (Aq (Ao ?_))
  exact Am rfl rfl (⟨rfl, m', rfl, hO'⟩)
theorem Uy {o : Oper} {s : Ay} {h : Hp} {ms : List Hp} {x : Operand} {p : Int} {r c : Nat} {ev' : Value} (ho : o.op = .build 184 #[(0, x)]) (hx : ev s x = some (.agg #[.int .i64 p, .int .i64 r, .int .i64 c, ev'])) (h1 : ev'.oneCell' = true) :
  OX Tryz.prog o s h ms (.agg (cR p r c ev' (List.replicate 998 (.int .i64 0))).toArray) :=
 AT V5 ([.int .i64 0, .int .i64 0, .int .i64 0, .slice none 0 0] ++ List.replicate 998 (.int .i64 0)) [(0, [.int .i64 p, .int .i64 r, .int .i64 c, ev'])] _ (lp := [(0, x)]) (vs := [(0, .agg #[.int .i64 p, .int .i64 r, .int .i64 c, ev'])]) ho V1 (by kernel_rfl) (by simp only [S7, hx]) ⟨⟨rfl, rfl, rfl⟩, trivial⟩ rfl
end Go.Proofs.YtdnelknieikbaaaGreat
namespace Go.Proofs.YtdnelknieikbaaaGreat
open Tryz
open Go.Eng Go.RowKit Go.Lin
def HY (pv : List Nat) : List Int := pv.map fun (k : Nat) => (k : Int)
theorem EF (pv : List Nat) : (HY pv).length = pv.length := by simp [HY]
theorem DA {h : Hp} {ms : List Hp} {m2 : Hp} {vp : Value} {pv : List Nat} (O : OwnL cI 1 3 m2 vp (HY pv)) (hm : m2 ∈ ms) : Rd h ms vp 1 pv.length ((HY pv).flatMap cI) := by
 have := (O.rd (h := h) hm).rd
 rwa [EF] at this
theorem Wx (p : Int) : Ovk p (List.replicate 998 0) := ⟨List.length_replicate, fun n hn => .inl (List.getElem_replicate _)⟩
def Hi (p : Int) (t i j : Nat) (v : Int) (F : Nat → Nat → Int) (k a b : Nat) : Int := if a < k then J0 p t i j v F a b else De p t i v F a b
theorem Uw (p : Int) (t i j : Nat) (v : Int) (F : Nat → Nat → Int) (k b : Nat) : Hi p t i j v F k t b = De p t i v F t b := by
 unfold Hi; split
 ·unfold J0; rw [if_pos rfl]
 ·rfl
theorem L4 (p : Int) (t i j : Nat) (v : Int) (F : Nat → Nat → Int) (k b : Nat) : Hi p t i j v F k k b = De p t i v F k b := if_neg (by omega)
theorem RN (p : Int) (t i j : Nat) (v : Int) (F : Nat → Nat → Int) (k a b : Nat) (hk : k ≠ t) : (if a = k then (De p t i v F k b + De p t i v F t b * (p - De p t i v F k j)) % p else Hi p t i j v F k a b) = Hi p t i j v F (k + 1) a b := by
 unfold Hi
 by_cases h : a = k
 ·subst h
  rw [if_pos rfl, if_pos (by omega)]
  unfold J0
  rw [if_neg hk]
 ·rw [if_neg h]
  by_cases h2 : a < k
  ·rw [if_pos h2, if_pos (by omega)]
  ·rw [if_neg h2, if_neg (by omega)]
theorem IJ (p : Int) (t i j : Nat) (v : Int) (F : Nat → Nat → Int) (k a b : Nat) (h : k = t ∨ (De p t i v F k j = 0 ∧ 0 ≤ De p t i v F k b ∧ De p t i v F k b < p)) : Hi p t i j v F k a b = Hi p t i j v F (k + 1) a b := by
 unfold Hi
 by_cases h1 : a < k
 ·rw [if_pos h1, if_pos (by omega)]
 ·rw [if_neg h1]
  by_cases h2 : a = k
  ·subst h2
   rw [if_pos (by omega)]
   unfold J0
   rcases h with rfl | ⟨h3, h4, h5⟩
   ·rw [if_pos rfl]
   ·by_cases h6 : a = t
    ·rw [if_pos h6, h6]
    ·rw [if_neg h6, h3, Int.sub_zero, Int.add_mul_emod_self_right, Int.emod_eq_of_lt h4 h5]
  ·rw [if_neg (by omega)]
theorem P5 (p : Int) (t i j : Nat) (v : Int) (F : Nat → Nat → Int) (a b : Nat) : (if a = t then F (FE t i t) b * v % p else F (FE t i a) b) = Hi p t i j v F 0 a b := by
 unfold Hi De
 rw [if_neg (show ¬ a < 0 by omega)]
theorem NZ (p : Int) (t i j : Nat) (v : Int) (F : Nat → Nat → Int) (r a b : Nat) (ha : a < r) : Hi p t i j v F r a b = J0 p t i j v F a b := if_pos ha
theorem R2 {p : Int} (hp : 2 ≤ p) {r c t i : Nat} {v : Int} {F : Nat → Nat → Int} (ht : t < r) (hi : i < r) (hF : ∀ a, a < r → ∀ b, b < c → 0 ≤ F a b ∧ F a b < p) (a : Nat) (ha : a < r) (b : Nat) (hb : b < c) : 0 ≤ De p t i v F a b ∧ De p t i v F a b < p := by
 unfold De; split
 ·exact ⟨Int.emod_nonneg _ (by omega), Int.emod_lt_of_pos _ (by omega)⟩
 ·exact hF _ (FH ht hi ha) b hb
theorem LV (pv : List Nat) (j : Nat) : HY pv ++ [(j : Int)] = HY (pv ++ [j]) := by simp [HY]
theorem Tw {h : Hp} {ms : List Hp} {g : Nat} {p : Int} {r c : Nat} {ev : Value} {ov : List Value} (hm : ms[0]? = some (BR g p r c ev ov)) : Seg h ms ((⟨g, 0, none⟩ : Addr).add 0) [.int .i64 p, .int .i64 r, .int .i64 c, ev] := fun k u hu => by
 rw [A6, Nat.zero_add]
 refine Cell.blk 0 hm ?_
 rcases k with _ | _ | _ | _ | k
 ·exact hu
 ·exact hu
 ·exact hu
 ·exact hu
 ·simp at hu
structure Ho (p : Int) (r c : Nat) (f F : Nat → Nat → Int) (pv : List Nat) : Prop where
 red : Red p r c f F pv c
theorem JN (p : Int) (r c : Nat) (f : Nat → Nat → Int) (ev : Value) (h : Hp) (hp : IsP p) (hr : r ≤ 400) (hc : c ≤ 800) (hf : UO p r c f) (hR : RdL cI 1 h [] ev (mat r c f)) :
  FnT Tryz.prog 136 #[.agg #[.int .i64 p, .int .i64 r, .int .i64 c, ev]] h [] (fun x h' ms' => h.le h' ∧ ∃ (F : Nat → Nat → Int) (pv : List Nat) (eu vp : Value) (m m2 : Hp), x = .tuple #[.agg #[.int .i64 p, .int .i64 r, .int .i64 c, eu], vp] ∧ ms' = [m, m2] ∧ OwnL cI 1 3 m eu (mat r c F) ∧ OwnL cI 1 3 m2 vp (HY pv) ∧ Ho p r c f F pv) := by
 have hb : 2 ≤ p ∧ p ≤ 997 := ⟨hp.1, hp.2.1⟩
 have e1 := hR.rd.one
 have b2 : r * c ≤ 400 * 800 := Nat.mul_le_mul hr hc
 have el : (mat r c f).length = r * c := AY _ _ _
 refine Av func136 ntmps136 rfl rfl (fun w0 hw0 => ?_)
 simp only [A4]
 refine Ax ?_
 refine AS [_, _, _, _] rfl rfl (by rfl) rfl rfl rfl (fun g1 => ?_)
 refine BZ [.int .i64 0, .int .i64 0, .int .i64 0, .slice none 0 0] rfl AI rfl rfl (fun g2 => Qm rfl (Aq (Re (Ax (Qf Bc rfl (Ql rfl underlying24 (Cell.blk 1 rfl rfl) (Qc call51 rfl (DS (mat r c f) ev h hR (by omega)) (fun eu h1 ms1 l1 hF => ?_))))))))
 obtain ⟨rfl, m, rfl, hO⟩ := hF
 have e2 : eu.oneCell' = true := (hO.rd (h := h) (ms := [m]) (List.Mem.head _)).rd.one
 refine Qf Bc rfl ?_
 refine AK 2 _ rfl BN rfl rfl (by assumption) rfl rfl (by (simp; done)) rfl rfl ?_
 refine Aq (By 2 rfl fun h' hle hS => ?_)
 have hA := Seg.all hS
 have hA0 := hA 0 _ rfl
 refine Ax (Qx (oG rfl underlying42 AI (Seg.any hS)) rfl (Qx (Uy rfl rfl e2) rfl (AS (cR p r c eu (List.replicate 998 (.int .i64 0))) rfl rfl rfl rfl rfl rfl (fun g17 => ?_))))
 rw [Q8]
 refine Qm rfl (B3 (Qm rfl (Aq (Ac (QI (Ab (BX (Ea (ms' := [BR g17 p r c eu ((List.replicate 998 0).flatMap cI), m, Hp.emp, AX g2 42 [.int .i64 0, .int .i64 0, .int .i64 0, .slice none 0 0]]) ((List.Perm.swap _ _ _).trans ((List.Perm.swap _ _ _).cons _)) (Ac (Ax (Qf A0 rfl (Ql rfl underlying3 (hA _ _ rfl _) (Qm rfl (Aq (Ag ?_)))))))))))))))
 refine AD (fun q s hh ms' => ∃ (j : Nat) (F : Nat → Nat → Int) (pv : List Nat) (vp : Value) (ov : List Int) (m m2 : Hp), q = c - j ∧ s = [(1, .pointer (some ⟨g1, 0, none⟩)), (2, .pointer (some ⟨g2, 0, none⟩)), (4, .pointer (some ⟨g17, 0, none⟩)), (5, vp), (19, .int .i64 c), (20, .int .i64 j)] ∧ h' = hh ∧ ms' = [BR g17 p r c eu (ov.flatMap cI), m, m2, AX g2 42 [.int .i64 0, .int .i64 0, .int .i64 0, .slice none 0 0]] ∧ j ≤ c ∧ OwnL cI 1 3 m eu (mat r c F) ∧ OwnL cI 1 3 m2 vp (HY pv) ∧ Red p r c f F pv j ∧ Ovk p ov)
  (c - 0) _ ⟨0, f, [], _, List.replicate 998 0, m, _, rfl, rfl, rfl, rfl, by omega, hO, OwnL.nil Br, Red.start hf, Wx p⟩ Qs ?_
 rintro q s hh ms' ⟨j, F, pv, vp, ov, m, m2, rfl, rfl, rfl, rfl, hj, hO, hO2, hRed, hov⟩
 have hP := fun ms hm => DA (h := h') (ms := ms) hO2 hm
 have ovp := (hP [m2] (List.Mem.head _)).one
 have hlr := hRed.len
 refine Ax (Qm rfl (Aq (Ac ?_)))
 refine AF rfl (fun hlt => ?_) (fun hlt => ?_)
 ·have hjc : j < c := by omega
  refine Ai (Ab (Ac (Ag (Ax (Qm rfl (Qm rfl (B3 (Qm rfl (Qx (AJ (hP _ (List.Mem.tail _ (List.Mem.tail _ (List.Mem.head _)))) rfl underlying24 rfl) rfl (Qm rfl (B3 (Qm rfl (Qm rfl (Aq (Ag ?_)))))))))))))))
  refine AD (fun q s hh ms' => ∃ (i : Nat), q = r - i ∧ s = [(1, .pointer (some ⟨g1, 0, none⟩)), (2, .pointer (some ⟨g2, 0, none⟩)), (4, .pointer (some ⟨g17, 0, none⟩)), (5, vp), (6, .int .i64 j), (7, .int .i64 pv.length), (8, .int .i64 i), (19, .int .i64 c), (20, .int .i64 j)] ∧ h' = hh ∧ ms' = [BR g17 p r c eu (ov.flatMap cI), m, m2, AX g2 42 [.int .i64 0, .int .i64 0, .int .i64 0, .slice none 0 0]] ∧ pv.length ≤ i ∧ i ≤ r ∧ ∀ a, pv.length ≤ a → a < i → F a j = 0)
   (r - pv.length) _ ⟨pv.length, rfl, rfl, rfl, rfl, by omega, by omega, fun a h1 h2 => by omega⟩ Qs ?_
  rintro q s hh ms' ⟨i, rfl, rfl, rfl, rfl, hli, hir, hno⟩
  have hRow := fun i hi => (hO.rd (h := h') (ms := [m]) (List.Mem.head _)).row (i := i) hi
  have hcell : ∀ i, i < r → ∀ ms, m ∈ ms → Cell h' ms ((Bl (Ch 1 eu (i * c) ((i + 1) * c))).add (j * 1)) (.int .i64 (F i j)) := fun i hi ms hm => ((hO.rd (h := h') hm).row hi).ev hjc
  refine Ac (Ax (Qm rfl (Qf Bh rfl (Ql rfl underlying3 (hA _ _ rfl _) (Qm rfl (Aq ?_))))))
  refine AF rfl (fun hlt2 => ?_) (fun hlt2 => ?_)
  ·have hi : i < r := by omega
   have ec := AQ c (F i)
   refine Ai (Ab (Ac (Ag (Ac (Ax (Qm rfl (Qm rfl (Qx (AG rfl call146 rfl (CN fun h' hl hm => HT g17 p r c F eu _ _ h' (Seg.ofLe (hm _ (List.Mem.head _))) (hO.rdh (hm _ (List.Mem.tail _ (List.Mem.head _)))) (by assumption) hr hc)) rfl (Qm rfl (Qx (Bo (j) (hRow i hi).rd rfl underlying24 A8 rfl rfl (by omega) (by omega)) rfl (Ql rfl underlying3 (hcell i hi _ (List.Mem.tail _ (List.Mem.head _))) (Qm rfl (Aq ?_)))))))))))))
   refine AF rfl (fun hz => ?_) (fun hz => ?_)
   ·refine Aw (Aa (Af (Ab (Ad (Qm rfl (Qx (oA rfl) rfl (Qm rfl (Ak ?_))))))))
    refine Al (r - (i + 1)) _ (by omega) ⟨i + 1, rfl, rfl, rfl, rfl, by omega, by omega, fun a h1 h2 => ?_⟩ Qs
    rcases (by omega : a < i ∨ a = i) with h3 | rfl
    ·exact hno a h1 h3
    ·exact hz
   ·have ht : pv.length < r := by omega
    refine Ai (Ab (Ax (Qm rfl (Qm rfl (Qm rfl ?_)))))
    have hFi := hRed.bd i hi j hjc
    have hd0 := hRed.bd
    have hsi : FE pv.length i pv.length = i := by simp [FE]
    refine Bs (pre := [BR g17 p r c eu (ov.flatMap cI), m]) rfl call147 rfl (T9 g17 p r c F eu _ m pv.length i h' hO ht hi hr hc) rfl rfl rfl rfl (fun x h2 ms2 l2 hF => ?_)
    obtain ⟨rfl, m, rfl, hO⟩ := hF
    have hcell1 : ∀ ms, m ∈ ms → Cell h' ms ((Bl (Ch 1 eu (pv.length * c) ((pv.length + 1) * c))).add (j * 1)) (.int .i64 (F i j)) := fun ms hm => by
     have := ((hO.rd (h := h') hm).row ht).ev hjc
     rw [hsi] at this
     exact this
    have hRow1 := fun i hi => (hO.rd (h := h') (ms := [m]) (List.Mem.head _)).row (i := i) hi
    have ec1 := AQ c (fun b => F (FE pv.length i pv.length) b)
    refine Aq (Ac (AW (n := 16) (bs := [true, true, false, true, true, true, false, true, false, false, false, true, true, false, false, false]) [true, true, false, true, true, true, false, true, false, false, false, true, true] Cd (by kernel_rfl) (by kernel_rfl) rfl rfl (Qq rfl (Qq rfl (Qq rfl (Qq rfl (Qq rfl (Qq rfl (QF BE rfl (QL rfl underlying3 (hA0 _) ?_))))))))))
    unfold CD
    simp only [List.cons_append, List.nil_append]
    refine Qo 2 rfl (Qx (AG rfl call146 rfl (CN fun h' hl hm => HT g17 p r c (fun a b => F (FE pv.length i a) b) eu _ _ h' (Seg.ofLe (hm _ (List.Mem.head _))) (hO.rdh (hm _ (List.Mem.tail _ (List.Mem.head _)))) (by assumption) hr hc)) rfl (Qw (Qo 6 rfl (Qx (AG rfl call146 rfl (CN fun h' hl hm => HT g17 p r c (fun a b => F (FE pv.length i a) b) eu _ _ h' (Seg.ofLe (hm _ (List.Mem.head _))) (hO.rdh (hm _ (List.Mem.tail _ (List.Mem.head _)))) (by assumption) hr hc)) rfl (Qw (Qo 8 rfl (Qx (Bo (j) (hRow1 pv.length ht).rd rfl underlying24 A8 rfl rfl (by omega) (by omega)) rfl (Qw (Qo 9 rfl (Ql rfl underlying3 (hcell1 _ (List.Mem.tail _ (List.Mem.head _))) (Qw (Qo 10 rfl (Bs (pre := [BR g17 p r c eu (ov.flatMap cI)]) rfl call149 rfl (Sd g17 p r c eu ov (F i j) h' hp hov (by omega) (by omega)) rfl rfl rfl rfl (fun x h2 ms2 l2 hv => ?_))))))))))))))
    obtain ⟨rfl, v, ov, rfl, rfl, hov, hv0, hvp, hv1⟩ := hv
    refine Qw (Qo 13 rfl ?_)
    refine Qx (AT Uv [.slice none 0 0, .int .i64 0, .int .i64 0] [(0, _), (1, _), (2, _)] [_, _, _] rfl Uk rfl rfl (by repeat (first | exact trivial | refine ⟨⟨rfl, rfl, rfl⟩, ?_⟩ | refine ⟨⟨((hRow1 pv.length ht).rd).cells, rfl, rfl⟩, ?_⟩)) rfl) rfl ?_
    refine Qw (Qo 14 rfl (Qx (CE rfl rfl rfl) rfl (Qw (Qo 15 rfl (Fe ?_)))))
    refine Bs (pre := [m]) rfl call148 rfl (Nl r c (fun a b => F (FE pv.length i a) b) pv.length (fun b => F (FE pv.length i pv.length) b * v % p) eu m 150 [.agg #[.slice none 0 0, .int .i64 v, .int .i64 p]] h' hO ht hr hc call150 (fun k hk m' hO' => SU v p k _ h' hp (hd0 _ (by rw [hsi]; exact hi) k hk) ⟨Int.le_of_lt hv0, hvp⟩ _)) rfl rfl rfl rfl (fun x h2 ms2 l2 hE => ?_)
    obtain ⟨rfl, m, rfl, hO⟩ := hE
    refine Fe (Qw (Qe (Ab (Ac (Ax (Qf Bh rfl (Ql rfl underlying3 (hA _ _ rfl _) (Qm rfl (Aq (Ag ?_))))))))))
    have hb2 := R2 (v := v) hb.1 ht hi hd0
    refine AD (fun q s hh ms' => ∃ (k : Nat) (m : Hp), q = r - k ∧ s = [(1, .pointer (some ⟨g1, 0, none⟩)), (2, .pointer (some ⟨g2, 0, none⟩)), (4, .pointer (some ⟨g17, 0, none⟩)), (5, vp), (6, .int .i64 j), (7, .int .i64 pv.length), (19, .int .i64 c), (20, .int .i64 j), (60, .int .i64 r), (61, .int .i64 k)] ∧ h' = hh ∧ ms' = [BR g17 p r c eu (ov.flatMap cI), m, m2, AX g2 42 [.int .i64 0, .int .i64 0, .int .i64 0, .slice none 0 0]] ∧ k ≤ r ∧ OwnL cI 1 3 m eu (mat r c (Hi p pv.length i j v F k)))
     (r - 0) _ ⟨0, m, rfl, rfl, rfl, rfl, by omega, by rw [AO (fun a _ b _ => P5 p pv.length i j v F a b)] at hO; exact hO⟩ Qs ?_
    rintro q s hh ms' ⟨k, m, rfl, rfl, rfl, rfl, hkr, hO⟩
    have hcell2 : ∀ a, a < r → ∀ ms, m ∈ ms → Cell h' ms ((Bl (Ch 1 eu (a * c) ((a + 1) * c))).add (j * 1)) (.int .i64 (Hi p pv.length i j v F k a j)) := fun a ha ms hm => ((hO.rd (h := h') hm).row ha).ev hjc
    have hRow2 := fun i hi => (hO.rd (h := h') (ms := [m]) (List.Mem.head _)).row (i := i) hi
    refine Ax (Qm rfl (Aq (Ac ?_)))
    refine AF rfl (fun hltk => ?_) (fun hltk => ?_)
    ·have hk : k < r := by omega
     have eck := AQ c (Hi p pv.length i j v F k k)
     have hn := hb2 k hk j hjc
     have hkk := L4 p pv.length i j v F k
     refine Ai (Ab (Ac (Ag (Ax (Qm rfl (Qm rfl (B3 (Qm rfl (Qm rfl (Qx (AG rfl call146 rfl (CN fun h' hl hm => HT g17 p r c (Hi p pv.length i j v F k) eu _ _ h' (Seg.ofLe (hm _ (List.Mem.head _))) (hO.rdh (hm _ (List.Mem.tail _ (List.Mem.head _)))) (by assumption) hr hc)) rfl (Qm rfl (Qx (Bo (j) (hRow2 k hk).rd rfl underlying24 A8 rfl rfl (by omega) (by omega)) rfl (Ql rfl underlying3 ((hkk j ▸ hcell2 k hk _ (List.Mem.tail _ (List.Mem.head _)))) (Qm rfl (B3 (Qm rfl (Qm rfl (Qm rfl (Qm rfl ?_)))))))))))))))))))
     refine AR (t := 73) rfl (fun hkt => ?_) (fun hkt => ?_)
     ·have hkt' : k ≠ pv.length := by omega
      refine Qg (As rfl rfl) rfl (Qg (Dd rfl rfl rfl) rfl (Qm rfl (Aq ?_)))
      refine AF rfl (fun hn0 => ?_) (fun hn0 => ?_)
      ·refine AW (n := 15) (bs := [true, true, false, true, true, false, true, true, true, true, true, true, false, false, false]) [true, true, false, true, true, false, true, true, true, true, true, true] Cd (by kernel_rfl) (by kernel_rfl) rfl rfl (Qq rfl (Qq rfl (Qq rfl (Qq rfl (QF BE rfl (QL rfl underlying3 (hA0 _) (Qq rfl (Qp rfl (oS rfl) (QF BE rfl (QL rfl underlying3 (hA0 _) ?_))))))))))
       unfold CD
       simp only [List.cons_append, List.nil_append]
       refine Qo 2 rfl (Qx (AG rfl call146 rfl (CN fun h' hl hm => HT g17 p r c (Hi p pv.length i j v F k) eu _ _ h' (Seg.ofLe (hm _ (List.Mem.head _))) (hO.rdh (hm _ (List.Mem.tail _ (List.Mem.head _)))) (by assumption) hr hc)) rfl (Qw (Qo 5 rfl (Qx (AG rfl call146 rfl (CN fun h' hl hm => HT g17 p r c (Hi p pv.length i j v F k) eu _ _ h' (Seg.ofLe (hm _ (List.Mem.head _))) (hO.rdh (hm _ (List.Mem.tail _ (List.Mem.head _)))) (by assumption) hr hc)) rfl (Qw (Qo 12 rfl ?_))))))
       refine Qx (AT Uv [.slice none 0 0, .int .i64 0, .int .i64 0] [(0, _), (1, _), (2, _)] [_, _, _] rfl Uk rfl rfl (by repeat (first | exact trivial | refine ⟨⟨rfl, rfl, rfl⟩, ?_⟩ | refine ⟨⟨((hRow2 pv.length ht).rd).cells, rfl, rfl⟩, ?_⟩)) rfl) rfl ?_
       refine Qw (Qo 13 rfl (Qx (CE rfl rfl rfl) rfl (Qw (Qo 14 rfl (Fe ?_)))))
       refine Bs (pre := [m]) rfl call148 rfl (Nl r c (Hi p pv.length i j v F k) k (fun b => (De p pv.length i v F k b + De p pv.length i v F pv.length b * (p - De p pv.length i v F k j)) % p) eu m 151 [.agg #[Ch 1 eu (pv.length * c) ((pv.length + 1) * c), .int .i64 (p - De p pv.length i v F k j), .int .i64 p]] h' hO hk hr hc call151 (fun b hbc m' hO' => CN fun h'' hl hm => by have := Vu r c _ eu pv.length b (p - De p pv.length i v F k j) p (Hi p pv.length i j v F k k b) h'' (hO'.rdh (hm _ (List.Mem.head _))) ht hbc hp (by rw [L4]; exact hb2 k hk b hbc) (by rw [turn_ne _ _ _ _ _ _ (Ne.symm hkt'), Uw]; exact hb2 _ ht b hbc) (by omega); rw [turn_ne _ _ _ _ _ _ (Ne.symm hkt'), Uw, L4] at this; rw [L4]; exact this)) rfl rfl rfl rfl (fun x h2 ms2 l2 hE => ?_)
       obtain ⟨rfl, m, rfl, hO⟩ := hE
       refine Fe (Qw (Qe (Aj (Ab (Ad (Qx (oA rfl) rfl (Qm rfl (Ak ?_))))))))
       refine Al (r - (k + 1)) _ (by omega) ⟨k + 1, m, rfl, rfl, rfl, rfl, by omega, by rw [AO (fun a _ b _ => RN p pv.length i j v F k a b hkt')] at hO; exact hO⟩ Qs
      ·refine Ai (Aj (Ab (Ad (Qx (oA rfl) rfl (Qm rfl (Ak ?_))))))
       refine Al (r - (k + 1)) _ (by omega) ⟨k + 1, m, rfl, rfl, rfl, rfl, by omega, ?_⟩ Qs
       rw [AO (fun a _ b hbc => IJ p pv.length i j v F k a b (.inr ⟨by omega, hb2 k hk b hbc⟩))] at hO
       exact hO
     ·refine Qk rfl (Qk rfl (Qm rfl (Aq (Bb rfl (Ai (Aj (Ab (Ad (Qx (oA rfl) rfl (Qm rfl (Ak ?_)))))))))))
      refine Al (r - (k + 1)) _ (by omega) ⟨k + 1, m, rfl, rfl, rfl, rfl, by omega, ?_⟩ Qs
      rw [AO (fun a _ b hbc => IJ p pv.length i j v F k a b (.inl (by omega)))] at hO
      exact hO
    ·obtain rfl : k = r := by omega
     refine Aw (Aa (Aa (Af (Ab (Ax (Qm rfl (Qm rfl ?_)))))))
     refine AB [_] rfl underlying24 A8 rfl (by rfl) rfl rfl (by omega) rfl rfl rfl (fun g95 => ?_)
     refine Bm 3 hO2 (RdL.one Br (List.Mem.head _) rfl) rfl underlying24 A8 rfl (by omega) rfl rfl rfl Cv (by simp only [EF, List.length_singleton]; omega) (by simp only [EF, List.length_singleton]; omega) rfl rfl rfl (fun vp' m2' hO2' => ?_)
     rw [LV] at hO2'
     refine Qm rfl (Aq (Aw (Hf rfl (Aa (Aa (Hf rfl (Af (Ab (Ad (Qx (oA rfl) rfl (Qm rfl (Ak (A5 ?_)))))))))))))
     refine Al (c - (j + 1)) _ (by omega) ⟨j + 1, J0 p pv.length i j v F, pv ++ [j], vp', ov, m, m2', rfl, rfl, rfl, rfl, by omega, by rw [AO (fun a ha b _ => NZ p pv.length i j v F k a b ha)] at hO; exact hO, hO2', hRed.step hb.1 hi hli hjc hv1, hov⟩ Qs
  ·refine Aw (Aa (Aa (Af (Aj (Ab (Ad (Qx (oA rfl) rfl (Qm rfl (Ak ?_)))))))))
   refine Al (c - (j + 1)) _ (by omega) ⟨j + 1, F, pv, vp, ov, m, m2, rfl, rfl, rfl, rfl, by omega, hO, hO2, hRed.skip fun a ha hl => hno a hl (by omega), hov⟩ Qs
 ·obtain rfl : j = c := by omega
  refine Aw (Aa (Aa (Af (Ab (Ax (Qm rfl (Qm rfl (Qf ED rfl (Qx (oG rfl underlying42 AI (Tw rfl)) rfl (Qm rfl ?_))))))))))
  refine Sa 3 [_, _, _, _] AI rfl (by simp [e2]) ?_
  refine Qm rfl (Aq (Ao (Kx (A5 ?_))))
  exact CX (vs := [_, _, _, _]) 2 rfl rfl rfl underlying42 rfl AI rfl rfl (⟨Hp.le_trans l1 hle, F, pv, eu, vp, m, m2, rfl, rfl, hO, hO2, ⟨hRed⟩⟩)
end Go.Proofs.YtdnelknieikbaaaGreat
namespace Go.Proofs.YtdnelknieikbaaaGreat
open Tryz
open Go.Eng Go.RowKit Go.Lin
theorem Eh (p : Int) (r c : Nat) (f : Nat → Nat → Int) (ev : Value) (h : Hp) (R : RtM p r c f) (hR : RdL cI 1 h [] ev (mat r c f)) :
  FnT Tryz.prog 120 #[.agg #[.int .i64 p, .int .i64 r, .int .i64 c, ev]] h [] (fun x h' ms' => h.le h' ∧ ∃ (F : Nat → Nat → Int) (pv : List Nat) (eu vp : Value) (m m2 : Hp), x = .tuple #[.agg #[.int .i64 p, .int .i64 r, .int .i64 c, eu], vp] ∧ ms' = [m, m2] ∧ OwnL cI 1 3 m eu (mat r c F) ∧ OwnL cI 1 3 m2 vp (HY pv) ∧ Ho p r c f F pv) := by
 refine Av func120 ntmps120 rfl rfl (fun w0 hw0 => ?_)
 simp only [A4]
 refine Ax ?_
 refine AS [_, _, _, _] rfl rfl (by rfl) rfl rfl rfl (fun g1 => ?_)
 refine BZ [.int .i64 0, .int .i64 0, .int .i64 0, .slice none 0 0] rfl AI rfl rfl (fun g2 => Qm rfl (Aq (Ac (Ax (Qx (oG rfl underlying42 AI (Seg.blk 1 rfl)) rfl (Qx (AG rfl call73 rfl (Nv R hR _)) rfl (Qm rfl (Aq (Bb rfl (Ai (Ab (Ax (Qx (oG rfl underlying42 AI (Seg.blk 1 rfl)) rfl ?_)))))))))))))
 refine Qc call136 rfl (JN p r c f ev h R.pr R.rl (by have := R.cl; omega) R.en hR) (fun x h1 ms1 l1 hF => ?_)
 obtain ⟨l2, F, pv, eu, vp, m, m2, rfl, rfl, hO, hO2, hE⟩ := hF
 have oe : eu.oneCell' = true := (hO.rd (h := h) (ms := [m]) (List.Mem.head _)).rd.one
 refine Qm rfl (Qm rfl ?_)
 refine Sa 2 [_, _, _, _] AI rfl (by simp [oe]) ?_
 refine Qm rfl (Aq (Ao (AP 3 rfl ?_)))
 exact CX (vs := [_, _, _, _]) 2 rfl rfl rfl underlying42 rfl AI rfl rfl (⟨l1, F, pv, eu, vp, m, m2, rfl, rfl, hO, hO2, hE⟩)
theorem R5 (p : Int) (r c : Nat) (f : Nat → Nat → Int) (ev : Value) (h : Hp) (R : RtM p r c f) (hR : RdL cI 1 h [] ev (mat r c f)) :
  FnT Tryz.prog 96 #[.agg #[.int .i64 p, .int .i64 r, .int .i64 c, ev]] h [] (fun x h' ms' => h.le h' ∧ ms' = [] ∧ ∃ (F : Nat → Nat → Int) (pv : List Nat), x = .int .i64 pv.length ∧ Ho p r c f F pv) := by
 refine Av func96 ntmps96 rfl rfl (fun w0 hw0 => ?_)
 simp only [A4]
 refine Ax ?_
 refine AS [_, _, _, _] rfl rfl (by rfl) rfl rfl rfl (fun g1 => ?_)
 refine Qm rfl (B3 (Qx (oG rfl underlying42 AI (Seg.blk 0 rfl)) rfl (Qc call120 rfl (Eh p r c f ev h R hR) (fun x h1 ms1 l1 hF => ?_))))
 obtain ⟨l2, F, pv, eu, vp, m, m2, rfl, rfl, hO, hO2, hE⟩ := hF
 have oe : eu.oneCell' = true := (hO.rd (h := h) (ms := [m]) (List.Mem.head _)).rd.one
 refine Qm rfl (Qm rfl (Qm rfl (BZ [.int .i64 0, .int .i64 0, .int .i64 0, .slice none 0 0] rfl AI rfl rfl (fun g3 => ?_))))
 refine Sa 0 [_, _, _, _] AI rfl (by simp [oe]) ?_
 refine Qm rfl (B3 (Qm rfl (Qx (CH (DA (h := h) (ms := [m2]) hO2 (List.Mem.head _)) rfl underlying24 rfl) rfl (Qm rfl (Aq (Ao (AP 3 rfl (AP 2 rfl (AP 1 rfl (AP 0 rfl ?_))))))))))
 exact Am rfl rfl (⟨l1, rfl, F, pv, rfl, hE⟩)
theorem Rj (p : Int) (r c c' : Nat) (f g : Nat → Nat → Int) (ev eu : Value) (h : Hp) (R : RtM p r c f) (S : RtM p r c' g) (hcc : c + c' ≤ 400) (hR : RdL cI 1 h [] ev (mat r c f)) (hS : RdL cI 1 h [] eu (mat r c' g)) :
  FnT Tryz.prog 138 #[.agg #[.int .i64 p, .int .i64 r, .int .i64 c, ev], .agg #[.int .i64 p, .int .i64 r, .int .i64 c', eu]] h [] (fun x h' ms' => h.le h' ∧ ∃ v, x = .tuple #[v, .bool true] ∧ Ez v ms' (EM p r (c + c') (jn c f g))) := by
 have hb := R.bd
 have rl := R.rl
 have kl := R.cl
 have cl := S.cl
 refine Av func138 ntmps138 rfl rfl (fun w0 hw0 => ?_)
 simp only [A4]
 refine Ax ?_
 refine AS [_, _, _, _] rfl rfl (by rfl) rfl rfl rfl (fun g2 => ?_)
 refine AS [_, _, _, _] rfl rfl (by rfl) rfl rfl rfl (fun g3 => ?_)
 refine BZ [.int .i64 0, .int .i64 0, .int .i64 0, .slice none 0 0] rfl AI rfl rfl (fun g4 => Qm rfl (Aq (Ac (Ax (Qx (oG rfl underlying42 AI (Seg.blk 2 rfl)) rfl (Qx (oG rfl underlying42 AI (Seg.blk 1 rfl)) rfl (Qx (AG rfl call121 rfl (MT R S hR hS _)) rfl (Qm rfl (Qm rfl (Qg (oF Bh rfl) rfl (Qg (oL rfl underlying3 (Cell.blk 2 rfl rfl)) rfl (Qg (oF Bh rfl) rfl (Qg (oL rfl underlying3 (Cell.blk 1 rfl rfl)) rfl (Qg (B4 rfl rfl rfl) rfl (Qm rfl (Qm rfl ?_))))))))))))))))
 refine AR (t := 17) rfl (fun hs => ?_) (fun hs => ?_)
 ·exact absurd hs (by simp)
 ·refine Qg (oF A0 rfl) rfl (Qg (oL rfl underlying3 (Cell.blk 2 rfl rfl)) rfl (Qg (oF A0 rfl) rfl (Qg (oL rfl underlying3 (Cell.blk 1 rfl rfl)) rfl (Qg (oA rfl) rfl (Qg (Dd rfl rfl rfl) rfl (Qm rfl (Aq (AF rfl (fun hc => absurd hc (by omega)) (fun hc => Ai (Ab (Ax (Qx (oG rfl underlying42 AI (Seg.blk 2 rfl)) rfl (Qx (oG rfl underlying42 AI (Seg.blk 1 rfl)) rfl (Qc call137 rfl (NC p r c c' f g ev eu h R S hR hS) (fun v h1 ms1 l1 hF => ?_)))))))))))))))
  obtain ⟨l2, ew, m, rfl, rfl, hO⟩ := hF
  have oe : ew.oneCell' = true := (hO.rd (h := h) (ms := [m]) (List.Mem.head _)).rd.one
  refine Sa 1 [_, _, _, _] AI rfl (by simp [oe]) ?_
  refine Qm rfl (Aq (Ao (AP 3 rfl (AP 2 rfl ?_))))
  exact CX (vs := [_, _, _, _]) 1 rfl rfl rfl underlying42 rfl AI rfl rfl (⟨l2, _, rfl, ew, m, rfl, rfl, hO⟩)
end Go.Proofs.YtdnelknieikbaaaGreat
namespace Go.Proofs.YtdnelknieikbaaaGreat
open Tryz
open Go.Eng Go.RowKit Go.Lin
theorem J7 {h : Hp} {ms : List Hp} {m2 : Hp} {vp : Value} {pv : List Nat} (O : OwnL cI 1 3 m2 vp (HY pv)) (hm : m2 ∈ ms) {k : Nat} (hk : k < pv.length) : Cell h ms ((Bl vp).add (k * 1)) (.int .i64 ((pv.getD k 0 : Nat) : Int)) := by
 have hl : k < (HY pv).length := by rw [EF]; exact hk
 have := (O.rd (h := h) hm).cell0 hl (u := .int .i64 (HY pv)[k]) rfl
 have e : (HY pv)[k] = ((pv.getD k 0 : Nat) : Int) := by simp [HY, List.getD_eq_getElem?_getD, hk]
 rw [e] at this
 exact this
theorem Cn {pv : List Nat} {k : Nat} (hk : k < pv.length) : pv.getD k 0 = pv[k] := by simp [List.getD_eq_getElem?_getD, hk]
def FL (pv : List Nat) (f : Nat → Nat → Int) (a b : Nat) : Int := f a (pv.getD b 0)
def IR (pv : List Nat) (f : Nat → Nat → Int) (i k a b : Nat) : Int := if a < i ∨ (a = i ∧ b < k) then FL pv f a b else 0
theorem OW (pv : List Nat) (f : Nat → Nat → Int) (i k a b : Nat) : DB (IR pv f i k) i k (f i (pv.getD k 0)) a b = IR pv f i (k + 1) a b := by
 unfold DB IR
 by_cases h : a = i ∧ b = k
 ·obtain ⟨rfl, rfl⟩ := h
  rw [if_pos ⟨rfl, rfl⟩, if_pos (by omega)]; rfl
 ·rw [if_neg h]
  by_cases h2 : a < i ∨ (a = i ∧ b < k)
  ·rw [if_pos h2, if_pos (by omega)]
  ·rw [if_neg h2, if_neg (by omega)]
theorem QG (pv : List Nat) (f : Nat → Nat → Int) (i n a b : Nat) (hb : b < n) : IR pv f i n a b = IR pv f (i + 1) 0 a b := by
 unfold IR
 by_cases h2 : a < i ∨ (a = i ∧ b < n)
 ·rw [if_pos h2, if_pos (by omega)]
 ·rw [if_neg h2, if_neg (by omega)]
theorem O7 (pv : List Nat) (f : Nat → Nat → Int) (a b : Nat) : IR pv f 0 0 a b = 0 := if_neg (by omega)
theorem Sv (pv : List Nat) (f : Nat → Nat → Int) (r a b : Nat) (ha : a < r) : IR pv f r 0 a b = FL pv f a b := if_pos (.inl ha)
theorem Li (p : Int) (r c : Nat) (f : Nat → Nat → Int) (ev : Value) (h : Hp) (R : RtM p r c f) (hR : RdL cI 1 h [] ev (mat r c f)) :
  FnT Tryz.prog 133 #[.agg #[.int .i64 p, .int .i64 r, .int .i64 c, ev]] h [] (fun x h' ms' => h.le h' ∧ ∃ (F : Nat → Nat → Int) (pv : List Nat), Ho p r c f F pv ∧ Ez x ms' (EM p r pv.length (FL pv f))) := by
 have hb := R.bd
 have rl := R.rl
 have cl := R.cl
 have o1 := hR.rd.one
 refine Av func133 ntmps133 rfl rfl (fun w0 hw0 => ?_)
 simp only [A4]
 refine Ax ?_
 refine AS [_, _, _, _] rfl rfl (by rfl) rfl rfl rfl (fun g1 => ?_)
 refine BD fun h1 l1 hS => ?_
 have hR := hR.up l1
 have hA := Seg.all hS
 have hA0 := hA 0 _ rfl
 refine BZ [.int .i64 0, .int .i64 0, .int .i64 0, .slice none 0 0] rfl AI rfl rfl (fun g2 => B3 (Qx (oG rfl underlying42 AI (Seg.any hS)) rfl (Qc call120 rfl (Eh p r c f ev h1 R hR) (fun x h2 ms1 l2 hF => ?_))))
 obtain ⟨l2, F, pv, eu, vp, m, m2, rfl, rfl, hO, hO2, hE⟩ := hF
 have hR := hR.up l2
 have hA : ∀ i v, ([Value.int .i64 p, .int .i64 r, .int .i64 c, ev] : List Value)[i]? = some v → ∀ ms, Cell h2 ms ((⟨g1, 0, none⟩ : Addr).add i) v := fun i v hv => Seg.all (hS.le l2) i v hv
 have hA0 := hA 0 _ rfl
 have oe : eu.oneCell' = true := (hO.rd (h := h) (ms := [m]) (List.Mem.head _)).rd.one
 have ovp : vp.oneCell' = true := (hO2.rd (h := h) (ms := [m2]) (List.Mem.head _)).rd.one
 have hlen := hE.red.len
 refine Qm rfl (Qm rfl (Qm rfl (BZ [.int .i64 0, .int .i64 0, .int .i64 0, .slice none 0 0] rfl AI rfl rfl (fun g3 => ?_))))
 refine Sa 0 [_, _, _, _] AI rfl (by simp [oe]) ?_
 refine Qm rfl (Aq (Ac (Ax (Qf BE rfl (Ql rfl underlying3 (Cell.blk 0 rfl rfl) (Qm rfl (Aq (AF rfl (fun hc => absurd hc (by omega)) (fun hc => Ai (Ab (Ax (Qf BE rfl (Ql rfl underlying3 (hA0 _) (Qf Bh rfl (Ql rfl underlying3 (hA _ _ rfl _) (Qm rfl (Qx (CH (DA (h := h) (ms := [m2]) hO2 (List.Mem.head _)) rfl underlying24 rfl) rfl (Qc call106 rfl (GB p r pv.length h2 R.i64) (fun v h3 ms3 l3 hF => ?_)))))))))))))))))))
 obtain ⟨rfl, ew, mz, rfl, rfl, hOz⟩ := hF
 rw [DO R.pr rl (by omega)] at hOz ⊢
 have ow : ew.oneCell' = true := (hOz.rd (h := h) (ms := [mz]) (List.Mem.head _)).rd.one
 refine BZ [.int .i64 0, .int .i64 0, .int .i64 0, .slice none 0 0] rfl AI rfl rfl (fun g5 => ?_)
 refine Sa 0 [_, _, _, _] AI rfl (by simp [ow]) ?_
 refine Aq (Ac (Ax (Qf Bh rfl (Ql rfl underlying3 (hA _ _ rfl _) (Qm rfl (Aq (Ag ?_)))))))
 refine AD (fun q s hh ms' => ∃ (i : Nat) (mz : Hp), q = r - i ∧ s = [(1, .pointer (some ⟨g1, 0, none⟩)), (2, .pointer (some ⟨g2, 0, none⟩)), (4, vp), (5, .pointer (some ⟨g5, 0, none⟩)), (26, .int .i64 r), (27, .int .i64 i)] ∧ h2 = hh ∧ ms' = [AX g5 42 [.int .i64 p, .int .i64 r, .int .i64 pv.length, ew], mz, AX g3 42 [.int .i64 p, .int .i64 r, .int .i64 c, eu], m, m2, AX g2 42 [.int .i64 0, .int .i64 0, .int .i64 0, .slice none 0 0]] ∧ i ≤ r ∧ OwnL cI 1 3 mz ew (mat r pv.length (IR pv f i 0)))
  (r - 0) _ ⟨0, mz, rfl, rfl, rfl, rfl, by omega, by rw [AO (fun a _ b _ => O7 pv f a b)]; exact hOz⟩ Qs ?_
 rintro q s hh ms' ⟨i, mz, rfl, rfl, rfl, rfl, hi, hOz⟩
 refine Ax (Qm rfl (Aq (Ac ?_)))
 refine AF rfl (fun hlt => ?_) (fun hlt => ?_)
 ·have hir : i < r := by omega
  refine Ai (Ab (Ac (Ag (Ax (Qm rfl (Qm rfl (B3 (Qm rfl (Qx (CH (DA (h := h) (ms := [m2]) hO2 (List.Mem.head _)) rfl underlying24 rfl) rfl (Qm rfl (Aq (Ag ?_))))))))))))
  refine AD (fun q s hh ms' => ∃ (k : Nat) (mz : Hp), q = pv.length - k ∧ s = [(1, .pointer (some ⟨g1, 0, none⟩)), (2, .pointer (some ⟨g2, 0, none⟩)), (4, vp), (5, .pointer (some ⟨g5, 0, none⟩)), (6, .int .i64 i), (26, .int .i64 r), (27, .int .i64 i), (30, vp), (31, .int .i64 pv.length), (32, .int .i64 k)] ∧ h2 = hh ∧ ms' = [AX g5 42 [.int .i64 p, .int .i64 r, .int .i64 pv.length, ew], mz, AX g3 42 [.int .i64 p, .int .i64 r, .int .i64 c, eu], m, m2, AX g2 42 [.int .i64 0, .int .i64 0, .int .i64 0, .slice none 0 0]] ∧ k ≤ pv.length ∧ OwnL cI 1 3 mz ew (mat r pv.length (IR pv f i k)))
   (pv.length - 0) _ ⟨0, mz, rfl, rfl, rfl, rfl, by omega, hOz⟩ Qs ?_
  rintro q s hh ms' ⟨k, mz, rfl, rfl, rfl, rfl, hk, hOz⟩
  refine Ax (Qm rfl (Aq (Ac ?_)))
  refine AF rfl (fun hlt2 => ?_) (fun hlt2 => ?_)
  ·have hkl : k < pv.length := by omega
   have hpc : pv.getD k 0 < c := by rw [Cn hkl]; exact hE.red.lt k hkl
   have hix := Cp hir hkl
   have hix2 := Cp hir hpc
   have hrc : r * c ≤ 400 * 400 := Nat.mul_le_mul rl cl
   have hrn : r * pv.length ≤ 400 * 400 := Nat.mul_le_mul rl (by omega)
   have el : (mat r c f).length = r * c := AY _ _ _
   have el2 : (mat r pv.length (IR pv f i k)).length = r * pv.length := AY _ _ _
   refine Ai (Ab (Ac (Ag (Ax (Qm rfl (Qx (Bo _ (DA (h := h) (ms := [m2]) hO2 (List.Mem.head _)) rfl underlying24 A8 rfl rfl rfl (by omega)) rfl ?_))))))
   refine Ql rfl underlying3 (J7 hO2 (by simp) hkl) ?_
   refine Qm rfl (Qm rfl (Aq (BB 18 Cd (by kernel_rfl) rfl (Wf Bc rfl (Wl rfl underlying24 (Cell.blk 0 rfl rfl) (Wm rfl (Wm rfl (AV (CH (DA (h := h) (ms := [m2]) hO2 (List.Mem.head _)) rfl underlying24 rfl) rfl rfl (AV (oM rfl) rfl rfl (Wm rfl (AV (oA rfl) rfl rfl (Wf Bc rfl (Wl rfl underlying24 (hA _ _ rfl _) (Wm rfl (Wf A0 rfl (Wl rfl underlying3 (hA _ _ rfl _) (AV (oM rfl) rfl rfl (Wm rfl (AV (oA rfl) rfl rfl (AV (Ah (i * c + pv.getD k 0) hR.rd.any rfl underlying24 A8 rfl rfl (by omega) (by omega)) rfl rfl (Wl rfl underlying3 (hR.any.ent hir hpc) (BC (Qx (Ah (i * pv.length + k) (hOz.rd (List.Mem.tail _ (List.Mem.head _))).rd rfl underlying24 A8 rfl rfl (by omega) (by omega)) rfl (Bu 1 (i * pv.length + k) hOz rfl A8 rfl rfl rfl (by omega) rfl rfl (fun m' hO' => Ak (Aj (Ab (Ad (Qx (oA rfl) rfl (Qm rfl (Ak ?_)))))))))))))))))))))))))))))))
   refine Al (pv.length - (k + 1)) _ (by omega) ⟨k + 1, m', rfl, rfl, rfl, rfl, by omega, ?_⟩ Qs
   rw [C4 _ hkl, AO (fun a _ b _ => OW pv f i k a b)] at hO'
   exact hO'
  ·refine Aw (Aa (Aa (Af (Aj (Ab (Ad (Qx (oA rfl) rfl (Qm rfl (Ak ?_)))))))))
   refine Al (r - (i + 1)) _ (by omega) ⟨i + 1, mz, rfl, rfl, rfl, rfl, by omega, ?_⟩ Qs
   rw [show k = pv.length by omega, AO (fun a _ b hb => QG pv f i pv.length a b hb)] at hOz
   exact hOz
 ·refine Aw (Aa (Aa (Af (Ab (Ax (Qx (oG rfl underlying42 AI (Seg.blk 0 rfl)) rfl ?_))))))
  refine Sa 5 [_, _, _, _] AI rfl (by simp [ow]) ?_
  refine Aq (Ao (AP 4 rfl (AP 3 rfl (AP 2 rfl (AP 0 rfl ?_)))))
  exact Cl (vs := [_, _, _, _]) 1 rfl rfl underlying42 rfl AI rfl rfl (⟨Hp.le_trans l1 l2, F, pv, hE, ew, mz, rfl, rfl, by rw [show i = r by omega, AO (fun a ha b _ => Sv pv f r a b ha)] at hOz; exact hOz⟩)
end Go.Proofs.YtdnelknieikbaaaGreat
namespace Go.Proofs.YtdnelknieikbaaaGreat
open Tryz
open Go.Eng Go.RowKit Go.Lin
theorem QT (l : List Int) (x : Int) (vl : Value) (h : Hp) (hR : RdL cI 1 h [] vl l) :
  FnT Tryz.prog 145 #[vl, .int .i64 x] h [] (fun r _ _ => r = .int .i64 (TE l fun y => decide (x = y))) := by
 have hl := hR.len_le
 refine Av func145 ntmps145 rfl rfl (fun w0 hw0 => ?_)
 simp only [A4]
 refine Ax (Qm rfl (Aq (Ac (Ax (Qm rfl (Qx (AJ hR.rd.any rfl underlying24 rfl) rfl (Qm rfl (Aq (Ag ?_)))))))))
 refine AD (fun n s h' ms' => ∃ (k : Nat), n = l.length - k ∧ s = [(0, vl), (1, .int .i64 x), (7, .int .i64 l.length), (8, .int .i64 k)] ∧ h = h' ∧ ms' = [] ∧ k ≤ l.length ∧ ∀ j (hj : j < l.length), j < k → decide (x = l[j]) = false)
  (l.length - 0) _ ⟨0, rfl, rfl, rfl, rfl, by omega, fun j hj h => by omega⟩ Qs ?_
 rintro n s h' ms' ⟨k, rfl, rfl, rfl, rfl, hk, hno⟩
 refine Ax (Qm rfl (Aq (Ac ?_)))
 refine AF rfl (fun hlt => ?_) (fun hlt => ?_)
 ·have hlt' : k < l.length := by omega
  refine Ai (Ab (Ac (Ag (Ax (Qm rfl (Qm rfl (B3 (Qm rfl (Qm rfl (Qm rfl (Qx (Ah _ hR.rd.any rfl underlying24 A8 rfl rfl rfl (by omega)) rfl (Ql rfl underlying3 (hR.any.cell0 hlt' rfl) (Qm rfl (Aq ?_))))))))))))))
  refine AF rfl (fun hpk => ?_) (fun hpk => ?_)
  ·refine Ac (Ad (Qm rfl (Qm rfl (Aq (Ao (Ap (Ae (Ae (Ap (Ae ?_))))))))))
   exact Am rfl rfl (by rw [GA hlt' (decide_eq_true hpk) fun j hj => hno j _ hj])
  ·refine Ai (Aj (Ab (Ad (Qx (oA rfl) rfl (Qm rfl (Ak ?_))))))
   refine Al (l.length - (k + 1)) _ (by omega) ⟨k + 1, rfl, rfl, rfl, rfl, by omega, fun j hj h1 => ?_⟩ Qs
   rcases (by omega : j < k ∨ j = k) with h2 | rfl
   ·exact hno j hj h2
   ·exact decide_eq_false hpk
 ·refine Aw (Aa (Aa (Af (Ab (Ax (Qm rfl (Aq (Ao ?_))))))))
  exact Am rfl rfl (by rw [Hc fun j hj => hno j hj (by omega)])
theorem JY (pv : List Nat) (j : Nat) : ((HY pv).any fun y => decide ((j : Int) = y)) = pv.contains j := by
 rw [Bool.eq_iff_iff, List.any_eq_true, List.contains_iff_mem]
 constructor
 ·rintro ⟨x, hx, he⟩
  obtain ⟨k, hk, rfl⟩ := List.mem_map.1 hx
  have : j = k := by have := of_decide_eq_true he; omega
  rw [this]; exact hk
 ·exact fun h => ⟨j, List.mem_map.2 ⟨j, h, rfl⟩, decide_eq_true rfl⟩
theorem LH (pv : List Nat) (j : Nat) (vl : Value) (h : Hp) (hR : RdL cI 1 h [] vl (HY pv)) :
  FnT Tryz.prog 135 #[vl, .int .i64 j] h [] (fun r _ _ => r = .bool (pv.contains j)) := by
 refine Av func135 ntmps135 rfl rfl (fun w0 hw0 => ?_)
 simp only [A4]
 refine Ax (Qm rfl (B3 (Qm rfl (Qm rfl (Qx (AG rfl call145 rfl (Ds (QT (HY pv) j vl h hR) _)) rfl (Qm rfl (Qm rfl (Aq (Ao ?_)))))))))
 exact Am rfl rfl (by rw [N0, JY])
def L5 (pv : List Nat) (p : Int) (F : Nat → Nat → Int) (j i a : Nat) : Int := if a = j then 1 else if pv.idxOf a < i then (p - F (pv.idxOf a) j) % p else 0
def Fy (pv : List Nat) (p : Int) (F : Nat → Nat → Int) (c a s : Nat) : Int := L5 pv p F ((Er pv c).getD s 0) pv.length a
def LL (pv : List Nat) (p : Int) (F : Nat → Nat → Int) (c n a s : Nat) : Int := if s < n then Fy pv p F c a s else 0
def KF (pv : List Nat) (p : Int) (F : Nat → Nat → Int) (c n j i a s : Nat) : Int := if s < n then Fy pv p F c a s else if s = n then L5 pv p F j i a else 0
theorem OM (pv : List Nat) (p : Int) (F : Nat → Nat → Int) (c n j a s : Nat) : DB (LL pv p F c n) j n 1 a s = KF pv p F c n j 0 a s := by
 unfold DB LL KF L5
 by_cases h1 : s < n
 ·rw [if_neg (by omega), if_pos h1, if_pos h1]
 ·rw [if_neg h1, if_neg h1]
  by_cases h2 : s = n
  ·rw [if_pos h2]
   by_cases h3 : a = j
   ·rw [if_pos ⟨h3, h2⟩, if_pos h3]
   ·rw [if_neg (fun h => h3 h.1), if_neg h3, if_neg (by omega)]
  ·rw [if_neg (fun h => h2 h.2), if_neg h2]
theorem Pz {pv : List Nat} (hs : pv.Pairwise (· < ·)) (p : Int) (F : Nat → Nat → Int) (c n j i a s : Nat) (hi : i < pv.length) (hj : j ∉ pv) : DB (KF pv p F c n j i) (pv.getD i 0) n ((p - F i j) % p) a s = KF pv p F c n j (i + 1) a s := by
 have hg := Cn hi
 have hnd : pv.Nodup := List.Pairwise.imp (fun h => Nat.ne_of_lt h) hs
 have hio : pv.idxOf pv[i] = i := hnd.idxOf_getElem i hi
 have hne : pv.getD i 0 ≠ j := fun h => hj (by rw [← h, hg]; exact List.getElem_mem hi)
 unfold DB KF L5
 by_cases h1 : s < n
 ·rw [if_neg (by omega), if_pos h1, if_pos h1]
 ·rw [if_neg h1, if_neg h1]
  by_cases h2 : s = n
  ·rw [if_pos h2, if_pos h2]
   by_cases h3 : a = pv.getD i 0
   ·rw [if_pos ⟨h3, h2⟩, if_neg (by rw [h3]; exact hne), h3, hg, hio, if_pos (by omega)]
   ·rw [if_neg (fun h => h3 h.1)]
    by_cases h4 : a = j
    ·rw [if_pos h4, if_pos h4]
    ·rw [if_neg h4, if_neg h4]
     have h5 : pv.idxOf a ≠ i := fun h => h3 (by
      have hlt : pv.idxOf a < pv.length := by omega
      rw [hg]
      have := List.getElem_idxOf hlt
      subst h
      exact this.symm)
     by_cases h6 : pv.idxOf a < i
     ·rw [if_pos h6, if_pos (by omega)]
     ·rw [if_neg h6, if_neg (by omega)]
  ·rw [if_neg (fun h => h2 h.2), if_neg h2, if_neg h2]
theorem Se (pv : List Nat) (p : Int) (F : Nat → Nat → Int) (c n j a s : Nat) (hn : (Er pv c).getD n 0 = j) : KF pv p F c n j pv.length a s = LL pv p F c (n + 1) a s := by
 unfold KF LL
 by_cases h1 : s < n
 ·rw [if_pos h1, if_pos (by omega)]
 ·rw [if_neg h1]
  by_cases h2 : s = n
  ·rw [if_pos h2, if_pos (by omega), h2]; unfold Fy; rw [hn]
  ·rw [if_neg h2, if_neg (by omega)]
theorem Ow (pv : List Nat) (p : Int) (F : Nat → Nat → Int) (c a s : Nat) : LL pv p F c 0 a s = 0 := if_neg (by omega)
theorem R3 (pv : List Nat) (p : Int) (F : Nat → Nat → Int) (c n a s : Nat) (hs : s < n) : LL pv p F c n a s = Fy pv p F c a s := if_pos hs
theorem Oh (p : Int) (r c : Nat) (f : Nat → Nat → Int) (ev : Value) (h : Hp) (R : RtM p r c f) (hR : RdL cI 1 h [] ev (mat r c f)) :
  FnT Tryz.prog 114 #[.agg #[.int .i64 p, .int .i64 r, .int .i64 c, ev]] h [] (fun x h' ms' => h.le h' ∧ ∃ (F : Nat → Nat → Int) (pv : List Nat) (n : Nat), Ho p r c f F pv ∧ n + pv.length = c ∧ Ez x ms' (EM p c n (Fy pv p F c))) := by
 have hb := R.bd
 have rl := R.rl
 have cl := R.cl
 have o1 := hR.rd.one
 refine Av func114 ntmps114 rfl rfl (fun w0 hw0 => ?_)
 simp only [A4]
 refine Ax ?_
 refine AS [_, _, _, _] rfl rfl (by rfl) rfl rfl rfl (fun g1 => ?_)
 refine BD fun h1 l1 hS => ?_
 have hR := hR.up l1
 have hA := Seg.all hS
 have hA0 := hA 0 _ rfl
 refine BZ [.int .i64 0, .int .i64 0, .int .i64 0, .slice none 0 0] rfl AI rfl rfl (fun g2 => B3 (Qx (oG rfl underlying42 AI (Seg.any hS)) rfl (Qc call120 rfl (Eh p r c f ev h1 R hR) (fun x h2 ms1 l2 hF => ?_))))
 obtain ⟨l2, F, pv, eu, vp, m, m2, rfl, rfl, hO, hO2, hE⟩ := hF
 have hA : ∀ i v, ([Value.int .i64 p, .int .i64 r, .int .i64 c, ev] : List Value)[i]? = some v → ∀ ms, Cell h2 ms ((⟨g1, 0, none⟩ : Addr).add i) v := fun i v hv => Seg.all (hS.le l2) i v hv
 have hA0 := hA 0 _ rfl
 have oe : eu.oneCell' = true := (hO.rd (h := h) (ms := [m]) (List.Mem.head _)).rd.one
 have ovp : vp.oneCell' = true := (hO2.rd (h := h) (ms := [m2]) (List.Mem.head _)).rd.one
 have hlen := hE.red.len
 have hsort := hE.red.sorted
 have hlt := fun k hk => hE.red.lt k hk
 have hfa : (Er pv c).length + pv.length = c := Oc hsort fun a ha => by
  obtain ⟨k, hk, rfl⟩ := List.mem_iff_getElem.1 ha
  exact hlt k hk
 generalize hn : (Er pv c).length = n at hfa
 refine Qm rfl (Qm rfl (Qm rfl (BZ [.int .i64 0, .int .i64 0, .int .i64 0, .slice none 0 0] rfl AI rfl rfl (fun g3 => ?_))))
 refine Sa 0 [_, _, _, _] AI rfl (by simp [oe]) ?_
 refine Qm rfl (Aq (Ac (Ax (Qf BE rfl (Ql rfl underlying3 (Cell.blk 0 rfl rfl) (Qm rfl (Aq (AF rfl (fun hc => absurd hc (by omega)) (fun hc => Ai (Ab (Ax (Qf BE rfl (Ql rfl underlying3 (hA0 _) (Qf A0 rfl (Ql rfl underlying3 (hA _ _ rfl _) (Qf A0 rfl (Ql rfl underlying3 (hA _ _ rfl _) (Qm rfl (Qx (CH (DA (h := h) (ms := [m2]) hO2 (List.Mem.head _)) rfl underlying24 rfl) rfl (Qx (oS rfl) rfl (Qc call106 rfl (GB p c _ h2 R.i64) (fun v h3 ms3 l3 hF => ?_))))))))))))))))))))))
 rw [show (c : Int) - pv.length = (n : Int) by omega] at hF
 obtain ⟨rfl, ew, mz, rfl, rfl, hOz⟩ := hF
 rw [DO R.pr cl (by omega)] at hOz ⊢
 have ow : ew.oneCell' = true := (hOz.rd (h := h) (ms := [mz]) (List.Mem.head _)).rd.one
 refine BZ [.int .i64 0, .int .i64 0, .int .i64 0, .slice none 0 0] rfl AI rfl rfl (fun g5 => ?_)
 refine Sa 0 [_, _, _, _] AI rfl (by simp [ow]) ?_
 refine B3 (Qm rfl (Aq (Ac (Ax (Qf A0 rfl (Ql rfl underlying3 (hA _ _ rfl _) (Qm rfl (Aq (Ag ?_)))))))))
 refine AD (fun q s hh ms' => ∃ (j : Nat) (mz : Hp) (k : Nat), q = c - j ∧ s = [(1, .pointer (some ⟨g1, 0, none⟩)), (2, .pointer (some ⟨g2, 0, none⟩)), (3, .pointer (some ⟨g3, 0, none⟩)), (4, vp), (5, .pointer (some ⟨g5, 0, none⟩)), (6, .int .i64 k), (30, .int .i64 c), (31, .int .i64 j)] ∧ h2 = hh ∧ ms' = [AX g5 42 [.int .i64 p, .int .i64 c, .int .i64 n, ew], mz, AX g3 42 [.int .i64 p, .int .i64 r, .int .i64 c, eu], m, m2, AX g2 42 [.int .i64 0, .int .i64 0, .int .i64 0, .slice none 0 0]] ∧ j ≤ c ∧ k = (Er pv j).length ∧ OwnL cI 1 3 mz ew (mat c n (LL pv p F c k)))
  (c - 0) _ ⟨0, mz, 0, rfl, rfl, rfl, rfl, by omega, rfl, by rw [AO (fun a _ b _ => Ow pv p F c a b)]; exact hOz⟩ Qs ?_
 rintro q s hh ms' ⟨j, mz, k, rfl, rfl, rfl, rfl, hj, hk, hOz⟩
 refine Ax (Qm rfl (Aq (Ac ?_)))
 refine AF rfl (fun hlt1 => ?_) (fun hlt1 => ?_)
 ·have hjc : j < c := by omega
  refine Ai (Ab (Ac (Ag (Ax (Qm rfl (Qm rfl (Aq (Ac (Ax (Qm rfl (Qm rfl (Qx (AG rfl call135 rfl (CN fun h' hl hm => FnT.toV (LH pv j vp h' (hO2.rdh (hm _ (List.Mem.tail _ (List.Mem.tail _ (List.Mem.tail _ (List.Mem.tail _ (List.Mem.head _)))))))))) rfl (Aq ?_)))))))))))))
  refine BJ rfl (fun hcon => ?_) (fun hcon => ?_)
  ·refine Aw (Aa (Af (Ab (Ad (Qx (oA rfl) rfl (Qm rfl (Ak ?_)))))))
   refine Al (c - (j + 1)) _ (by omega) ⟨j + 1, mz, k, rfl, rfl, rfl, rfl, by omega, by rw [Vy hcon]; exact hk, hOz⟩ Qs
  ·obtain ⟨hat, hkl⟩ := UR hjc hcon
   have hjp : j ∉ pv := by
    intro hm
    rw [List.contains_iff_mem.2 hm] at hcon
    cases hcon
   rw [← hk] at hat
   have hkn : k < n := by omega
   have hix := Cp hjc hkn
   have hcn : c * n ≤ 400 * 400 := Nat.mul_le_mul cl (by omega)
   have el2 : (mat c n (LL pv p F c k)).length = c * n := AY _ _ _
   refine Ai (Ab (Ax (Qf Bc rfl (Ql rfl underlying24 (Cell.blk 0 rfl rfl) (Qm rfl (Qf A0 rfl (Ql rfl underlying3 (Cell.blk 0 rfl rfl) (Qx (oM rfl) rfl (Qm rfl (Qx (oA rfl) rfl (Qx (Ah (j * n + k) (hOz.rd (List.Mem.tail _ (List.Mem.head _))).rd rfl underlying24 A8 rfl rfl (by omega) (by omega)) rfl (Bu 1 (j * n + k) hOz rfl A8 rfl rfl rfl (by omega) rfl rfl (fun mz1 hOz1 => ?_)))))))))))))
   rw [C4 _ hkn, AO (fun a _ b _ => OM pv p F c k j a b)] at hOz1
   refine Aq (Ac (Ax (Qm rfl (Qx (CH (DA (h := h) (ms := [m2]) hO2 (List.Mem.head _)) rfl underlying24 rfl) rfl (Qm rfl (Aq (Ag ?_)))))))
   refine AD (fun q s hh ms' => ∃ (i : Nat) (mz : Hp), q = pv.length - i ∧ s = [(1, .pointer (some ⟨g1, 0, none⟩)), (2, .pointer (some ⟨g2, 0, none⟩)), (3, .pointer (some ⟨g3, 0, none⟩)), (4, vp), (5, .pointer (some ⟨g5, 0, none⟩)), (6, .int .i64 k), (7, .int .i64 j), (30, .int .i64 c), (31, .int .i64 j), (46, vp), (47, .int .i64 pv.length), (48, .int .i64 i)] ∧ h2 = hh ∧ ms' = [AX g5 42 [.int .i64 p, .int .i64 c, .int .i64 n, ew], mz, AX g3 42 [.int .i64 p, .int .i64 r, .int .i64 c, eu], m, m2, AX g2 42 [.int .i64 0, .int .i64 0, .int .i64 0, .slice none 0 0]] ∧ i ≤ pv.length ∧ OwnL cI 1 3 mz ew (mat c n (KF pv p F c k j i)))
    (pv.length - 0) _ ⟨0, mz1, rfl, rfl, rfl, rfl, by omega, hOz1⟩ Qs ?_
   rintro q s hh ms' ⟨i, mz, rfl, rfl, rfl, rfl, hi, hOz⟩
   refine Ax (Qm rfl (Aq (Ac ?_)))
   refine AF rfl (fun hlt2 => ?_) (fun hlt2 => ?_)
   ·have hil : i < pv.length := by omega
    have hir : i < r := by omega
    have hpc : pv.getD i 0 < c := by rw [Cn hil]; exact hlt i hil
    have hix := Cp hpc hkn
    have hix2 := Cp hir hjc
    have hrc : r * c ≤ 400 * 400 := Nat.mul_le_mul rl cl
    have hFb := hE.red.bd i hir j hjc
    have el : (mat r c F).length = r * c := AY _ _ _
    have el2 : (mat c n (KF pv p F c k j i)).length = c * n := AY _ _ _
    refine Ai (Ab (Ac (Ag (Ax (Qm rfl (Qx (Bo _ (DA (h := h) (ms := [m2]) hO2 (List.Mem.head _)) rfl underlying24 A8 rfl rfl rfl (by omega)) rfl ?_))))))
    refine Ql rfl underlying3 (J7 hO2 (by simp) hil) ?_
    refine Qm rfl (Qm rfl (Aq (BB 24 Cd (by kernel_rfl) rfl (Wf Bc rfl (Wl rfl underlying24 (Cell.blk 0 rfl rfl) (Wm rfl (Wf A0 rfl (Wl rfl underlying3 (Cell.blk 0 rfl rfl) (AV (oM rfl) rfl rfl (Wm rfl (AV (oA rfl) rfl rfl (Wf BE rfl (Wl rfl underlying3 (hA0 _) (Wf Bc rfl (Wl rfl underlying24 (Cell.blk 2 rfl rfl) (Wm rfl (Wf A0 rfl (Wl rfl underlying3 (hA _ _ rfl _) (AV (oM rfl) rfl rfl (Wm rfl (AV (oA rfl) rfl rfl (AV (Ah (i * c + j) (hO.rd (List.Mem.tail _ (List.Mem.tail _ (List.Mem.tail _ (List.Mem.head _))))).rd rfl underlying24 A8 rfl rfl (by omega) (by omega)) rfl rfl ?_))))))))))))))))))))))
    refine Wl rfl underlying3 ((hO.rd (by simp)).ent hir hjc) ?_
    refine AV (oS rfl) rfl rfl (Wf BE rfl (Wl rfl underlying3 (hA0 _) (AV (B0 rfl rfl rfl (by omega) (by omega)) rfl rfl (BC (Qx (Ah (pv.getD i 0 * n + k) (hOz.rd (List.Mem.tail _ (List.Mem.head _))).rd rfl underlying24 A8 rfl rfl (by omega) (by omega)) rfl (Bu 1 (pv.getD i 0 * n + k) hOz rfl A8 rfl rfl rfl (by omega) rfl rfl (fun m' hO' => Ak (Aj (Ab (Ad (Qx (oA rfl) rfl (Qm rfl (Ak ?_)))))))))))))
    refine Al (pv.length - (i + 1)) _ (by omega) ⟨i + 1, m', rfl, rfl, rfl, rfl, by omega, ?_⟩ Qs
    rw [C4 _ hkn, AO (fun a _ b _ => Pz hsort p F c k j i a b hil hjp)] at hO'
    exact hO'
   ·refine Aw (Aa (Aa (Af (Ab (Ad (Qm rfl (Qx (oA rfl) rfl (Qm rfl (Ak (Aj (Ab (Ad (Qx (oA rfl) rfl (Qm rfl (Ak ?_)))))))))))))))
    refine Al (c - (j + 1)) _ (by omega) ⟨j + 1, mz, k + 1, rfl, rfl, rfl, rfl, by omega, by rw [Nm hcon, List.length_append, hk]; rfl, ?_⟩ Qs
    rw [show i = pv.length by omega, AO (fun a _ b _ => Se pv p F c k j a b hat)] at hOz
    exact hOz
 ·refine Aw (Aa (Aa (Af (Ab (Ax (Qx (oG rfl underlying42 AI (Seg.blk 0 rfl)) rfl ?_))))))
  refine Sa 5 [_, _, _, _] AI rfl (by simp [ow]) ?_
  refine Aq (Ao ?_)
  obtain rfl : j = c := by omega
  refine AP 4 rfl (AP 3 rfl (AP 2 rfl (AP 0 rfl ?_)))
  exact Cl (vs := [_, _, _, _]) 1 rfl rfl underlying42 rfl AI rfl rfl (⟨Hp.le_trans l1 l2, F, pv, n, hE, hfa, ew, mz, rfl, rfl, by rw [show k = n by omega, AO (fun a _ b hb => R3 pv p F j n a b hb)] at hOz; exact hOz⟩)
end Go.Proofs.YtdnelknieikbaaaGreat
