/- Parts of the proof: Lo Lp Lq Lr Eng39 Ra Rb Rc Rd Re Rf Xn Xo Xp Rg Va Rh Ri Rj. -/
import Derived.Test.YtdnelknieikbaaaGreatTJ
set_option linter.unusedSimpArgs false
set_option linter.unusedVariables false
namespace Go.Lin
def GR (ks : List (Int × Int)) (p : Int × Int → Bool) (c : Int × Int → Nat) : Nat := (ks.map fun a => if p a then c a else 0).sum
theorem KU (p : Int × Int → Bool) (c c' : Int × Int → Nat) : ∀ ks, GR ks p (fun a => c a + c' a) = GR ks p c + GR ks p c'
  | [] => rfl
  | a :: ks => by
    have ih := KU p c c' ks
    unfold GR at ih ⊢
    rw [List.map_cons, List.map_cons, List.map_cons, List.sum_cons, List.sum_cons, List.sum_cons, ih]
    split
    · show (c a + c' a) + _ = _
      omega
    · omega
theorem JQ (p : Int × Int → Bool) (b : Int × Int) : ∀ ks, b ∉ ks → GR ks p (fun a => if b = a then 1 else 0) = 0
  | [], _ => rfl
  | a :: ks, h => by
    have ih := JQ p b ks fun hm => h (by simp [hm])
    unfold GR at ih ⊢
    have hne : b ≠ a := fun e => h (by simp [e])
    rw [List.map_cons, List.sum_cons, ih]
    simp [hne]
theorem KS (p : Int × Int → Bool) (b : Int × Int) : ∀ ks : List (Int × Int), ks.Nodup → b ∈ ks → GR ks p (fun a => if b = a then 1 else 0) = if p b then 1 else 0
  | [], _, h => by simp at h
  | a :: ks, hn, h => by
    obtain ⟨h1, h2⟩ := List.nodup_cons.1 hn
    by_cases e : b = a
    · subst e
      have := JQ p b ks h1
      unfold GR at this ⊢
      rw [List.map_cons, List.sum_cons, this]
      simp
    · have ih := KS p b ks h2 ((List.mem_cons.1 h).resolve_left e)
      unfold GR at ih ⊢
      rw [List.map_cons, List.sum_cons, ih]
      simp [e]
theorem VQ : ∀ ks : List (Int × Int), (ks.map fun _ => 0).sum = 0
  | [] => rfl
  | _ :: ks => by rw [List.map_cons, List.sum_cons, VQ ks]
theorem Qn {D : Dc} {ks : List (Int × Int)} (p : Int × Int → Bool) (hn : ks.Nodup) (hk : ∀ l, l < D.N → ((D.fr l : Int), (D.to l : Int)) ∈ ks) : GR ks p D.ct = cnt D.N fun l => p ((D.fr l : Int), (D.to l : Int)) := by
  have key : ∀ n, n ≤ D.N → GR ks p (fun a => cnt n fun l => decide (((D.fr l : Int), (D.to l : Int)) = a)) = cnt n fun l => p ((D.fr l : Int), (D.to l : Int)) := fun n => by
    induction n with
    | zero =>
      intro _
      unfold GR
      show (ks.map fun a => if p a then 0 else 0).sum = 0
      simp only [ite_self]
      exact VQ ks
    | succ n ih =>
      intro h
      have e : (fun a => cnt (n + 1) fun l => decide (((D.fr l : Int), (D.to l : Int)) = a)) = fun a => (cnt n fun l => decide (((D.fr l : Int), (D.to l : Int)) = a)) + if ((D.fr n : Int), (D.to n : Int)) = a then 1 else 0 := funext fun a => by
        rw [BO]
        simp only [decide_eq_true_eq]
      rw [e, KU, ih (by omega), KS p _ ks hn (hk n (by omega)), BO]
  exact key D.N (Nat.le_refl _)
end Go.Lin
namespace Go.Lin
variable {p : Int} {d n k am : Nat} {w : Nat → Nat → Int} {pl : Nat → Nat} {v : Nat → Int}
abbrev ty (_ : Nat) : Bool := true
structure Rows (p : Int) (d n : Nat) (w : Nat → Nat → Int) (pl : Nat → Nat) : Prop where
  bd : ∀ k, k < n → ∀ i, i < d → 0 ≤ w k i ∧ w k i < p
  lt : ∀ k, k < n → pl k < d
  one : ∀ k, k < n → w k (pl k) = 1
  low : ∀ k, k < n → ∀ i, i < pl k → w k i = 0
  inc : ∀ k l, k < l → l < n → pl k < pl l
theorem cg_dvd {c : Int} : Cg p c 0 ↔ p ∣ c := by unfold Cg; rw [Int.sub_zero]
theorem Rows.coef (R : Rows p d n w pl) {c : Nat → Int} (hk : k < n) (hc : ∀ l, l < k → p ∣ c l) : Cg p (Bj n ty c w (pl k)) (c k) := by
  unfold Bj
  have h : Cg p (sm n fun l => if ty l = true then c l * w l (pl k) else 0) (sm n fun l => if l = k then c l else 0) := Cg.sm fun l hl => by
    show Cg p (c l * w l (pl k)) _
    rcases Nat.lt_trichotomy l k with h | rfl | h
    · rw [if_neg (by omega)]
      exact cg_dvd.2 (Int.dvd_mul_of_dvd_left (hc l h))
    · rw [if_pos rfl, R.one l hl, Int.mul_one]; exact Cg.refl _ _
    · rw [if_neg (by omega), R.low l hl _ (R.inc k l h hl), Int.mul_zero]; exact Cg.refl _ _
  rwa [DP n k c hk] at h
theorem Rows.ind (R : Rows p d n w pl) : Ind p n ty d w := by
  intro c hc l hl _
  induction l using Nat.strongRecOn with
  | ind l ih =>
    have h := R.coef (c := c) hl fun k hk => ih k hk (by omega) rfl
    exact cg_dvd.1 (h.symm.trans (hc _ (R.lt l hl)))
structure Less (p : Int) (d : Nat) (w : Nat → Nat → Int) (pl : Nat → Nat) (am : Nat) (v : Nat → Int) (k : Nat) (out : Nat → Int) : Prop where
  sum : ∃ c : Nat → Int, ∀ i, i < d → Cg p (out i) (v i - sm k fun l => c l * w l i)
  zero : ∀ l, l < k → pl l < am → out (pl l) = 0
  bd : ∀ i, i < d → 0 ≤ out i ∧ out i < p
theorem Less.start (h : ∀ i, i < d → 0 ≤ v i ∧ v i < p) : Less p d w pl am v 0 v :=
  ⟨⟨fun _ => 0, fun i _ => Cg.of_eq (by show v i = v i - 0; omega)⟩, fun l h => by omega, h⟩
theorem Less.skip {out : Nat → Int} (L : Less p d w pl am v k out) (h : am ≤ pl k ∨ out (pl k) = 0) : Less p d w pl am v (k + 1) out := by
  obtain ⟨c, hc⟩ := L.sum
  refine ⟨⟨fun l => if l = k then 0 else c l, fun i hi => (hc i hi).trans (Cg.of_eq ?_)⟩, fun l hl ha => ?_, L.bd⟩
  · show _ = v i - (sm k (fun l => (if l = k then 0 else c l) * w l i) + (if k = k then 0 else c k) * w k i)
    rw [if_pos rfl, Int.zero_mul, Int.add_zero]
    congr 1
    exact AE fun l hl => by rw [if_neg (by omega)]
  · rcases (by omega : l < k ∨ l = k) with h1 | rfl
    · exact L.zero l h1 ha
    · rcases h with h | h
      · omega
      · exact h
theorem Less.step {out out' : Nat → Int} (hp : 0 < p) (R : Rows p d n w pl) (L : Less p d w pl am v k out) (hk : k < n) (ho : ∀ i, i < d → out' i = if pl k ≤ i then (out i - out (pl k) * w k i) % p else out i) : Less p d w pl am v (k + 1) out' := by
  obtain ⟨c, hc⟩ := L.sum
  have key : ∀ i, i < d → Cg p (out' i) (out i - out (pl k) * w k i) := fun i hi => by
    rw [ho i hi]
    split
    · exact Cg.mod _ _
    · rw [R.low k hk i (by omega), Int.mul_zero, Int.sub_zero]; exact Cg.refl _ _
  refine ⟨⟨fun l => if l = k then out (pl k) else c l, fun i hi => (key i hi).trans ?_⟩, fun l hl ha => ?_, fun i hi => ?_⟩
  · refine ((hc i hi).sub (Cg.refl p (out (pl k) * w k i))).trans (Cg.of_eq ?_)
    show _ = v i - (sm k (fun l => (if l = k then out (pl k) else c l) * w l i) + (if k = k then out (pl k) else c k) * w k i)
    have e : sm k (fun l => (if l = k then out (pl k) else c l) * w l i) = sm k fun l => c l * w l i := AE fun l hl => by rw [if_neg (by omega)]
    rw [if_pos rfl, e]
    omega
  · rcases (by omega : l < k ∨ l = k) with h1 | rfl
    · rw [ho _ (R.lt l (by omega)), if_neg (by have := R.inc l k h1 hk; omega)]
      exact L.zero l h1 ha
    · rw [ho _ (R.lt l hk), if_pos (Nat.le_refl _), R.one l hk, Int.mul_one, Int.sub_self, Int.zero_emod]
  · rw [ho i hi]
    split
    · exact ⟨Int.emod_nonneg _ (by omega), Int.emod_lt_of_pos _ hp⟩
    · exact L.bd i hi
theorem Rows.out (R : Rows p d n w pl) {x : Nat → Int} (h0 : ∀ k, k < n → Cg p (x (pl k)) 0) (hs : Spn p n ty d w x) : ∀ i, i < d → Cg p (x i) 0 := by
  obtain ⟨c, hc⟩ := hs
  have hall : ∀ l, l < n → p ∣ c l := fun l => by
    induction l using Nat.strongRecOn with
    | ind l ih =>
      intro hl
      have h := R.coef (c := c) hl fun k hk => ih k hk (by omega)
      exact cg_dvd.1 (h.symm.trans ((hc _ (R.lt l hl)).symm.trans (h0 l hl)))
  intro i hi
  refine (hc i hi).trans ?_
  unfold Bj
  refine (Cg.sm (g := fun _ => 0) fun l hl => ?_).trans (Cg.of_eq (CS n))
  exact cg_dvd.2 (Int.dvd_mul_of_dvd_left (hall l hl))
end Go.Lin
namespace Go.Lin
variable {w : Nat → Nat → Int} {k n i am : Nat} {α : Type} {pl : Nat → Nat}
def fs : Nat → (Nat → Int) → Nat
  | 0, _ => 0
  | d + 1, v => if fs d v < d then fs d v else if v d = 0 then d + 1 else d
theorem Ip (v : Nat → Int) : ∀ d, fs d v ≤ d ∧ (∀ i, i < fs d v → v i = 0) ∧ (fs d v < d → v (fs d v) ≠ 0)
  | 0 => ⟨Nat.le_refl _, fun i hi => by simp [fs] at hi, fun h => by simp [fs] at h⟩
  | d + 1 => by
    obtain ⟨h1, h2, h3⟩ := Ip v d
    unfold fs
    split
    · rename_i h; exact ⟨by omega, h2, fun _ => h3 h⟩
    · rename_i h
      have he : fs d v = d := by omega
      rw [he] at h2
      split
      · rename_i h0
        refine ⟨Nat.le_refl _, fun i hi => ?_, fun h' => by omega⟩
        rcases (by omega : i < d ∨ i = d) with h' | rfl
        · exact h2 i h'
        · exact h0
      · rename_i h0
        exact ⟨by omega, h2, fun _ => h0⟩
theorem ME {d : Nat} {v : Nat → Int} (h : fs d v = d) : ∀ i, i < d → v i = 0 := fun i hi => (Ip v d).2.1 i (by omega)
def Eg (k : Nat) (x : α) (f : Nat → α) (i : Nat) : α := if i < k then f i else if i = k then x else f (i - 1)
theorem DN {x : α} {f : Nat → α} (h : i < k) : Eg k x f i = f i := if_pos h
theorem Dk {x : α} {f : Nat → α} : Eg k x f k = x := by unfold Eg; rw [if_neg (by omega), if_pos rfl]
theorem DM {x : α} {f : Nat → α} (h : k < i) : Eg k x f i = f (i - 1) := by unfold Eg; rw [if_neg (by omega), if_neg (by omega)]
theorem Jk {x : α} {f : Nat → α} : Eg k x f (skip k i) = f i := by
  unfold skip
  split
  · rename_i h; exact DN h
  · rw [DM (by omega)]; rfl
theorem Rows.insert {p : Int} {d : Nat} (R : Rows p d n w pl) {a : Nat} {x : Nat → Int} (hk : k ≤ n) (ha : a < d) (hlo : ∀ l, l < k → pl l < a) (hhi : ∀ l, k ≤ l → l < n → a < pl l) (hb : ∀ i, i < d → 0 ≤ x i ∧ x i < p) (h1 : x a = 1) (h0 : ∀ i, i < a → x i = 0) : Rows p d (n + 1) (Eg k x w) (Eg k a pl) := by
  have C : ∀ {Q : (Nat → Int) → Nat → Prop}, Q x a → (∀ l, l < n → Q (w l) (pl l)) → ∀ l, l < n + 1 → Q (Eg k x w l) (Eg k a pl l) := fun {Q} q1 q2 l hl => by
    rcases Nat.lt_trichotomy l k with h | rfl | h
    · rw [DN h, DN h]; exact q2 l (by omega)
    · rw [Dk, Dk]; exact q1
    · rw [DM h, DM h]; exact q2 _ (by omega)
  refine ⟨C (Q := fun v _ => ∀ i, i < d → 0 ≤ v i ∧ v i < p) hb R.bd, C (Q := fun _ q => q < d) ha R.lt, C (Q := fun v q => v q = 1) h1 R.one, C (Q := fun v q => ∀ i, i < q → v i = 0) h0 R.low, fun i j hij hj => ?_⟩
  rcases Nat.lt_trichotomy i k with h | rfl | h
  · rw [DN h]
    rcases Nat.lt_trichotomy j k with h' | rfl | h'
    · rw [DN h']; exact R.inc i j hij (by omega)
    · rw [Dk]; exact hlo i h
    · rw [DM h']
      rcases (by omega : i < j - 1 ∨ i = j - 1) with e | e
      · exact R.inc i _ e (by omega)
      · omega
  · rw [Dk, DM hij]; exact hhi _ (by omega) (by omega)
  · rw [DM h, DM (by omega)]; exact R.inc _ _ (by omega) (by omega)
theorem U1 (n k : Nat) (c : Nat → Int) (x : Nat → Int) (w : Nat → Nat → Int) (i : Nat) (hk : k ≤ n) : (sm (n + 1) fun l => c l * Eg k x w l i) = (sm n fun l => c (skip k l) * w l i) + c k * x i := by
  rw [ND n k _ (by omega)]
  simp only [Jk, Dk]
structure Sub (p : Int) (d : Nat) (W : (Nat → Int) → Prop) : Prop where
  zero : W fun _ => 0
  cg : ∀ x y, (∀ i, i < d → Cg p (y i) (x i)) → W x → W y
  lin : ∀ x y c, W x → W y → W fun i => x i + c * y i
theorem CR (p : Int) (n d : Nat) (b : Nat → Bool) (w : Nat → Nat → Int) : Sub p d (Spn p n b d w) := by
  refine ⟨⟨fun _ => 0, fun i _ => Cg.of_eq ?_⟩, fun x y h ⟨c, hc⟩ => ⟨c, fun i hi => (h i hi).trans (hc i hi)⟩, fun x y c ⟨a, ha⟩ ⟨e, he⟩ => ⟨fun l => a l + c * e l, fun i hi => ?_⟩⟩
  · unfold Bj
    exact (CL fun l _ => by rw [Int.zero_mul, ite_self]).symm
  · refine ((ha i hi).add ((Cg.refl p c).mul (he i hi))).trans (Cg.of_eq ?_)
    unfold Bj
    rw [← Cb, ← FF]
    refine AE fun l _ => ?_
    cases b l
    · simp
    · simp only [if_true]; rw [Int.add_mul, Int.mul_assoc]
section
variable {p : Int} {d : Nat} {W W' : (Nat → Int) → Prop} {v x out z : Nat → Int}
def Exw (W : (Nat → Int) → Prop) (v y : Nat → Int) : Prop := ∃ c : Int, W fun i => y i - c * v i
theorem Exw.mono (S : Sub p d W) (u : Int) (hz : W z) (h : ∀ i, i < d → Cg p (x i) (u * (v i - z i))) {y : Nat → Int} (hy : Exw W x y) : Exw W v y := by
  obtain ⟨c, hc⟩ := hy
  refine ⟨c * u, S.cg _ _ (fun i hi => ?_) (S.lin _ _ (-(c * u)) hc hz)⟩
  have h1 := (Cg.refl p c).mul (h i hi)
  have h2 := ((Cg.refl p (y i)).sub h1).sub (Cg.refl p (c * u * z i))
  refine Cg.trans (Cg.of_eq ?_) (h2.symm.trans (Cg.of_eq ?_))
  · show y i - c * u * v i = y i - c * (u * (v i - z i)) - c * u * z i
    rw [← Int.mul_assoc, Int.mul_sub]; omega
  · show y i - c * x i - c * u * z i = y i - c * x i + -(c * u) * z i
    rw [Int.neg_mul]; omega
theorem Exw.unit (S : Sub p d W) {u t : Int} (hz : W z) (ho : ∀ i, i < d → Cg p (out i) (v i - z i)) (hx : ∀ i, i < d → Cg p (x i) (u * out i)) (ht : Cg p (t * u) 1) (y : Nat → Int) : Exw W v y ↔ Exw W x y := by
  constructor
  · have hz' : W fun i => 0 + -u * z i := S.lin _ _ (-u) S.zero hz
    refine Exw.mono S t hz' fun i hi => ?_
    -- v ≡ t (x + u z)
    have h1 := (hx i hi).trans ((Cg.refl p u).mul (ho i hi))
    have h2 := (Cg.refl p t).mul (h1.add (Cg.refl p (u * z i)))
    have h3 : Cg p (t * (u * (v i - z i) + u * z i)) (v i) := by
      have := ht.mul (Cg.refl p (v i))
      rw [Int.one_mul] at this
      refine Cg.trans (Cg.of_eq ?_) this
      rw [← Int.mul_add, ← Int.mul_assoc]; congr 1; omega
    refine (h2.trans h3).symm.trans (Cg.of_eq ?_)
    show t * (x i + u * z i) = t * (x i - (0 + -u * z i))
    rw [Int.neg_mul]; congr 1; omega
  · exact Exw.mono S u hz fun i hi => (hx i hi).trans ((Cg.refl p u).mul (ho i hi))
theorem Exw.same (S : Sub p d W) (h : W v) (y : Nat → Int) : W y ↔ Exw W v y := by
  constructor
  · intro hy
    exact ⟨0, S.cg _ _ (fun i _ => Cg.of_eq (by show y i - 0 * v i = y i; rw [Int.zero_mul]; omega)) hy⟩
  · rintro ⟨c, hc⟩
    exact S.cg _ _ (fun i _ => Cg.of_eq (by show y i = y i - c * v i + c * v i; omega)) (S.lin _ _ c hc h)
end
theorem NK {p : Int} {d : Nat} {x : Nat → Int} (hk : k ≤ n) (y : Nat → Int) : Spn p (n + 1) ty d (Eg k x w) y ↔ Exw (Spn p n ty d w) x y := by
  have e : ∀ (c : Nat → Int) (i : Nat), Bj (n + 1) ty c (Eg k x w) i = (sm n fun l => c (skip k l) * w l i) + c k * x i := fun c i => U1 n k c x w i hk
  constructor
  · rintro ⟨c, hc⟩
    refine ⟨c k, fun l => c (skip k l), fun i hi => ?_⟩
    have h := hc i hi
    rw [e] at h
    refine (h.sub (Cg.refl p (c k * x i))).trans (Cg.of_eq ?_)
    show _ = sm n fun l => c (skip k l) * w l i
    omega
  · rintro ⟨c0, c, hc⟩
    refine ⟨Eg k c0 c, fun i hi => ?_⟩
    rw [e, Dk]
    have h := (hc i hi).add (Cg.refl p (c0 * x i))
    refine Cg.trans (Cg.of_eq (by show y i = y i - c0 * x i + c0 * x i; omega)) (h.trans (Cg.of_eq ?_))
    congr 1
    exact AE fun l _ => by rw [Jk]; rfl
theorem KN {p : Int} {d : Nat} (y : Nat → Int) : Spn p (n + 1) ty d w y ↔ Exw (Spn p n ty d w) (w n) y := by
  have h := NK (p := p) (d := d) (n := n) (k := n) (w := w) (x := w n) (Nat.le_refl n) y
  rw [← h]
  have e : ∀ c i, Bj (n + 1) ty c (Eg n (w n) w) i = Bj (n + 1) ty c w i := fun c i => AE fun l hl => by
    rcases (by omega : l < n ∨ l = n) with h | rfl
    · rw [DN h]
    · rw [Dk]
  unfold Spn
  simp only [e]
theorem Exw.congr {W W' : (Nat → Int) → Prop} (h : ∀ y, W y ↔ W' y) (v y : Nat → Int) : Exw W v y ↔ Exw W' v y := by unfold Exw; simp only [h]
def Sp (p : Int) (d n : Nat) (w : Nat → Nat → Int) (m : Nat) (V : Nat → Nat → Int) : Prop := ∀ y, Spn p n ty d w y ↔ Spn p m ty d V y
theorem Less.mem {p : Int} {d : Nat} {v out : Nat → Int} (L : Less p d w pl am v n out) : ∃ z, Spn p n ty d w z ∧ ∀ i, i < d → Cg p (out i) (v i - z i) := by
  obtain ⟨c, hc⟩ := L.sum
  exact ⟨fun i => sm n fun l => c l * w l i, ⟨c, fun i _ => Cg.refl _ _⟩, hc⟩
theorem R9 {p : Int} {d : Nat} {v out : Nat → Int} (L : Less p d w pl am v n out) (h : ∀ i, i < d → out i = 0) (y : Nat → Int) : Spn p n ty d w y ↔ Exw (Spn p n ty d w) v y := by
  obtain ⟨z, hz, ho⟩ := L.mem
  refine Exw.same (CR p n d ty w) ((CR p n d ty w).cg _ _ (fun i hi => ?_) hz) y
  have h1 := ho i hi
  rw [h i hi] at h1
  have h2 := h1.symm.add (Cg.refl p (z i))
  rwa [Int.sub_add_cancel, Int.zero_add] at h2
theorem Ln {p : Int} {d : Nat} {v out x : Nat → Int} {u : Int} (L : Less p d w pl am v n out) (hk : k ≤ n) {t : Int} (hx : ∀ i, i < d → Cg p (x i) (u * out i)) (ht : Cg p (t * u) 1) (y : Nat → Int) : Spn p (n + 1) ty d (Eg k x w) y ↔ Exw (Spn p n ty d w) v y := by
  obtain ⟨z, hz, ho⟩ := L.mem
  rw [NK hk]
  exact (Exw.unit (CR p n d ty w) hz ho hx ht y).symm
theorem Sp.start {p : Int} {d : Nat} {V : Nat → Nat → Int} : Sp p d 0 w 0 V := fun y => Iff.rfl
theorem Sp.next {p : Int} {d n' m : Nat} {w' V : Nat → Nat → Int} (S : Sp p d n w m V) (h : ∀ y, Spn p n' ty d w' y ↔ Exw (Spn p n ty d w) (V m) y) : Sp p d n' w' (m + 1) V := fun y => by
  rw [h, KN]
  exact Exw.congr S _ y
end Go.Lin
namespace Go.Lin
variable {nb no n e f : Nat} {wb wo : Nat → Nat → Int} {p : Int}
def Rl (Z : Zg) (a b : Nat) (u y : Nat → Int) : Prop := ∃ x, SR Z a b x ∧ (∀ i, i < Z.d a → Cg Z.p (x a i) (u i)) ∧ ∀ i, i < Z.d b → Cg Z.p (x b i) (y i)
section
variable {Z : Zg} {a b : Nat} {u y : Nat → Int}
theorem RW : Rl Z a a u y ↔ ∀ i, i < Z.d a → Cg Z.p (u i) (y i) := by
  constructor
  · rintro ⟨x, _, h1, h2⟩ i hi
    exact (h1 i hi).symm.trans (h2 i hi)
  · intro h
    exact ⟨fun _ => u, fun k h1 h2 => by omega, fun i _ => Cg.refl _ _, h⟩
theorem Vt (hab : a ≤ b) (hb : Z.back b = false) : Rl Z a (b + 1) u y ↔ ∃ x, Rl Z a b u x ∧ ∀ i, i < Z.d (b + 1) → Cg Z.p (ap (Z.mat b) (Z.d b) x i) (y i) := by
  have es : Z.src b = b ∧ Z.tgt b = b + 1 := by unfold Zg.src Zg.tgt; rw [hb]; exact ⟨rfl, rfl⟩
  constructor
  · rintro ⟨x, T, h1, h2⟩
    refine ⟨x b, ⟨x, fun k k1 k2 => T k k1 (by omega), h1, fun i _ => Cg.refl _ _⟩, fun i hi => ?_⟩
    have := T b hab (by omega) i (by rw [es.2]; exact hi)
    rw [es.1, es.2] at this
    exact this.trans (h2 i hi)
  · rintro ⟨w, ⟨x, T, h1, h2⟩, h3⟩
    refine ⟨fun k => if k = b + 1 then y else x k, fun k k1 k2 i hi => ?_, fun i hi => ?_, fun i hi => ?_⟩
    · rcases (by omega : k < b ∨ k = b) with hk | rfl
      · have : Z.src k ≠ b + 1 ∧ Z.tgt k ≠ b + 1 := by rcases Z.src_tgt k with ⟨e1, e2, _⟩ | ⟨e1, e2, _⟩ <;> omega
        simp only [if_neg this.1, if_neg this.2]
        exact T k k1 hk i hi
      · rw [es.2] at hi
        rw [es.1, es.2]
        simp only [if_pos, if_neg (show ¬ k = k + 1 by omega)]
        exact (EC (fun j hj => h2 j hj) i).trans (h3 i hi)
    · show Cg Z.p ((if a = b + 1 then y else x a) i) (u i)
      rw [if_neg (by omega)]; exact h1 i hi
    · show Cg Z.p ((if b + 1 = b + 1 then y else x (b + 1)) i) (y i)
      rw [if_pos rfl]; exact Cg.refl _ _
theorem UW (hab : a ≤ b) (hb : Z.back b = true) : Rl Z a (b + 1) u y ↔ Rl Z a b u (ap (Z.mat b) (Z.d (b + 1)) y) := by
  have es : Z.src b = b + 1 ∧ Z.tgt b = b := by unfold Zg.src Zg.tgt; rw [hb]; exact ⟨rfl, rfl⟩
  constructor
  · rintro ⟨x, T, h1, h2⟩
    refine ⟨x, fun k k1 k2 => T k k1 (by omega), h1, fun i hi => ?_⟩
    have := T b hab (by omega) i (by rw [es.2]; exact hi)
    rw [es.1, es.2] at this
    exact this.symm.trans (EC (fun j hj => h2 j hj) i)
  · rintro ⟨x, T, h1, h2⟩
    refine ⟨fun k => if k = b + 1 then y else x k, fun k k1 k2 i hi => ?_, fun i hi => ?_, fun i hi => ?_⟩
    · rcases (by omega : k < b ∨ k = b) with hk | rfl
      · have : Z.src k ≠ b + 1 ∧ Z.tgt k ≠ b + 1 := by rcases Z.src_tgt k with ⟨e1, e2, _⟩ | ⟨e1, e2, _⟩ <;> omega
        simp only [if_neg this.1, if_neg this.2]
        exact T k k1 hk i hi
      · rw [es.2] at hi
        rw [es.1, es.2]
        simp only [if_pos, if_neg (show ¬ k = k + 1 by omega)]
        exact (h2 i hi).symm
    · show Cg Z.p ((if a = b + 1 then y else x a) i) (u i)
      rw [if_neg (by omega)]; exact h1 i hi
    · show Cg Z.p ((if b + 1 = b + 1 then y else x (b + 1)) i) (y i)
      rw [if_pos rfl]; exact Cg.refl _ _
end
def Ej (n : Nat) (u y : Nat → Int) (i : Nat) : Int := if i < n then u i else y (i - n)
theorem BW {i : Nat} {u y : Nat → Int} (h : i < n) : Ej n u y i = u i := if_pos h
theorem BG {i : Nat} {u y : Nat → Int} : Ej n u y (n + i) = y i := by unfold Ej; rw [if_neg (by omega)]; congr 1; omega
theorem Tk (n : Nat) (v : Nat → Int) : Ej n v (fun i => v (n + i)) = v := funext fun i => by
  unfold Ej
  split
  · rfl
  · show v (n + (i - n)) = v i
    congr 1; omega
theorem Cy {Q : Nat → Prop} {d : Nat} (h1 : ∀ i, i < n → Q i) (h2 : ∀ i, i < d → Q (n + i)) : ∀ i, i < n + d → Q i := fun i hi => by
  rcases Nat.lt_or_ge i n with h | h
  · exact h1 i h
  · have := h2 (i - n) (by omega)
    rwa [show n + (i - n) = i by omega] at this
def Rr (Z : Zg) (a b N : Nat) (w : Nat → Nat → Int) : Prop := ∀ u y, Spn Z.p N ty (Z.d a + Z.d b) w (Ej (Z.d a) u y) ↔ Rl Z a b u y
section
variable {Z : Zg} {a b N N' : Nat} {w w' V : Nat → Nat → Int}
theorem Rr.start (n : Nat) (hn : n = Z.d a) (hw : ∀ k, k < n → ∀ i, i < n + n → w k i = if i = k ∨ i = n + k then 1 else 0) : Rr Z a a n w := by
  intro u y
  subst hn
  rw [RW]
  have key : ∀ (c : Nat → Int) (i : Nat), i < Z.d a → Bj (Z.d a) ty c w i = c i ∧ Bj (Z.d a) ty c w (Z.d a + i) = c i := fun c i hi => by
    have h1 : ∀ j, j < Z.d a → w j i = if j = i then 1 else 0 := fun j hj => by
      rw [hw j hj i (by omega)]
      by_cases e : j = i
      · rw [if_pos (by omega), if_pos e]
      · rw [if_neg (by omega), if_neg e]
    have h2 : ∀ j, j < Z.d a → w j (Z.d a + i) = if j = i then 1 else 0 := fun j hj => by
      rw [hw j hj _ (by omega)]
      by_cases e : j = i
      · rw [if_pos (by omega), if_pos e]
      · rw [if_neg (by omega), if_neg e]
    constructor
    · rw [← DP (Z.d a) i c hi]
      exact AE fun j hj => by
        show c j * w j i = _
        rw [h1 j hj]; split <;> simp
    · rw [← DP (Z.d a) i c hi]
      exact AE fun j hj => by
        show c j * w j (Z.d a + i) = _
        rw [h2 j hj]; split <;> simp
  constructor
  · rintro ⟨c, hc⟩ i hi
    have h1 := hc i (by omega)
    have h2 := hc (Z.d a + i) (by omega)
    rw [(key c i hi).1, BW hi] at h1
    rw [(key c i hi).2, BG] at h2
    exact h1.trans h2.symm
  · intro h
    refine ⟨u, Cy (fun i hi => ?_) fun i hi => ?_⟩
    · rw [(key u i hi).1, BW hi]; exact Cg.refl _ _
    · rw [(key u i hi).2, BG]; exact (h i hi).symm
theorem Rr.fwd (R : Rr Z a b N w) (hab : a ≤ b) (hb : Z.back b = false) (h1 : ∀ m, m < N → ∀ i, i < Z.d a → Cg Z.p (V m i) (w m i)) (h2 : ∀ m, m < N → ∀ i, i < Z.d (b + 1) → Cg Z.p (V m (Z.d a + i)) (ap (Z.mat b) (Z.d b) (fun j => w m (Z.d a + j)) i)) (S : Sp Z.p (Z.d a + Z.d (b + 1)) N' w' N V) : Rr Z a (b + 1) N' w' := by
  intro u y
  rw [S, Vt hab hb]
  have e1 : ∀ c i, i < Z.d a → Cg Z.p (Bj N ty c V i) (Bj N ty c w i) := fun c i hi => Cg.sm fun m hm => (Cg.refl _ (c m)).mul (h1 m hm i hi)
  have e2 : ∀ c i, i < Z.d (b + 1) → Cg Z.p (Bj N ty c V (Z.d a + i)) (ap (Z.mat b) (Z.d b) (fun j => Bj N ty c w (Z.d a + j)) i) := fun c i hi => by
    refine Cg.trans (Cg.sm fun m hm => (Cg.refl _ (c m)).mul (h2 m hm i hi)) (Cg.of_eq ?_)
    exact (FY (Z.mat b) (Z.d b) N ty c (fun l j => w l (Z.d a + j)) i).symm
  constructor
  · rintro ⟨c, hc⟩
    refine ⟨fun j => Bj N ty c w (Z.d a + j), (R u _).1 ⟨c, Cy (fun i hi => ?_) fun i hi => ?_⟩, fun i hi => ?_⟩
    · have := hc i (by omega)
      rw [BW hi] at this
      rw [BW hi]
      exact this.trans (e1 c i hi)
    · rw [BG]; exact Cg.refl _ _
    · have := hc (Z.d a + i) (by omega)
      rw [BG] at this
      exact (this.trans (e2 c i hi)).symm
  · rintro ⟨x, hx, hy⟩
    obtain ⟨c, hc⟩ := (R u x).2 hx
    refine ⟨c, Cy (fun i hi => ?_) fun i hi => ?_⟩
    · have := hc i (by omega)
      rw [BW hi] at this
      rw [BW hi]
      exact this.trans (e1 c i hi).symm
    · rw [BG]
      refine Cg.trans ?_ (e2 c i hi).symm
      refine (hy i hi).symm.trans (EC (fun j hj => ?_) i)
      have := hc (Z.d a + j) (by omega)
      rwa [BG] at this
def Bwr (p : Int) (e f nb : Nat) (wb : Nat → Nat → Int) (no : Nat) (wo : Nat → Nat → Int) (y : Nat → Int) : Prop := ∃ z, Spn p no ty f wo z ∧ Spn p nb ty (e + f) wb fun i => y i - Ej e (fun _ => 0) z i
theorem U8 (p : Int) (e f nb : Nat) (wb : Nat → Nat → Int) (no : Nat) (wo : Nat → Nat → Int) : Sub p (e + f) (Bwr p e f nb wb no wo) := by
  have So := CR p no f ty wo
  have Sb := CR p nb (e + f) ty wb
  refine ⟨⟨fun _ => 0, So.zero, Sb.cg _ _ (fun i _ => Cg.of_eq (by show (0 : Int) - Ej e (fun _ => 0) (fun _ => 0) i = 0; unfold Ej; simp)) Sb.zero⟩, fun x y h ⟨z, h1, h2⟩ => ⟨z, h1, Sb.cg _ _ (fun i hi => (h i hi).sub (Cg.refl _ _)) h2⟩, fun x y c ⟨z, h1, h2⟩ ⟨z', h3, h4⟩ => ⟨fun i => z i + c * z' i, So.lin _ _ c h1 h3, Sb.cg _ _ (fun i _ => Cg.of_eq ?_) (Sb.lin _ _ c h2 h4)⟩⟩
  show x i + c * y i - Ej e (fun _ => 0) (fun i => z i + c * z' i) i = x i - Ej e (fun _ => 0) z i + c * (y i - Ej e (fun _ => 0) z' i)
  rw [Int.mul_sub]
  unfold Ej
  split
  · rw [Int.mul_zero]; omega
  · show _ - (z (i - e) + c * z' (i - e)) = _; omega
theorem VS {z : Nat → Int} (h : Spn p nb ty (e + f) wb z) : Bwr p e f nb wb no wo z := by
  have So := CR p no f ty wo
  have Sb := CR p nb (e + f) ty wb
  exact ⟨fun _ => 0, So.zero, Sb.cg _ _ (fun i _ => Cg.of_eq (by show z i - Ej e (fun _ => 0) (fun _ => 0) i = z i; unfold Ej; simp)) h⟩
theorem UB {nb' : Nat} {wb' : Nat → Nat → Int} {v : Nat → Int} (h : ∀ y, Spn p nb' ty (e + f) wb' y ↔ Exw (Spn p nb ty (e + f) wb) v y) (y : Nat → Int) : Bwr p e f nb' wb' no wo y ↔ Exw (Bwr p e f nb wb no wo) v y := by
  have Sb := CR p nb (e + f) ty wb
  constructor
  · rintro ⟨z, h1, h2⟩
    obtain ⟨c, hc⟩ := (h _).1 h2
    exact ⟨c, z, h1, Sb.cg _ _ (fun i _ => Cg.of_eq (by show y i - c * v i - _ = y i - _ - c * v i; omega)) hc⟩
  · rintro ⟨c, z, h1, h2⟩
    exact ⟨z, h1, (h _).2 ⟨c, Sb.cg _ _ (fun i _ => Cg.of_eq (by show y i - _ - c * v i = y i - c * v i - _; omega)) h2⟩⟩
theorem UU {no' : Nat} {wo' : Nat → Nat → Int} {v : Nat → Int} (h : ∀ y, Spn p no' ty f wo' y ↔ Exw (Spn p no ty f wo) (fun i => v (e + i)) y) (h0 : ∀ i, i < e → Cg p (v i) 0) (y : Nat → Int) : Bwr p e f nb wb no' wo' y ↔ Exw (Bwr p e f nb wb no wo) v y := by
  have Sb := CR p nb (e + f) ty wb
  have Sb' := CR p no f ty wo
  have k : ∀ c z i, i < e + f → Cg p (y i - Ej e (fun _ => 0) z i) (y i - c * v i - Ej e (fun _ => 0) (fun i => z i - c * v (e + i)) i) := fun c z => Cy (fun i hi => by
    rw [BW hi, BW hi]
    have := (Cg.refl p (y i)).sub ((Cg.refl p c).mul (h0 i hi))
    rw [Int.mul_zero, Int.sub_zero] at this
    exact (this.sub (Cg.refl p 0)).symm) fun i hi => by
      rw [BG, BG]
      exact Cg.of_eq (by omega)
  constructor
  · rintro ⟨z, h1, h2⟩
    obtain ⟨c, hc⟩ := (h _).1 h1
    exact ⟨c, _, hc, Sb.cg _ _ (fun i hi => (k c z i hi).symm) h2⟩
  · rintro ⟨c, z, h1, h2⟩
    refine ⟨fun i => z i + c * v (e + i), (h _).2 ⟨c, Sb'.cg _ _ (fun i _ => Cg.of_eq (by show z i + c * v (e + i) - c * v (e + i) = z i; omega)) h1⟩, Sb.cg _ _ (fun i hi => (k c _ i hi).trans (Cg.of_eq ?_)) h2⟩
    congr 1
    unfold Ej
    split
    · rfl
    · show z (i - e) + c * v (e + (i - e)) - c * v (e + (i - e)) = _; omega
theorem Rr.bwd {pb : Nat → Nat} (R : Rr Z a b N w) (hab : a ≤ b) (hb : Z.back b = true)
    (h1 : ∀ m, m < N → ∀ i, i < Z.d b + (Z.d a + Z.d (b + 1)) → Cg Z.p (V m i) (Ej (Z.d b) (fun i => w m (Z.d a + i)) (Ej (Z.d a) (w m) fun _ => 0) i))
    (h2 : ∀ j, j < Z.d (b + 1) → ∀ i, i < Z.d b + (Z.d a + Z.d (b + 1)) → Cg Z.p (V (N + j) i) (Ej (Z.d b) (fun i => -Z.mat b i j) (Ej (Z.d a) (fun _ => 0) fun i => if i = j then 1 else 0) i))
    (Rb : Rows Z.p (Z.d b + (Z.d a + Z.d (b + 1))) nb wb pb) (hpl : ∀ l, l < nb → pb l < Z.d b)
    (S : ∀ y, Bwr Z.p (Z.d b) (Z.d a + Z.d (b + 1)) nb wb no wo y ↔ Spn Z.p (N + Z.d (b + 1)) ty (Z.d b + (Z.d a + Z.d (b + 1))) V y) : Rr Z a (b + 1) no wo := by
  intro u y
  rw [UW hab hb, ← R u]
  -- sums of the family
  have e1 : ∀ c i, i < Z.d b → Cg Z.p (Bj (N + Z.d (b + 1)) ty c V i) (Bj N ty c w (Z.d a + i) - ap (Z.mat b) (Z.d (b + 1)) (fun j => c (N + j)) i) := fun c i hi => by
    show Cg Z.p (sm (N + Z.d (b + 1)) fun l => c l * V l i) _
    rw [El]
    have k1 : Cg Z.p (sm N fun l => c l * V l i) (Bj N ty c w (Z.d a + i)) := Cg.sm fun m hm => (Cg.refl _ (c m)).mul (by
      have := h1 m hm i (by omega); rwa [BW hi] at this)
    have k2 : Cg Z.p (sm (Z.d (b + 1)) fun j => c (N + j) * V (N + j) i) (sm (Z.d (b + 1)) fun j => (-1) * (Z.mat b i j * c (N + j))) := Cg.sm fun j hj => by
      have := (Cg.refl Z.p (c (N + j))).mul (h2 j hj i (by omega))
      rw [BW hi] at this
      refine this.trans (Cg.of_eq ?_)
      rw [Int.mul_neg, Int.neg_one_mul, Int.mul_comm]
    refine (k1.add k2).trans (Cg.of_eq ?_)
    rw [Cb, Int.neg_one_mul]; rfl
  have e2 : ∀ c i, i < Z.d a → Cg Z.p (Bj (N + Z.d (b + 1)) ty c V (Z.d b + i)) (Bj N ty c w i) := fun c i hi => by
    show Cg Z.p (sm (N + Z.d (b + 1)) fun l => c l * V l (Z.d b + i)) _
    rw [El]
    have k1 : Cg Z.p (sm N fun l => c l * V l (Z.d b + i)) (Bj N ty c w i) := Cg.sm fun m hm => (Cg.refl _ (c m)).mul (by
      have := h1 m hm (Z.d b + i) (by omega); rwa [BG, BW hi] at this)
    have k2 : Cg Z.p (sm (Z.d (b + 1)) fun j => c (N + j) * V (N + j) (Z.d b + i)) (sm (Z.d (b + 1)) fun j => 0) := Cg.sm fun j hj => by
      have := (Cg.refl Z.p (c (N + j))).mul (h2 j hj (Z.d b + i) (by omega))
      rw [BG, BW hi, Int.mul_zero] at this
      exact this
    refine (k1.add k2).trans (Cg.of_eq ?_)
    rw [CS]; omega
  have e3 : ∀ c i, i < Z.d (b + 1) → Cg Z.p (Bj (N + Z.d (b + 1)) ty c V (Z.d b + (Z.d a + i))) (c (N + i)) := fun c i hi => by
    show Cg Z.p (sm (N + Z.d (b + 1)) fun l => c l * V l (Z.d b + (Z.d a + i))) _
    rw [El]
    have k1 : Cg Z.p (sm N fun l => c l * V l (Z.d b + (Z.d a + i))) (sm N fun _ => 0) := Cg.sm fun m hm => by
      have := (Cg.refl Z.p (c m)).mul (h1 m hm (Z.d b + (Z.d a + i)) (by omega))
      rw [BG, BG, Int.mul_zero] at this
      exact this
    have k2 : Cg Z.p (sm (Z.d (b + 1)) fun j => c (N + j) * V (N + j) (Z.d b + (Z.d a + i))) (sm (Z.d (b + 1)) fun j => if j = i then c (N + j) else 0) := Cg.sm fun j hj => by
      have := (Cg.refl Z.p (c (N + j))).mul (h2 j hj (Z.d b + (Z.d a + i)) (by omega))
      rw [BG, BG] at this
      refine this.trans (Cg.of_eq ?_)
      by_cases e : j = i
      · rw [if_pos e, if_pos e.symm, Int.mul_one]
      · rw [if_neg e, if_neg (fun h => e h.symm), Int.mul_zero]
    refine (k1.add k2).trans (Cg.of_eq ?_)
    rw [CS, DP (Z.d (b + 1)) i (fun j => c (N + j)) hi]; omega
  have So := CR Z.p no (Z.d a + Z.d (b + 1)) ty wo
  have Sb := CR Z.p nb (Z.d b + (Z.d a + Z.d (b + 1))) ty wb
  constructor
  · intro h
    have hW : Bwr Z.p (Z.d b) (Z.d a + Z.d (b + 1)) nb wb no wo (Ej (Z.d b) (fun _ => 0) (Ej (Z.d a) u y)) := ⟨_, h, Sb.cg _ _ (fun i _ => Cg.of_eq (by omega)) Sb.zero⟩
    obtain ⟨c, hc⟩ := (S _).1 hW
    refine ⟨c, Cy (fun i hi => ?_) fun i hi => ?_⟩
    · have := hc (Z.d b + i) (by omega)
      rw [BG, BW hi] at this
      rw [BW hi]
      exact this.trans (e2 c i hi)
    · have h3 := hc i (by omega)
      rw [BW hi] at h3
      rw [BG]
      have h4 : Cg Z.p (ap (Z.mat b) (Z.d (b + 1)) y i) (ap (Z.mat b) (Z.d (b + 1)) (fun j => c (N + j)) i) := EC (fun j hj => by
        have := hc (Z.d b + (Z.d a + j)) (by omega)
        rw [BG, BG] at this
        exact this.trans (e3 c j hj)) i
      have h5 := (h3.trans (e1 c i hi)).add h4
      exact (Cg.of_eq (Int.zero_add _).symm).trans (h5.trans (Cg.of_eq (by omega)))
  · rintro ⟨c, hc⟩
    -- the coefficients c of the rows, y of the units
    let c' : Nat → Int := fun l => if l < N then c l else y (l - N)
    have hcl : ∀ l, l < N → c' l = c l := fun l hl => if_pos hl
    have hcr : ∀ j, c' (N + j) = y j := fun j => by
      show (if N + j < N then _ else y (N + j - N)) = _
      rw [if_neg (by omega)]; congr 1; omega
    have hw : ∀ i, Bj N ty c' w i = Bj N ty c w i := fun i => AE fun l hl => by rw [hcl l hl]
    have hV : Spn Z.p (N + Z.d (b + 1)) ty (Z.d b + (Z.d a + Z.d (b + 1))) V (Ej (Z.d b) (fun _ => 0) (Ej (Z.d a) u y)) := by
      refine ⟨c', Cy (fun i hi => ?_) (Cy (fun i hi => ?_) fun i hi => ?_)⟩
      · rw [BW hi]
        refine Cg.trans ?_ (e1 c' i hi).symm
        rw [hw, show (fun j => c' (N + j)) = y from funext hcr]
        have := hc (Z.d a + i) (by omega)
        rw [BG] at this
        exact ((this.symm.sub (Cg.refl _ (ap (Z.mat b) (Z.d (b + 1)) y i))).trans (Cg.of_eq (by omega))).symm
      · rw [BG, BW hi]
        refine Cg.trans ?_ (e2 c' i hi).symm
        rw [hw]
        have := hc i (by omega)
        rwa [BW hi] at this
      · rw [BG, BG]
        refine Cg.trans ?_ (e3 c' i hi).symm
        rw [hcr]; exact Cg.refl _ _
    obtain ⟨z, hz, hs⟩ := (S _).2 hV
    have h0 := Rb.out (fun k hk => by
      rw [BW (hpl k hk), BW (hpl k hk)]; exact Cg.refl _ _) hs
    refine So.cg _ _ (fun i hi => ?_) hz
    have := h0 (Z.d b + i) (by omega)
    rw [BG, BG] at this
    exact (Cg.of_eq (by omega)).trans ((this.add (Cg.refl _ (z i))).trans (Cg.of_eq (by omega)))
theorem Rr.rank {D : Dc} {nw : Nat} {pl pw : Nat → Nat} {ww : Nat → Nat → Int} (F : Fld Z.p) (VD : Valid Z D) (R : Rr Z a b N w) (hab : a ≤ b) (hb : b < Z.n) (Rw : Rows Z.p (Z.d a + Z.d b) N w pl) (Rs : Rows Z.p (Z.d b) nw ww pw) (S : Sp Z.p (Z.d b) nw ww N fun m j => w m (Z.d a + j)) :
    nw = cnt D.N (D.cov a b) + cnt N fun m => decide (Z.d a ≤ pl m) := by
  have hty : ∀ n, cnt n ty = n := fun n => by
    induction n with
    | zero => rfl
    | succ n ih => rw [BO, ih]; rfl
  have himR : ∀ y, Spn Z.p nw ty (Z.d b) ww y → Im Z a b y := fun y hy => by
    obtain ⟨c, hc⟩ := (S y).1 hy
    obtain ⟨x, T, _, h2⟩ := (R (fun i => Bj N ty c w i) y).1 ⟨c, Cy (fun i hi => by rw [BW hi]; exact Cg.refl _ _) fun i hi => by rw [BG]; exact hc i hi⟩
    exact ⟨x, T, h2⟩
  have himL : ∀ y, Im Z a b y → Spn Z.p nw ty (Z.d b) ww y := fun y ⟨x, T, h⟩ => by
    obtain ⟨c, hc⟩ := (R (x a) y).2 ⟨x, T, fun i _ => Cg.refl _ _, h⟩
    refine (S y).2 ⟨c, fun i hi => ?_⟩
    have := hc (Z.d a + i) (by omega)
    rw [BG] at this; exact this
  have o1 : ∀ l, l < D.N → D.s1 Z a b l = true → D.on b l = true := fun l _ h => by unfold Dc.s1 at h; simp only [Bool.and_eq_true] at h; exact h.1
  have o0 : ∀ l, l < D.N → D.s0 Z a b l = true → D.on b l = true := fun l _ h => by unfold Dc.s0 at h; simp only [Bool.and_eq_true] at h; exact h.1
  have n1 : nw ≤ cnt D.N (D.s1 Z a b) := by
    have := CA F Rs.ind fun l hl _ => MG F VD hab hb (himR _ (Spn.self hl rfl))
    rwa [hty] at this
  have n2 : cnt D.N (D.s1 Z a b) ≤ nw := by
    have := CA F ((VD.ind b hb).sub o1) fun l hl h => himL _ (M8 VD hb (Spn.self hl h))
    rwa [hty] at this
  -- what is related to 0
  have hlow : ∀ m, m < N → Z.d a ≤ pl m → ∀ i, i < Z.d a → w m i = 0 := fun m hm h i hi => Rw.low m hm i (by omega)
  have hker : ∀ y, Wd Z a b y → Spn Z.p N (fun m => decide (Z.d a ≤ pl m)) (Z.d b) (fun m j => w m (Z.d a + j)) y := fun y ⟨x, T, h0, h2⟩ => by
    obtain ⟨c, hc⟩ := (R (fun _ => 0) y).2 ⟨x, T, h0, h2⟩
    have hz : ∀ l, l < N → pl l < Z.d a → Z.p ∣ c l := fun l => by
      induction l using Nat.strongRecOn with
      | ind l ih =>
        intro hl hpl
        have h := Rw.coef (c := c) hl fun k hk => ih k hk (by omega) (by have := Rw.inc k l hk hl; omega)
        have h' := hc (pl l) (by omega)
        rw [BW hpl] at h'
        exact cg_dvd.1 (h.symm.trans h'.symm)
    refine ⟨c, fun i hi => ?_⟩
    have h := hc (Z.d a + i) (by omega)
    rw [BG] at h
    refine h.trans (Cg.sm fun l hl => ?_)
    show Cg Z.p (c l * w l (Z.d a + i)) _
    by_cases hp : Z.d a ≤ pl l
    · rw [if_pos (decide_eq_true hp)]; exact Cg.refl _ _
    · rw [if_neg (by simpa using hp)]
      exact cg_dvd.2 (Int.dvd_mul_of_dvd_left (hz l hl (by omega)))
  have hcut : ∀ (c : Nat → Int) (i : Nat), i < Z.d a → Bj N (fun m => decide (Z.d a ≤ pl m)) c w i = 0 := fun c i hi => CL fun l hl => by
    by_cases hp : Z.d a ≤ pl l
    · rw [if_pos (decide_eq_true hp), hlow l hl hp i hi, Int.mul_zero]
    · rw [if_neg (by simpa using hp)]
  have hself : ∀ l, l < N → decide (Z.d a ≤ pl l) = true → Wd Z a b fun j => w l (Z.d a + j) := fun l hl h => by
    obtain ⟨x, T, h1, h2⟩ := (R (w l) fun j => w l (Z.d a + j)).1 (by rw [Tk]; exact Spn.self hl rfl)
    exact ⟨x, T, fun i hi => by rw [← hlow l hl (of_decide_eq_true h) i hi]; exact h1 i hi, h2⟩
  have hind : Ind Z.p N (fun m => decide (Z.d a ≤ pl m)) (Z.d b) fun m j => w m (Z.d a + j) := by
    intro c hc
    refine (Rw.ind.sub (b' := fun m => decide (Z.d a ≤ pl m)) fun _ _ _ => rfl) c (Cy (fun i hi => ?_) fun i hi => hc i hi)
    rw [hcut c i hi]; exact Cg.refl _ _
  have n3 := CA F hind fun l hl h => No F VD hab hb (hself l hl h)
  have n4 := CA F ((VD.ind b hb).sub o0) fun l hl h => hker _ (N8 VD hb (Spn.self hl h))
  have hc := cover F VD hab hb
  omega
end
end Go.Lin
namespace Go.Eng
open Go.RowKit
section
variable {P : Program} {o : Oper} {s : Ay} {h : Hp} {ms : List Hp} {e : Entry} {Q : Exit → Act → World → Prop} {ops : Array Oper} {rest : List Oper}
theorem Hz {w0 w : World} {h0 h : Hp} {ms0 ms : List Hp} {m : Hp} (H : Ends w0 h0 ms0 w h (m :: ms)) (t u ty el : TypeId) {sz : Nat} {z : Value} {bytes : Nat} (ht : P.underlying t = some (.slice el)) (hu : P.underlying u = some (.int .i64)) (hs : Elem P el sz z bytes) (hzs : z.cells.size = sz) (hsz : 0 < sz)
    {v : Value} {n k : Nat} {cs : List Value} (O : Own el sz m v n cs) (h1 : ∀ u ∈ (Builtin.zeroCells z.cells k).toList, u.oneCell' = true) (hb : (n + k) * bytes ≤ 140737488355328) (hb63 : n + k ≤ 9223372036854775807) :
    ∃ v' w' m', (Builtin.append_ #[t, u] ty #[v, .int .i64 k]).run P w = .ok v' w' ∧ Own el sz m' v' (n + k) (cs ++ (Builtin.zeroCells z.cells k).toList) ∧ Ends w0 h0 ms0 w' h (m' :: ms) := by
  obtain ⟨hcl, hO⟩ := O
  obtain ⟨i, hi, hz, his, hib⟩ := hs.info
  have hzl : ∀ N, (Builtin.zeroCells z.cells N).toList.length = N * sz := fun N => by rw [Array.length_toList, size_zeroCells, hzs]
  have hwr : IntKind.i64.wrap ((k : Nat) : Int) = (k : Int) := C0 (by omega)
  have hk0 : ¬ ((k : Int) < 0) := by omega
  have hkb : k * i.bytes ≤ 140737488355328 := Nat.le_trans (Nat.mul_le_mul_right _ (Nat.le_add_left k n)) (by rw [hib]; exact hb)
  have hk48 : ¬ (281474976710656 < (k : Int) * (i.bytes : Int)) := by
    have : ((k * i.bytes : Nat) : Int) ≤ 140737488355328 := by omega
    rw [Int.natCast_mul] at this; omega
  have hw0 : IntKind.i64.wrap 0 = 0 := C0 (by omega)
  rcases Nat.eq_zero_or_pos k with rfl | hk
  · have hnews : (Builtin.zeroCells z.cells 0).toList = [] := List.eq_nil_of_length_eq_zero (by rw [hzl]; simp)
    rw [hnews]
    rcases hO with ⟨rfl, rfl, rfl⟩ | ⟨g, cap, spare, rfl, rfl, e1, e2, e3⟩
    · refine ⟨_, w, _, ?_, ⟨by simpa using hcl, .inl ⟨rfl, rfl, rfl⟩⟩, H⟩
      simp [Builtin.append_, run_underlying ht, run_underlying hu, hs.sizeOf, asInt, asIntOf, typeInfo, hi, storeCells, hw0]
    · refine ⟨_, w, _, ?_, ⟨by simpa using hcl, .inr ⟨g, cap, spare, rfl, by simp, by simpa using e1, e2, e3⟩⟩, H⟩
      simp [Builtin.append_, run_underlying ht, run_underlying hu, hs.sizeOf, asInt, asIntOf, typeInfo, hi, storeCells, hw0, e2]
  · have hcap : ∀ old, grownCap w (n + k) old el ≤ 9223372036854775807 ∧ n + k ≤ grownCap w (n + k) old el := fun old =>
      ⟨grownCap_le_maxLen w (n + k) old el (by simp only [maxLen]; omega), grownCap_ge w (n + k) old el⟩
    have hks : ¬ (k * sz = 0) := by
      have := Nat.mul_pos hk hsz; omega
    have hk0' : k ≠ 0 := by omega
    have hsz' : sz ≠ 0 := by omega
    rcases hO with ⟨rfl, rfl, rfl⟩ | ⟨g, cap, spare, rfl, rfl, e1, e2, e3⟩
    · have hc0 : cs = [] := List.eq_nil_of_length_eq_zero (by simpa using hcl)
      subst hc0
      simp only [Nat.zero_add, List.nil_append] at *
      have h48' : ¬ (281474976710656 < Builtin.nextslicecap k 0 * i.bytes) := by rw [nextslicecap_zero hk]; omega
      have h63' : ¬ (9223372036854775807 < (k : Int)) := by omega
      refine ⟨_, w.drew.alloc (.cells (Builtin.zeroCells z.cells k ++ Builtin.zeroCells z.cells (grownCap w k 0 el - k)) el), _, ?_, ⟨hzl k, .inr ⟨w.heap.size, grownCap w k 0 el, (Builtin.zeroCells z.cells (grownCap w k 0 el - k)).toList, rfl, rfl, ?_, (hcap 0).2, (hcap 0).1⟩⟩, ?_⟩
      · simp [Builtin.append_, run_underlying ht, run_underlying hu, hs.sizeOf, asInt, asIntOf, typeInfo, zeroValue, hi, hz, hwr, hk0, hk48, hks, hk0', h63', h48', Question.forced, run_firstCells_none, newRow, grownCap]
      · rw [List.length_append, hzl, hzl, ← Nat.add_mul]
        congr 1; have := (hcap 0).2; omega
      · have := Ends.alloc (Ends.drew (Ends.drop H)) (.cells (Builtin.zeroCells z.cells k ++ Builtin.zeroCells z.cells (grownCap w k 0 el - k)) el)
        have e : ((Builtin.zeroCells z.cells k).toList ++ (Builtin.zeroCells z.cells (grownCap w k 0 el - k)).toList).toArray = Builtin.zeroCells z.cells k ++ Builtin.zeroCells z.cells (grownCap w k 0 el - k) := by
          apply Array.ext'; simp
        unfold AX; rw [e]; exact this
    · have hgw : w.heap[g]? = some (.cells (cs ++ spare).toArray el (0, 0)) := H.st.own _ (List.mem_cons_self) g _ (Hp.one_self _ _)
      by_cases hroom : n + k ≤ cap
      · have hfit : n * sz + (Builtin.zeroCells z.cells k).toList.length ≤ (cs ++ spare).toArray.size := by
          rw [hzl, List.size_toArray, e1, ← Nat.add_mul]; exact Nat.mul_le_mul_right _ hroom
        have hst := run_storeCells_at (P := P) g (n * sz) el (Builtin.zeroCells z.cells k).toList 0 _ w hgw (by rw [Nat.add_zero]; exact hfit) h1
        refine ⟨_, w.setRow g (cs ++ (Builtin.zeroCells z.cells k).toList ++ spare.drop (k * sz)).toArray, _, ?_, ⟨by rw [List.length_append, hcl, hzl, Nat.add_mul], .inr ⟨g, cap, spare.drop (k * sz), rfl, rfl, ?_, hroom, e3⟩⟩, ?_⟩
        · have ea : (⟨g, 0, none⟩ : Addr).add (n * sz) = ⟨g, n * sz, none⟩ := by unfold Addr.add; split <;> simp_all
          have e5 : (List.take (n * sz) (cs ++ spare).toArray.toList ++ (Builtin.zeroCells z.cells k).toList ++ List.drop (n * sz + (Builtin.zeroCells z.cells k).toList.length) (cs ++ spare).toArray.toList) = cs ++ (Builtin.zeroCells z.cells k).toList ++ spare.drop (k * sz) := by
            rw [hzl, ← hcl]
            have hd : List.drop (cs.length + k * sz) (cs ++ spare) = spare.drop (k * sz) := by rw [← List.drop_drop, List.drop_left]
            simp only [List.take_left', hd, List.append_assoc]
          simp only [Nat.add_zero] at hst
          rw [e5] at hst
          simp [Builtin.append_, run_underlying ht, run_underlying hu, hs.sizeOf, asInt, asIntOf, typeInfo, zeroValue, hi, hz, hwr, hk0, hk48, hks, hroom, ea] at hst ⊢
          rw [hst]; rfl
        · rw [← e1]
          simp only [List.length_append, List.length_drop, hzl]
          have : k * sz ≤ spare.length := by
            rw [hzl, List.size_toArray, List.length_append, ← hcl] at hfit; omega
          omega
        · exact Ends.change H rfl ⟨rfl, Nat.le_refl _⟩ rfl (by simp) (setRow_heap w g _ _ _ _ hgw) (fun j hj hne => setRow_other w g j _ hne)
      · have holds : ∀ j u, cs[j]? = some u → w.cell? ((⟨g, 0, none⟩ : Addr).add j) = some u := fun j u hv => H.st.cell (Cell.blk (el := el) (l := cs ++ spare) 0 rfl (by rw [List.getElem?_append_left (List.getElem?_eq_some_iff.1 hv).1]; exact hv))
        have hfo := run_firstCells_some (P := P) w.drew sz n ⟨g, 0, none⟩ n cap cs hcl (by simpa using holds)
        have h48' : ¬ (281474976710656 < Builtin.nextslicecap (n + k) cap * i.bytes) := by
          have := growslice_fits (need := n + k) (old := cap) (bytes := bytes) (by omega) hb; rw [hib]; omega
        have h63' : ¬ (9223372036854775807 < (n : Int) + (k : Int)) := by omega
        refine ⟨_, w.drew.alloc (.cells (cs.toArray ++ Builtin.zeroCells z.cells k ++ Builtin.zeroCells z.cells (grownCap w (n + k) cap el - (n + k))) el), _, ?_, ⟨by rw [List.length_append, hcl, hzl, Nat.add_mul], .inr ⟨w.heap.size, grownCap w (n + k) cap el, (Builtin.zeroCells z.cells (grownCap w (n + k) cap el - (n + k))).toList, rfl, rfl, ?_, (hcap cap).2, (hcap cap).1⟩⟩, ?_⟩
        · simp [Builtin.append_, run_underlying ht, run_underlying hu, hs.sizeOf, asInt, asIntOf, typeInfo, zeroValue, hi, hz, hwr, hk0, hk48, hks, hroom, h63', h48', Question.forced, hfo, newRow, grownCap]
        · rw [List.length_append, List.length_append, hzl, hzl, hcl, ← Nat.add_mul, ← Nat.add_mul]
          congr 1; have := (hcap cap).2; omega
        · have := Ends.alloc (Ends.drew (Ends.drop H)) (.cells (cs.toArray ++ Builtin.zeroCells z.cells k ++ Builtin.zeroCells z.cells (grownCap w (n + k) cap el - (n + k))) el)
          have e : (cs ++ (Builtin.zeroCells z.cells k).toList ++ (Builtin.zeroCells z.cells (grownCap w (n + k) cap el - (n + k))).toList).toArray = cs.toArray ++ Builtin.zeroCells z.cells k ++ Builtin.zeroCells z.cells (grownCap w (n + k) cap el - (n + k)) := by
            apply Array.ext'; simp
          unfold AX; rw [e]; exact this
theorem Jh (v : Value) (n : Nat) : (Builtin.zeroCells #[v] n).toList = List.replicate n v := by
  refine List.ext_getElem (by simp [Builtin.zeroCells]) fun i h1 h2 => ?_
  simp [Builtin.zeroCells, Nat.mod_one]
theorem I7 {t u el : TypeId} {d : Nat} {bytes : Nat} {x y : Operand} {v : Value} {m : Hp} {l : List Int} {k : Nat} (i : Nat) (O : OwnL cI 1 el m v l) (ho : o.op = .call { callee := .builtin .append, args := #[x, y], argTypes := #[t, u] }) (ht : e.P.underlying t = some (.slice el)) (hu : e.P.underlying u = some (.int .i64)) (hs : Elem e.P el 1 (.int .i64 0) bytes)
    (hx : ev s x = some v) (hy : ev s y = some (.int .i64 k)) (hm : ms[i]? = some m) (hb : (l.length + k) * bytes ≤ 140737488355328) (hb63 : l.length + k ≤ 9223372036854775807) (hd : o.dst = some d) (hn : Nat.blt d e.n = true) (hg : o.guard = none)
    (K : ∀ v' m', OwnL cI 1 el m' v' (l ++ List.replicate k 0) → WL e ops Q rest ((d, v') :: s) h (ms.set i m')) : WL e ops Q (o :: rest) s h ms :=
  G6 (post := fun v' h' ms' => ∃ m', h' = h ∧ ms' = ms.set i m' ∧ OwnL cI 1 el m' v' (l ++ List.replicate k 0)) (fun ρ w hρ hw => by
    obtain ⟨r, p1, _⟩ := EU ms i m m hm
    have hzc : (Builtin.zeroCells (Value.int .i64 0).cells k).toList = List.replicate k (Value.int .i64 0) := Jh _ _
    obtain ⟨v', w', m', hr, hO, hE⟩ := Hz (P := e.P) (Ends.perm hw p1) t u o.type el ht hu hs rfl (by decide) O.own (k := k) (fun c hc => by rw [hzc] at hc; rw [(List.mem_replicate.1 hc).2]; rfl) hb hb63
    have : (execOp ρ o).run e.P w = .ok (.value v') w' := by
      simp [execOp, ho, hρ _ _ hx, hρ _ _ hy, resolve, invoke, builtin, hr]
    unfold OpRes; rw [this]
    obtain ⟨r', q1, q2⟩ := EU ms i m m' hm
    have pr : (m' :: r).Perm (ms.set i m') := ((List.Perm.cons_inv (p1.symm.trans q1)).cons m').trans q2.symm
    refine ⟨h, _, Ends.perm hE pr, m', rfl, rfl, ⟨?_, O.len⟩⟩
    rw [hzc] at hO
    rw [List.length_append, List.length_replicate, List.flatMap_append]
    have e2 : (List.replicate k (0 : Int)).flatMap cI = List.replicate k (Value.int .i64 0) := by
      induction k with
      | zero => rfl
      | succ k ih => rw [List.replicate_succ, List.flatMap_cons, List.replicate_succ]; simp [cI, List.flatMap_replicate]
    rw [e2]; exact hO) hd hn hg fun v' h' ms' ⟨m', e1, e2, e3⟩ => by subst e1 e2; exact K v' m' e3
end
end Go.Eng
set_option maxRecDepth 100000
set_option maxHeartbeats 2000000
namespace Go.Proofs.YtdnelknieikbaaaGreat
open Go.Eng Go.RowKit Go.Lin
variable {d : Nat}
theorem ID {α : Type} {F : α → List Value} {sz : Nat} {el : TypeId} (g : Nat) (hF : ∀ x, (F x).length = sz) : OwnL F sz el (AX g el []) (.slice (some ⟨g, 0, none⟩) 0 0) ([] : List α) := OwnL.blk (l := []) 0 hF rfl (by omega)
theorem Fg {k : Nat} {f : Nat → Int} (hk : k < d) (hne : f k ≠ 0) (h0 : ∀ i, i < k → f i = 0) : I5 (vec d f) = k := by
 unfold I5
 refine GA (by rw [AQ]; exact hk) (by rw [EE hk]; exact decide_eq_true hne) fun j hj => ?_
 rw [EE (by omega), h0 j hj]; rfl
theorem JO {f : Nat → Int} (h0 : ∀ i, i < d → f i = 0) : I5 (vec d f) = -1 := by
 unfold I5
 refine Hc fun j hj => ?_
 rw [AQ] at hj
 rw [EE hj, h0 j hj]; rfl
theorem E3 {p : Int} {n : Nat} {w : Nat → Nat → Int} {pl : Nat → Nat} (R : Go.Lin.Rows p d n w pl) : n ≤ d := by
 have key : ∀ k, k < n → k ≤ pl k := fun k => by
  induction k with
  | zero => intro _; omega
  | succ k ih =>
   intro hk
   have := ih (by omega)
   have := R.inc k (k + 1) (by omega) hk
   omega
 rcases Nat.eq_zero_or_pos n with h | h
 ·omega
 ·have := key (n - 1) (by omega)
  have := R.lt (n - 1) (by omega)
  omega
theorem GM {P : Program} {o : Oper} {s : Ay} {h : Hp} {ms : List Hp} {v v' : Value} (hx : OX P o s h ms v) (e : v = v') : OX P o s h ms v' := e ▸ hx
def TO (p : Int) (a : Nat) (u : Nat → Int) (x : Int) (out : Nat → Int) (j i : Nat) : Int := if a ≤ i ∧ i < j then (out i - x * u i) % p else out i
theorem RQ (p : Int) {a j : Nat} (u : Nat → Int) (x : Int) (out : Nat → Int) (hj : a ≤ j) (i : Nat) : (if i = j then (out j - x * u j) % p else TO p a u x out j i) = TO p a u x out (j + 1) i := by
 unfold TO
 by_cases h : i = j
 ·subst h
  rw [if_pos rfl, if_pos ⟨hj, by omega⟩]
 ·rw [if_neg h]
  by_cases h2 : a ≤ i ∧ i < j
  ·rw [if_pos h2, if_pos ⟨h2.1, by omega⟩]
  ·rw [if_neg h2, if_neg (by omega)]
theorem Od (p : Int) (d n g am : Nat) (f : Nat → Int) (w : Nat → Nat → Int) (pl : Nat → Nat) (lv v : Value) (h : Hp) (hp : IsP p) (hd : d ≤ 1000) (R : Go.Lin.Rows p d n w pl) (hG : Seg h [] ⟨g, 0, none⟩ [.int .i64 p, lv]) (hL : RdV h lv n d w) (hf : ∀ i, i < d → 0 ≤ f i ∧ f i < p) (hV : RdL cI 1 h [] v (vec d f)) (ham : am ≤ 1000) : FnT Tryz.prog 84 #[.pointer (some ⟨g, 0, none⟩), v, .int .i64 am] h [] (fun x h' ms' => h = h' ∧ ∃ m out, ms' = [m] ∧ OwnL cI 1 3 m x (vec d out) ∧ Less p d w pl am f n out) := by
 have hp1 := hp.1
 have hp2 := hp.2.1
 have hnd := E3 R
 have hvl := AQ d f
 obtain ⟨vs, hvs, hLv, hLs⟩ := hL
 have hA := Seg.all hG
 have hA0 := hA 0 _ rfl
 have hLn : Rd h [] lv 1 n (vs.flatMap cV) := by have := hLv.rd; rwa [hvs] at this
 refine Av Tryz.func84 Tryz.ntmps84 rfl rfl (fun w0 hw0 => ?_)
 simp only [A4]
 refine Ax (Qm rfl (B3 ?_))
 refine AZ [] [] [] rfl Tryz.underlying24 A8 rfl (by omega) (by kernel_rfl) (by repeat (first | exact trivial | refine ⟨⟨by first | rfl | exact (hLn.any).cells | exact Rd.cells ‹_› | exact (RdL.rd ‹_›).cells, rfl, rfl⟩, ?_⟩)) rfl rfl rfl rfl (fun g12 => ?_)
 refine Qm rfl ?_
 refine Bm 0 (ID g12 Br) hV.any rfl Tryz.underlying24 A8 rfl (by omega) rfl rfl rfl Cv (by simp only [List.length_nil]; omega) (by simp only [List.length_nil]; omega) rfl rfl rfl (fun vo m hO => ?_)
 rw [List.nil_append] at hO
 refine Qm rfl (Aq (Ac (Ax (Qm rfl (Aq (Ag ?_))))))
 refine AD (fun q sl hh ms' => ∃ (k : Nat) (out : Nat → Int) (m : Hp), q = n - k ∧ sl = [(0, .pointer (some ⟨g, 0, none⟩)), (1, v), (2, .int .i64 am), (7, vo), (8, .int .i64 k)] ∧ h = hh ∧ ms' = [m] ∧ k ≤ n ∧ OwnL cI 1 3 m vo (vec d out) ∧ Less p d w pl am f k out)
  (n - 0) _ ⟨0, f, m, rfl, rfl, rfl, rfl, by omega, hO, Less.start hf⟩ Qs ?_
 rintro q sl hh ms' ⟨k, out, m, rfl, rfl, rfl, rfl, hk, hO, hLe⟩
 refine Ac (Ax (Qm rfl (Qm rfl (Qm rfl (Qf C1 rfl (Qx (AM rfl Tryz.underlying62 rfl rfl (hA _ _ rfl _)) rfl (Qx (AJ hLn.any rfl Tryz.underlying62 rfl) rfl (Qm rfl (Aq ?_)))))))))
 refine AF rfl (fun hlt => ?_) (fun hlt => ?_)
 ·have hkn : k < n := by omega
  have hkv : k < vs.length := by omega
  have hpk := R.lt k hkn
  have hfst : I5 (vec d (w k)) = pl k := Fg hpk (by rw [R.one k hkn]; decide) (R.low k hkn)
  have hfk : ∀ ms, Dq Tryz.prog 80 #[vs[k]] h ms (.int .i64 (pl k)) := fun ms => by rw [← hfst]; exact FW _ _ h (hLs k hkv) ms
  have hob := hLe.bd
  have hol := AQ d out
  have hcv : ∀ ms, m ∈ ms → ∀ i, i < d → Cell h ms ((Bl vo).add (i * 1)) (.int .i64 (out i)) := fun ms hm i hi => (hO.rd (h := h) hm).ev hi
  have hRo : Rd h [m] vo 1 d ((vec d out).flatMap cI) := by have := (hO.rd (h := h) (ms := [m]) (List.Mem.head _)).rd; rwa [hol] at this
  refine Ai (Ab (Ac (Ag (Ax (Qm rfl (Qm rfl (Qf C1 rfl (Qx (AM rfl Tryz.underlying62 rfl rfl (hA _ _ rfl _)) rfl (Qm rfl (Qx (Ah (k) hLn.any rfl Tryz.underlying62 BN rfl rfl (by omega) (by omega)) rfl (Qx (AM rfl Tryz.underlying24 rfl rfl (hLv.any.cell0 hkv rfl)) rfl (Qx (AG rfl Tryz.call80 rfl (hfk _)) rfl (Qm rfl (Aq (Ac (Ax (Qm rfl (Qm rfl (Qm rfl (Qm rfl ?_))))))))))))))))))))
  refine AR (t := 35) rfl (fun hs1 => ?_) (fun hs1 => ?_)
  ·refine Qk rfl (Qk rfl (Qk rfl (Qk rfl (Qk rfl (Qm rfl (Aq (AU rfl (Aw (Aa (Af (Ab (Ad (Qm rfl (Qx (oA rfl) rfl (Qm rfl (Ak ?_))))))))))))))))
   exact Al (n - (k + 1)) _ (by omega) ⟨k + 1, out, m, rfl, rfl, rfl, rfl, by omega, hO, hLe.skip (.inl (by omega))⟩ Qs
  ·refine Qg (As rfl rfl) rfl (Qg (As rfl rfl) rfl (Qg (Bo (pl k) hRo rfl Tryz.underlying24 A8 rfl rfl (by omega) (by omega)) rfl (Qg (AM rfl Tryz.underlying3 rfl rfl (hcv _ (List.Mem.head _) _ hpk)) rfl (Qg (EJ rfl rfl rfl) rfl (Qm rfl (Aq ?_))))))
   refine AF rfl (fun hz => ?_) (fun hz => ?_)
   ·refine Aw (Aa (Af (Ab (Ad (Qm rfl (Qx (oA rfl) rfl (Qm rfl (Ak ?_))))))))
    exact Al (n - (k + 1)) _ (by omega) ⟨k + 1, out, m, rfl, rfl, rfl, rfl, by omega, hO, hLe.skip (.inr hz)⟩ Qs
   ·refine Ai (Ab (Ax (Qm rfl (Qm rfl (Qx (Bo (pl k) hRo rfl Tryz.underlying24 A8 rfl rfl (by omega) (by omega)) rfl (Qx (AM rfl Tryz.underlying3 rfl rfl (hcv _ (List.Mem.head _) _ hpk)) rfl (Qm rfl (B3 (Qm rfl (Qm rfl (Aq (Ag ?_))))))))))))
    have hq := hob _ hpk
    refine AD (fun q sl hh ms' => ∃ (j : Nat) (m : Hp), q = d - j ∧ sl = [(0, .pointer (some ⟨g, 0, none⟩)), (1, v), (2, .int .i64 am), (7, vo), (8, .int .i64 k), (10, .int .i64 (out (pl k))), (11, .int .i64 j)] ∧ h = hh ∧ ms' = [m] ∧ pl k ≤ j ∧ j ≤ d ∧ OwnL cI 1 3 m vo (vec d (TO p (pl k) (w k) (out (pl k)) out j)))
     (d - pl k) _ ⟨pl k, m, rfl, rfl, rfl, rfl, by omega, by omega, by rw [BA (f := TO p (pl k) (w k) (out (pl k)) out (pl k)) (g := out) (fun i _ => if_neg (by omega))]; exact hO⟩ Qs ?_
    rintro q sl hh ms' ⟨j, m, rfl, rfl, rfl, rfl, hj1, hj2, hO⟩
    have hol := AQ d (TO p (pl k) (w k) (out (pl k)) out j)
    have hRo : Rd h [m] vo 1 d ((vec d (TO p (pl k) (w k) (out (pl k)) out j)).flatMap cI) := by have := (hO.rd (h := h) (ms := [m]) (List.Mem.head _)).rd; rwa [hol] at this
    refine Ac (Ax (Qm rfl (Qm rfl (Qx (CH hRo rfl Tryz.underlying24 rfl) rfl (Qm rfl (Aq ?_))))))
    refine AF rfl (fun hlt2 => ?_) (fun hlt2 => ?_)
    ·have hjd : j < d := by omega
     have hoj := hob j hjd
     have hwj := R.bd k hkn j hjd
     have hmb := DF hq hwj hp2
     have hcj : ∀ ms, m ∈ ms → Cell h ms ((Bl vo).add (j * 1)) (.int .i64 (out j)) := fun ms hm => by
      have := (hO.rd (h := h) hm).ev hjd
      rwa [show TO p (pl k) (w k) (out (pl k)) out j j = out j from if_neg (by omega)] at this
     have hcw : ∀ ms, Cell h ms ((Bl vs[k]).add (j * 1)) (.int .i64 (w k j)) := fun ms => (hLs k hkv).any.ev hjd
     have hwl : Rd h [] vs[k] 1 d ((vec d (w k)).flatMap cI) := by have := (hLs k hkv).rd; rwa [AQ] at this
     have q1 : (out j - out (pl k) * w k j).tmod p < p := by have := Int.tmod_lt_of_pos (out j - out (pl k) * w k j) (show 0 < p by omega); omega
     have q2 : -p < (out j - out (pl k) * w k j).tmod p := by have := Int.lt_tmod_of_pos (out j - out (pl k) * w k j) (show 0 < p by omega); omega
     have q3 : ((out j - out (pl k) * w k j).tmod p + p) % p = (out j - out (pl k) * w k j) % p := by rw [Int.add_emod_right, Int.tmod_def, Int.sub_mul_emod_self_left]
     refine Ai (Ab (Ac (Ag (AW (n := 36) (bs := [true, true, true, true, true, false, true, true, true, true, true, true, true, true, true, true, true, true, false, true, true, true, true, false, true, true, true, true, false, true, true, true, true, false, true, false]) [true, true, true, true, true, false, true, true, true, true, true, true, true, true, true, true, true, true, false, true, true, true, true, false, true, true, true, true, false, true, true, true, true, false, true] Cd (by kernel_rfl) (by kernel_rfl) rfl rfl (Qq rfl (Qq rfl (Qq rfl (Qq rfl (Qp rfl (Bo (j) hRo rfl Tryz.underlying24 A8 rfl rfl (by omega) (by omega)) (Qq rfl (Qq rfl (Qq rfl (QF C1 rfl (Qp rfl (AM rfl Tryz.underlying62 rfl rfl (hA _ _ rfl _)) (Qq rfl (Qp rfl (Ah (k) hLn.any rfl Tryz.underlying62 BN rfl rfl (by omega) (by omega)) (Qp rfl (AM rfl Tryz.underlying24 rfl rfl (hLv.any.cell0 hkv rfl)) (Qq rfl (Qp rfl (Ah (j) hwl.any rfl Tryz.underlying24 A8 rfl rfl (by omega) (by omega)) (Qp rfl (AM rfl Tryz.underlying3 rfl rfl (hcw _)) (Qp rfl (oM rfl) (Qq rfl (Qq rfl (QF Eo rfl (Qp rfl (AM rfl Tryz.underlying3 rfl rfl (hA0 _)) (Qq rfl (Qq rfl (QF Eo rfl (Qp rfl (AM rfl Tryz.underlying3 rfl rfl (hA0 _)) (Qq rfl (Qq rfl (QF Eo rfl (Qp rfl (AM rfl Tryz.underlying3 rfl rfl (hA0 _)) (Qp rfl (Bo (j) hRo rfl Tryz.underlying24 A8 rfl rfl (by omega) (by omega)) ?_))))))))))))))))))))))))))))))))))
     unfold CD
     simp only [List.cons_append, List.nil_append]
     refine Qo 5 rfl (Qx (AM rfl Tryz.underlying3 rfl rfl (hcj _ (List.Mem.head _))) rfl (Qw (An 18 71 (by kernel_rfl) rfl (Hp.le_refl _) rfl (oS rfl) (An 23 76 (by kernel_rfl) rfl (Hp.le_refl _) rfl (Mq rfl rfl rfl (by omega)) (An 28 81 (by kernel_rfl) rfl (Hp.le_refl _) rfl (oA rfl) (An 33 86 (by kernel_rfl) rfl (Hp.le_refl _) rfl (GM (B0 rfl rfl rfl (by omega) (by omega)) (congrArg (Value.int .i64) q3)) (Qo 35 rfl (Bu 0 j hO rfl A8 rfl rfl rfl (by omega) rfl rfl (fun m' hO' => Qw (Qe (Aj (Ab (Ad (Qm rfl (Qx (oA rfl) rfl (Qm rfl (Ak ?_)))))))))))))))))
     refine Al (d - (j + 1)) _ (by omega) ⟨j + 1, m', rfl, rfl, rfl, rfl, by omega, by omega, ?_⟩ Qs
     rw [D6, BA (fun i _ => RQ p (w k) (out (pl k)) out hj1 i)] at hO'
     exact hO'
    ·obtain rfl : j = d := by omega
     refine Aw (Aa (Aa (Af (Aj (Ab (Ad (Qm rfl (Qx (oA rfl) rfl (Qm rfl (Ak ?_))))))))))
     refine Al (n - (k + 1)) _ (by omega) ⟨k + 1, _, m, rfl, rfl, rfl, rfl, by omega, hO, hLe.step (by omega) R hkn fun i hi => ?_⟩ Qs
     unfold TO
     by_cases h1 : pl k ≤ i
     ·rw [if_pos ⟨h1, hi⟩, if_pos h1]
     ·rw [if_neg (by omega), if_neg h1]
 ·obtain rfl : k = n := by omega
  refine Aw (Aa (Aa (Af (Ab (Ax (Qm rfl (Qm rfl (Aq (Ao ?_)))))))))
  exact Am rfl rfl (⟨rfl, m, out, rfl, hO, hLe⟩)
end Go.Proofs.YtdnelknieikbaaaGreat
namespace Go.Proofs.YtdnelknieikbaaaGreat
open Go.Eng Go.RowKit Go.Lin
theorem Tn {h : Hp} {n d k : Nat} {w : Nat → Nat → Int} {x : Nat → Int} {vs : List Value} {vx lv : Value} (hvs : vs.length = n) (hk : k ≤ n) (hR : RdL cV 1 h [] lv (vs.take k ++ [vx] ++ vs.drop k)) (hs : ∀ t (ht : t < vs.length), RdL cI 1 h [] vs[t] (vec d (w t))) (hx : RdL cI 1 h [] vx (vec d x)) : RdV h lv (n + 1) d (Eg k x w) := by
 have hlt : (vs.take k).length = k := by rw [List.length_take]; omega
 refine ⟨_, by simp only [List.length_append, List.length_take, List.length_drop, List.length_singleton]; omega, hR, fun t ht => ?_⟩
 have ht' : t < n + 1 := by simp only [List.length_append, List.length_take, List.length_drop, List.length_singleton] at ht; omega
 have e : ∀ u, (vs.take k ++ [vx] ++ vs.drop k)[t]? = some u → RdL cI 1 h [] u (vec d (Eg k x w t)) := fun u hu => by
  rw [List.append_assoc] at hu
  rcases Nat.lt_trichotomy t k with h1 | rfl | h1
  ·rw [List.getElem?_append_left (by omega), List.getElem?_take_of_lt h1, List.getElem?_eq_getElem (by omega)] at hu
   cases hu
   rw [DN h1]; exact hs t (by omega)
  ·rw [List.getElem?_append_right (by omega), hlt, Nat.sub_self] at hu
   cases hu
   rw [Dk]; exact hx
  ·rw [List.getElem?_append_right (by omega), hlt] at hu
   obtain ⟨q, hq⟩ : ∃ q, t - k = q + 1 := ⟨t - k - 1, by omega⟩
   rw [hq, List.singleton_append, List.getElem?_cons_succ, List.getElem?_drop, show k + q = t - 1 by omega, List.getElem?_eq_getElem (by omega)] at hu
   cases hu
   rw [DM h1]; exact hs _ (by omega)
 exact e _ (List.getElem?_eq_getElem ht)
theorem J1 (p : Int) (d n g a : Nat) (f : Nat → Int) (w : Nat → Nat → Int) (pl : Nat → Nat) (lv v : Value) (h : Hp) (hp : IsP p) (hd : d ≤ 1000) (R : Go.Lin.Rows p d n w pl) (hL : RdV h lv n d w) (hf : ∀ i, i < d → 0 ≤ f i ∧ f i < p) (hV : RdL cI 1 h [] v (vec d f)) (ha : a < d) (hfa : f a ≠ 0) (h0 : ∀ i, i < a → f i = 0) (hpl : ∀ l, l < n → pl l ≠ a) :
  FnT Tryz.prog 48 #[.pointer (some ⟨g, 0, none⟩), v] h [AX g 93 [.int .i64 p, lv]] (fun r h' ms' => h.le h' ∧ ∃ k lv', ms' = [AX g 93 [.int .i64 p, lv']] ∧ k ≤ n ∧ RdV h' lv' (n + 1) d (Eg k (fun i => f i * Gf (f a) p % p) w) ∧ Go.Lin.Rows p d (n + 1) (Eg k (fun i => f i * Gf (f a) p % p) w) (Eg k a pl)) := by
 have hp1 := hp.1
 have hp2 := hp.2.1
 have hnd := E3 R
 have hvl := AQ d f
 have hfb := hf a ha
 have hob := Kh hp (show 1 ≤ f a by omega) hfb.2
 have hoi := F1 hp (show 1 ≤ f a by omega) hfb.2
 obtain ⟨vs, hvs, hLv, hLs⟩ := hL
 have hLn : ∀ h', h.le h' → Rd h' [] lv 1 n (vs.flatMap cV) := fun h' l => by have := (hLv.up l).rd; rwa [hvs] at this
 have hVn : Rd h [] v 1 d ((vec d f).flatMap cI) := by have := hV.rd; rwa [hvl] at this
 have hfst : I5 (vec d f) = a := Fg ha hfa h0
 have hfv : ∀ ms, Dq Tryz.prog 80 #[v] h ms (.int .i64 a) := fun ms => by rw [← hfst]; exact FW _ _ h hV ms
 have hvone : ∀ x ∈ vs, ∀ c ∈ cV x, c.oneCell' = true := fun x hx => by
  obtain ⟨t, ht, rfl⟩ := List.getElem_of_mem hx
  exact Cj (hLs t ht).rd.one _ List.mem_cons_self
 refine Av Tryz.func48 Tryz.ntmps48 rfl rfl (fun w0 hw0 => ?_)
 simp only [A4]
 refine Ax (Qm rfl (Qx (AG rfl Tryz.call80 rfl (hfv _)) rfl (Qm rfl (Aq (Ac (AW (n := 10) (bs := [true, true, true, true, true, true, true, false, false, false]) [true, true, true, true, true, true, true] Cd (by kernel_rfl) (by kernel_rfl) rfl rfl (Qq rfl (Qq rfl (Qp rfl (Ah (a) hVn.any rfl Tryz.underlying24 A8 rfl rfl (by omega) (by omega)) (Qp rfl (AM rfl Tryz.underlying3 rfl rfl (hV.any.ev ha)) (Qq rfl (Qq rfl (QF Eo rfl ?_)))))))))))))
 unfold CD
 simp only [List.cons_append, List.nil_append]
 refine Qo 7 rfl (Qx (AM rfl Tryz.underlying3 rfl rfl (Cell.blk 0 (k := 0) rfl rfl)) rfl (Qw (Qo 8 rfl (Qx (AG rfl Tryz.call81 rfl (Ry (f a) p _ hp (by omega) (by omega) _)) rfl (Qw (Qo 9 rfl (Qm rfl (Qw (Qe (Ab (Ax (Qm rfl (Aq (Ac (Ax (Qm rfl (Aq (Ag (BX ?_)))))))))))))))))))
 refine AD (fun q sl hh ms' => ∃ (j : Nat) (v6 : Value) (m6 : Hp), q = d - j ∧ sl = [(0, .pointer (some ⟨g, 0, none⟩)), (1, v), (4, .int .i64 a), (5, .int .i64 (Gf (f a) p)), (6, v6), (7, .int .i64 j)] ∧ h = hh ∧ ms' = [m6, AX g 93 [.int .i64 p, lv]] ∧ j ≤ d ∧ OwnL cI 1 3 m6 v6 (vec j (fun i => f i * Gf (f a) p % p)))
  (d - 0) _ ⟨0, _, _, rfl, rfl, rfl, rfl, by omega, OwnL.nil Br⟩ Qs ?_
 rintro q sl hh ms' ⟨j, v6, m6, rfl, rfl, rfl, rfl, hj, hO6⟩
 have hjl := AQ j (fun i => f i * Gf (f a) p % p)
 refine Ac (Ax (Qm rfl (Qm rfl (Qx (AJ hVn.any rfl Tryz.underlying24 rfl) rfl (Qm rfl (Aq ?_))))))
 refine AF rfl (fun hlt => ?_) (fun hlt => ?_)
 ·have hjd : j < d := by omega
  have hmb := DF (hf j hjd) (show 0 ≤ Gf (f a) p ∧ Gf (f a) p < p by omega) hp2
  refine Ai (Ab (Ac (Ag (AW (n := 15) (bs := [true, true, true, true, true, true, true, true, true, true, false, false, false, false, false]) [true, true, true, true, true, true, true, true, true, true] Cd (by kernel_rfl) (by kernel_rfl) rfl rfl (Qq rfl (Qq rfl (Qq rfl (Qp rfl (Ah (j) hVn.any rfl Tryz.underlying24 A8 rfl rfl (by omega) (by omega)) (Qp rfl (AM rfl Tryz.underlying3 rfl rfl (hV.any.ev hjd)) (Qq rfl (Qp rfl (oM rfl) (Qq rfl (Qq rfl (QF Eo rfl ?_))))))))))))))
  unfold CD
  simp only [List.cons_append, List.nil_append]
  refine Qo 10 rfl (Qx (AM rfl Tryz.underlying3 rfl rfl (Cell.blk 1 (k := 0) rfl rfl)) rfl (Qw (An 11 38 (by kernel_rfl) rfl (Hp.le_refl _) rfl (B0 rfl rfl rfl (by omega) (by omega)) (Qo 12 rfl ?_))))
  refine AB [_] rfl Tryz.underlying24 A8 rfl (by rfl) rfl rfl (by omega) rfl rfl rfl (fun g39 => ?_)
  refine Qw (Qo 13 rfl ?_)
  refine Bm 1 hO6 (RdL.one Br (x := f j * Gf (f a) p % p) (List.Mem.head _) rfl) rfl Tryz.underlying24 A8 rfl (by omega) rfl rfl rfl Cv (by simp only [List.length_singleton]; omega) (by simp only [List.length_singleton]; omega) rfl rfl rfl (fun v6b m6b hO6b => ?_)
  refine Qw (Qo 14 rfl (Qm rfl (Qw (Qe (Aj (Ab (Ad (Qm rfl (Qx (oA rfl) rfl (Qm rfl (Ak (A5 ?_))))))))))))
  refine Al (d - (j + 1)) _ (by omega) ⟨j + 1, v6b, m6b, rfl, rfl, rfl, rfl, by omega, ?_⟩ Qs
  have e : vec j (fun i => f i * Gf (f a) p % p) ++ [f j * Gf (f a) p % p] = vec (j + 1) fun i => f i * Gf (f a) p % p := La j _
  rw [e] at hO6b
  exact hO6b
 ·obtain rfl : j = d := by omega
  refine Aw (Aa (Aa (Af (Ab (Ax (Qm rfl (Aq (Bg hO6 fun h2 l2 hRx => ?_))))))))
  have o6 := hRx.rd.one
  have hLv2 := hLv.up l2
  refine Bv (fun sl hh ms' => ∃ k : Nat, sl = [(0, .pointer (some ⟨g, 0, none⟩)), (6, v6), (8, .int .i64 k)] ∧ h2 = hh ∧ ms' = [AX g 93 [.int .i64 p, lv]] ∧ k ≤ n ∧ (∀ l, l < k → pl l < a) ∧ ∀ l, k ≤ l → l < n → a < pl l) ?_ (fun s h ms hI => ?_)
  ·refine Ag ?_
   refine AD (fun q sl hh ms' => ∃ (k : Nat), q = n - k ∧ sl = [(0, .pointer (some ⟨g, 0, none⟩)), (4, .int .i64 a), (6, v6), (8, .int .i64 k)] ∧ h2 = hh ∧ ms' = [AX g 93 [.int .i64 p, lv]] ∧ k ≤ n ∧ ∀ l, l < k → pl l < a)
    (n - 0) _ ⟨0, rfl, rfl, rfl, rfl, by omega, fun l hl => by omega⟩ Qs ?_
   rintro q sl hh ms' ⟨k, rfl, rfl, rfl, rfl, hk, hlo⟩
   refine Ac (Ax (Qm rfl (Qm rfl (Qm rfl (Qf C1 rfl (Qx (AM rfl Tryz.underlying62 rfl rfl (Cell.blk 0 (k := 1) rfl rfl)) rfl (Qx (AJ (hLn _ l2).any rfl Tryz.underlying62 rfl) rfl (Qm rfl (Qm rfl ?_)))))))))
   refine AR (t := 48) rfl (fun hs1 => ?_) (fun hs1 => ?_)
   ·have hkn : k < n := by omega
    have hkv : k < vs.length := by omega
    have hfk : ∀ ms, Dq Tryz.prog 80 #[vs[k]] h2 ms (.int .i64 (pl k)) := fun ms => by
     rw [← show I5 (vec j (w k)) = pl k from Fg (R.lt k hkn) (by rw [R.one k hkn]; decide) (R.low k hkn)]
     exact FW _ _ h2 ((hLs k hkv).up l2) ms
    refine Qg (As rfl rfl) rfl (Qg (H0 rfl rfl) rfl (Qg (oF C1 rfl) rfl (Qg (AM rfl Tryz.underlying62 rfl rfl (Cell.blk 0 (k := 1) rfl rfl)) rfl (Qg (As rfl rfl) rfl (Qg (Ah (k) (hLn _ l2).any rfl Tryz.underlying62 BN rfl rfl (by omega) (by omega)) rfl (Qg (AM rfl Tryz.underlying24 rfl rfl (hLv2.any.cell0 hkv rfl)) rfl (Qg (AG rfl Tryz.call80 rfl (hfk _)) rfl (Qg (As rfl rfl) rfl (Qg (Dy rfl rfl rfl) rfl (Qm rfl (Aq ?_)))))))))))
    refine AF rfl (fun hs2 => ?_) (fun hs2 => ?_)
    ·refine Ai (Ab (Ag (Ad (Qm rfl (Qx (oA rfl) rfl (Qm rfl (Ak (Aj ?_))))))))
     refine Al (n - (k + 1)) _ (by omega) ⟨k + 1, rfl, rfl, rfl, rfl, by omega, fun l hl => ?_⟩ Qs
     rcases (by omega : l < k ∨ l = k) with h1 | rfl
     ·exact hlo l h1
     ·omega
    ·refine Aw (Aa (Aa (Af ?_)))
     refine AA _ ⟨k, rfl, rfl, rfl, hk, hlo, fun l h1 h2 => ?_⟩ Qs
     have := hpl k hkn
     rcases (by omega : l = k ∨ k < l) with rfl | h3
     ·omega
     ·have := R.inc k l h3 h2; omega
   ·obtain rfl : k = n := by omega
    refine Qk rfl (Qk rfl (Qk rfl (Qk rfl (Qk rfl (Qk rfl (Qk rfl (Qk rfl (Qk rfl (Qk rfl (Qm rfl (Aq (Bb rfl (Aw (Aa (Aa (Af ?_))))))))))))))))
    exact AA _ ⟨k, rfl, rfl, rfl, hk, hlo, fun l h1 h2 => by omega⟩ Qs
  ·obtain ⟨k, rfl, rfl, rfl, hk, hlo, hhi⟩ := hI
   have hl1 : (vs.take k).length = k := by rw [List.length_take]; omega
   have hl2 : (vs.drop k).length = n - k := by rw [List.length_drop]; omega
   have hS1 : RdL cV 1 h2 [] (Ch 1 lv 0 k) (vs.take k) := by simpa using hLv2.sub_ (i := 0) (j := k) (by omega) (by omega)
   have hS2 : RdL cV 1 h2 [] (Ch 1 lv k n) (vs.drop k) := by
    have := hLv2.sub_ (i := k) (j := n) hk (by omega)
    rwa [List.take_of_length_le (by omega)] at this
   refine Ax (Qm rfl (Aq (BX (Ax (Qm rfl (Qm rfl (Qm rfl (Qf C1 rfl (Qx (AM rfl Tryz.underlying62 rfl rfl (Cell.blk 1 (k := 1) rfl rfl)) rfl (Qm rfl (Qx (EA (k) (hLn _ l2).any rfl Tryz.underlying62 BN rfl rfl (by omega) (by omega)) rfl ?_)))))))))))
   refine Ba 0 (OwnL.nil BK) hS1.any rfl Tryz.underlying62 BN rfl (by omega) rfl rfl rfl (fun x hx => hvone x (List.mem_of_mem_take hx)) (by (try simp only [List.length_nil, List.length_append, List.length_singleton]); omega) (by (try simp only [List.length_nil, List.length_append, List.length_singleton]); omega) rfl rfl rfl (fun v9 m9 hO9 => ?_)
   rw [List.nil_append] at hO9
   refine Qm rfl (B3 (Qm rfl (Qm rfl (AB [_] rfl Tryz.underlying62 BN rfl ((RdL.rd ‹_›).cells) rfl rfl (by omega) rfl rfl rfl (fun g72 => ?_)))))
   refine Ba 1 hO9 (RdL.one BK (x := v6) (List.Mem.head _) rfl) rfl Tryz.underlying62 BN rfl (by omega) rfl rfl rfl (Cj o6) (by (try simp only [List.length_nil, List.length_append, List.length_singleton]); omega) (by (try simp only [List.length_nil, List.length_append, List.length_singleton]); omega) rfl rfl rfl (fun v9b m9b hO9b => ?_)
   refine Qm rfl (IA (Qm rfl (Qm rfl (Qm rfl (Qm rfl (Qf C1 rfl (Qx (AM rfl Tryz.underlying62 rfl rfl (Cell.blk 2 (k := 1) rfl rfl)) rfl (Qm rfl (Qx (C3 (k) (hLn _ l2).any rfl Tryz.underlying62 BN rfl rfl (by omega) (by omega)) rfl ?_)))))))))
   refine Ba 1 hO9b hS2.any rfl Tryz.underlying62 BN rfl (by omega) rfl rfl rfl (fun x hx => hvone x (List.mem_of_mem_drop hx)) (by (try simp only [List.length_nil, List.length_append, List.length_singleton]); omega) (by (try simp only [List.length_nil, List.length_append, List.length_singleton]); omega) rfl rfl rfl (fun v9c m9c hO9c => ?_)
   have o9c : v9c.oneCell' = true := (hO9c.rd (h := h) (ms := [m9c]) (List.Mem.head _)).rd.one
   refine Qm rfl (Qf C1 rfl ?_)
   refine AK 2 _ rfl Co rfl rfl (by assumption) rfl rfl (by (simp; done)) rfl rfl ?_
   refine Ak (A5 (CW hO9c fun h4 l4 hR4 => ?_))
   have l24 := Hp.le_trans l2 l4
   exact B6 rfl (⟨l24, k, v9c, rfl, hk, Tn hvs hk hR4 (fun t ht => (hLs t ht).up l24) (hRx.up l4), R.insert hk ha hlo hhi (fun i hi => ⟨Int.emod_nonneg _ (by omega), Int.emod_lt_of_pos _ (by omega)⟩) hoi (fun i hi => by show f i * Gf (f a) p % p = 0; rw [h0 i hi, Int.zero_mul, Int.zero_emod])⟩)
end Go.Proofs.YtdnelknieikbaaaGreat
namespace Go.Proofs.YtdnelknieikbaaaGreat
open Go.Eng Go.RowKit Go.Lin
theorem Q1 {p x : Int} (hp : IsP p) (h1 : 1 ≤ x) (hx : x < p) : Cg p (x * Gf x p) 1 := Cg.iff_mod.2 (by rw [F1 hp h1 hx, Int.emod_eq_of_lt (by omega) (by have := hp.1; omega)])
theorem GV {h : Hp} {d : Nat} {w : Nat → Nat → Int} : RdV h (.slice none 0 0) 0 d w := ⟨[], rfl, ⟨Rd.nil h [] 1, BK⟩, fun j hj => by simp at hj⟩
theorem FO {p : Int} {d : Nat} {w : Nat → Nat → Int} {pl : Nat → Nat} : Go.Lin.Rows p d 0 w pl := ⟨fun k h => by omega, fun k h => by omega, fun k h => by omega, fun k h => by omega, fun k l _ h => by omega⟩
theorem FU {n a k : Nat} {f : Nat → Int} (h : a + k ≤ n) : ((vec n f).drop a).take k = vec k fun i => f (a + i) := List.ext_getElem (by simp [vec]; omega) fun i h1 h2 => by simp [vec]
theorem KE (p : Int) (d n g : Nat) (f : Nat → Int) (w : Nat → Nat → Int) (pl : Nat → Nat) (lv v : Value) (h : Hp) (hp : IsP p) (hd : d ≤ 1000) (R : Go.Lin.Rows p d n w pl) (hL : RdV h lv n d w) (hf : ∀ i, i < d → 0 ≤ f i ∧ f i < p) (hV : RdL cI 1 h [] v (vec d f)) :
  FnT Tryz.prog 82 #[.pointer (some ⟨g, 0, none⟩), v] h [AX g 93 [.int .i64 p, lv]] (fun r h' ms' => h.le h' ∧ ∃ n' w' pl' lv', ms' = [AX g 93 [.int .i64 p, lv']] ∧ RdV h' lv' n' d w' ∧ Go.Lin.Rows p d n' w' pl' ∧ ∀ y, Spn p n' ty d w' y ↔ Exw (Spn p n ty d w) f y) := by
 have hp1 := hp.1
 have hp2 := hp.2.1
 have hvl := AQ d f
 have hVn : ∀ h', h.le h' → Rd h' [] v 1 d ((vec d f).flatMap cI) := fun h' l => by have := (hV.up l).rd; rwa [hvl] at this
 refine Av Tryz.func82 Tryz.ntmps82 rfl rfl (fun w0 hw0 => ?_)
 simp only [A4]
 refine CV fun h1 l1 lG dG LG => ?_
 have hG : Seg h1 [] ⟨g, 0, none⟩ [.int .i64 p, lv] := Seg.ofLe lG
 refine Ax (Qm rfl (Qm rfl (Qm rfl (Qx (AJ (hVn _ l1).any rfl Tryz.underlying24 rfl) rfl (E4 rfl Tryz.call84 rfl (Od p d n g d f w pl lv v h1 hp hd R hG (hL.up l1) hf (hV.up l1) hd) rfl rfl rfl (fun vx h2 ms2 l2 hF => ?_))))))
 obtain ⟨rfl, m, out, rfl, hO, hLe⟩ := hF
 refine Ig LG lG fun h2 l2 b2 => ?_
 have hh2 : h.le h2 := b2 h l1 dG
 refine Fe (AH hO fun h3 l3 hRx => ?_)
 have l03 := Hp.le_trans hh2 l3
 have hob := hLe.bd
 obtain ⟨s1, s2, s3⟩ := Ip out d
 refine Qm rfl (B3 (Qm rfl (Qx (AG rfl Tryz.call80 rfl (FW _ _ h3 hRx _)) rfl (Qm rfl (Aq ?_)))))
 refine AF rfl (fun hc => ?_) (fun hc => ?_)
 ·have hz : fs d out < d := Decidable.by_contra fun hz => by
   rw [JO (ME (by omega))] at hc
   omega
  have hne := s3 hz
  refine Ad (Qm rfl (Qm rfl ?_))
  refine Bs (pre := [AX g 93 [.int .i64 p, lv]]) rfl Tryz.call48 rfl (J1 p d n g (fs d out) out w pl lv vx h3 hp hd R (hL.up l03) hob hRx hz hne s2 (fun l hl he => hne (by rw [← he]; exact hLe.zero l hl (R.lt l hl)))) rfl rfl rfl rfl (fun x4 h4 ms4 l4 hF => ?_)
  obtain ⟨l4', k, lv', rfl, hk, hL', hR'⟩ := hF
  have h1 := hob _ hz
  have hcg := Q1 hp (show 1 ≤ out (fs d out) by omega) h1.2
  refine Ak ?_
  exact B6 rfl (⟨Hp.le_trans l03 l4, n + 1, _, _, lv', rfl, hL', hR', fun y => Ln hLe hk (u := Gf (out (fs d out)) p) (t := out (fs d out)) (fun i hi => (Cg.mod _ _).trans (Cg.of_eq (Int.mul_comm _ _))) hcg y⟩)
 ·have hz : ∀ i, i < d → out i = 0 := ME (Decidable.by_contra fun hz => by
   have hlt : fs d out < d := by omega
   rw [Fg hlt (s3 hlt) s2] at hc
   omega)
  refine Ai ?_
  exact B6 rfl (⟨l03, n, w, pl, lv, rfl, hL.up l03, R, fun y => R9 hLe hz y⟩)
theorem MO (p : Int) (na d N gx : Nat) (w : Nat → Nat → Int) (pl : Nat → Nat) (lv : Value) (h : Hp) (hp : IsP p) (hna : na ≤ 400) (hd : d ≤ 400) (R : Go.Lin.Rows p (na + d) N w pl) (hG : Seg h [] ⟨gx, 0, none⟩ [.int .i64 p, lv]) (hL : RdV h lv N (na + d) w) :
  FnT Tryz.prog 50 #[.agg #[.int .i64 na, .pointer (some ⟨gx, 0, none⟩)]] h [] (fun r _ _ => ∃ (nw : Nat) (ww : Nat → Nat → Int) (pw : Nat → Nat), r = .int .i64 ((nw : Int) - (cnt N fun m => decide (na ≤ pl m) : Nat)) ∧ Go.Lin.Rows p d nw ww pw ∧ Sp p d nw ww N fun m j => w m (na + j)) := by
 have hp1 := hp.1
 have hp2 := hp.2.1
 have hnd := E3 R
 obtain ⟨vs, hvs, hLv, hLs⟩ := hL
 have hLn : ∀ h', h.le h' → Rd h' [] lv 1 N (vs.flatMap cV) := fun h' l => by have := (hLv.up l).rd; rwa [hvs] at this
 refine Av Tryz.func50 Tryz.ntmps50 rfl rfl (fun w0 hw0 => ?_)
 simp only [A4]
 refine Ax ?_
 refine AS [_, _] rfl rfl (by rfl) rfl rfl rfl (fun g1 => ?_)
 refine Qm rfl (Aq (AL fun h1 l1 hS1' => ?_))
 have hA := Seg.all hS1'
 have hA0 := hA 0 _ rfl
 have hX := Seg.all (hG.le l1)
 have hX0 := hX 0 _ rfl
 refine Ax (Qf CQ rfl (Qx (AM rfl Tryz.underlying91 rfl rfl (hA _ _ rfl _)) rfl (Qm rfl (Qf Eo rfl (Qx (AM rfl Tryz.underlying3 rfl rfl (hX0 _)) rfl ?_)))))
 refine Qx (AT PK [.int .i64 0, .slice none 0 0] [(0, _)] [_, _] rfl RD rfl rfl (by repeat (first | exact trivial | refine ⟨⟨rfl, rfl, rfl⟩, ?_⟩)) rfl) rfl ?_
 refine AS [_, _] rfl rfl (by rfl) rfl rfl rfl (fun g12 => ?_)
 refine Qm rfl (B3 (Qm rfl (Aq (Ac (Ax (Qm rfl (Aq (Ag ?_))))))))
 refine AD (fun q sl hh ms' => ∃ (m nw : Nat) (ww : Nat → Nat → Int) (pw : Nat → Nat) (lw : Value), q = N - m ∧ sl = [(1, .pointer (some ⟨g1, 0, none⟩)), (3, .pointer (some ⟨g12, 0, none⟩)), (4, .int .i64 (cnt m fun m => decide (na ≤ pl m) : Nat)), (5, .int .i64 m)] ∧ h1.le hh ∧ ms' = [AX g12 93 [.int .i64 p, lw]] ∧ m ≤ N ∧ RdV hh lw nw d ww ∧ Go.Lin.Rows p d nw ww pw ∧ Sp p d nw ww m fun m j => w m (na + j))
  (N - 0) _ ⟨0, 0, fun _ _ => 0, fun _ => 0, _, rfl, rfl, Hp.le_refl _, rfl, by omega, GV, FO, Sp.start⟩ Qs ?_
 rintro q sl hh ms' ⟨m, nw, ww, pw, lw, rfl, rfl, lh, rfl, hm, hLw, Rw, S⟩
 have l0h := Hp.le_trans l1 lh
 have hA := Seg.all (hS1'.le lh)
 have hA0 := hA 0 _ rfl
 have hX := Seg.all (hG.le l0h)
 have hX0 := hX 0 _ rfl
 have hcm := QK m fun m => decide (na ≤ pl m)
 have hnw := E3 Rw
 refine Ac (Ax (Qm rfl (Qf CQ rfl (Qx (AM rfl Tryz.underlying91 rfl rfl (hA _ _ rfl _)) rfl (Qm rfl (Qf C1 rfl (Qx (AM rfl Tryz.underlying62 rfl rfl (hX _ _ rfl _)) rfl (Qx (AJ (hLn _ l0h).any rfl Tryz.underlying62 rfl) rfl (Qm rfl (Aq ?_))))))))))
 refine AF rfl (fun hlt => ?_) (fun hlt => ?_)
 ·have hmN : m < N := by omega
  have hmv : m < vs.length := by omega
  have hRm := (hLs m hmv).up l0h
  have hvl := AQ (na + d) (w m)
  have hRn : Rd hh [] vs[m] 1 (na + d) ((vec (na + d) (w m)).flatMap cI) := by have := hRm.rd; rwa [hvl] at this
  have hS1 : RdL cI 1 hh [] (Ch 1 vs[m] na (na + d)) (vec d fun j => w m (na + j)) := by
   have := hRm.sub_ (i := na) (j := na + d) (by omega) (by omega)
   rwa [Nat.add_sub_cancel_left, FU (Nat.le_refl _)] at this
  have hbm : ∀ i, i < d → 0 ≤ w m (na + i) ∧ w m (na + i) < p := fun i hi => R.bd m hmN _ (by omega)
  refine Ai (Ab (Ac (Ag (Ac (AW (n := 13) (bs := [true, true, true, true, true, true, true, true, true, true, true, true, false]) [true, true, true, true, true, true, true, true, true, true, true, true] Cd (by kernel_rfl) (by kernel_rfl) rfl rfl (Qq rfl (QF CQ rfl (Qp rfl (AM rfl Tryz.underlying91 rfl rfl (hA _ _ rfl _)) (Qq rfl (QF C1 rfl (Qp rfl (AM rfl Tryz.underlying62 rfl rfl (hX _ _ rfl _)) (Qq rfl (Qp rfl (Ah (m) (hLn _ l0h).any rfl Tryz.underlying62 BN rfl rfl (by omega) (by omega)) (Qp rfl (AM rfl Tryz.underlying24 rfl rfl ((hLv.up l0h).any.cell0 hmv rfl)) (QF D1 rfl (Qp rfl (AM rfl Tryz.underlying3 rfl rfl (hA0 _)) (Qp rfl (C3 (na) hRn.any rfl Tryz.underlying24 A8 rfl rfl (by omega) (by omega)) ?_)))))))))))))))))
  unfold CD
  simp only [List.cons_append, List.nil_append]
  refine Qo 12 rfl (Bs (pre := [AX g12 93 [.int .i64 p, lw]]) rfl Tryz.call82 rfl (KE p d nw g12 (fun j => w m (na + j)) ww pw lw _ hh hp (by omega) Rw hLw hbm hS1) rfl rfl rfl rfl (fun x4 h4 ms4 l4 hF => ?_))
  obtain ⟨l4', n', w', pl', lw', rfl, hL', hR', hSp⟩ := hF
  refine Qa (Qe ?_)
  have S' := S.next (n' := n') (w' := w') hSp
  have l04 := Hp.le_trans l0h l4
  have hA := Seg.all ((hS1'.le lh).le l4)
  have hA0 := hA 0 _ rfl
  have hX := Seg.all (hG.le l04)
  have hX0 := hX 0 _ rfl
  have hfk : ∀ ms, Dq Tryz.prog 80 #[vs[m]] h4 ms (.int .i64 (pl m)) := fun ms => by
   rw [← show I5 (vec (na + d) (w m)) = pl m from Fg (R.lt m hmN) (by rw [R.one m hmN]; decide) (R.low m hmN)]
   exact FW _ _ h4 ((hLs m hmv).up l04) ms
  refine Ab (Ac (AW (n := 12) (bs := [true, true, true, true, true, true, true, true, true, true, true, true]) [true, true, true, true, true, true, true, true, true, true, true, true] Cd (by kernel_rfl) (by kernel_rfl) rfl rfl (QF CQ rfl (Qp rfl (AM rfl Tryz.underlying91 rfl rfl (hA _ _ rfl _)) (Qq rfl (QF C1 rfl (Qp rfl (AM rfl Tryz.underlying62 rfl rfl (hX _ _ rfl _)) (Qq rfl (Qp rfl (Ah (m) (hLn _ l04).any rfl Tryz.underlying62 BN rfl rfl (by omega) (by omega)) (Qp rfl (AM rfl Tryz.underlying24 rfl rfl ((hLv.up l04).any.cell0 hmv rfl)) (Qp rfl (AG rfl Tryz.call80 rfl (hfk _)) (QF D1 rfl (Qp rfl (AM rfl Tryz.underlying3 rfl rfl (hA0 _)) (Qq rfl ?_))))))))))))))
  unfold CD
  simp only [List.cons_append, List.nil_append]
  refine Qe (Ab ?_)
  have hcs := BO m fun m => decide (na ≤ pl m)
  refine AF rfl (fun hge => ?_) (fun hge => ?_)
  ·rw [if_pos (decide_eq_true (by omega))] at hcs
   refine Ad (Qm rfl (Qx (oA rfl) rfl (Qm rfl (Ak (Aj (Ab (Ad (Qm rfl (Qx (oA rfl) rfl (Qm rfl (Ak ?_)))))))))))
   exact Al (N - (m + 1)) _ (by omega) ⟨m + 1, n', w', pl', lw', rfl, by rw [hcs], Hp.le_trans lh l4, rfl, by omega, hL', hR', S'⟩ Qs
  ·rw [if_neg (by simpa using (by omega : ¬ na ≤ pl m)), Nat.add_zero] at hcs
   refine Ai (Aj (Ab (Ad (Qm rfl (Qx (oA rfl) rfl (Qm rfl (Ak ?_)))))))
   exact Al (N - (m + 1)) _ (by omega) ⟨m + 1, n', w', pl', lw', rfl, by rw [hcs], Hp.le_trans lh l4, rfl, by omega, hL', hR', S'⟩ Qs
 ·obtain rfl : m = N := by omega
  obtain ⟨us, hus, hRw⟩ := hLw.rdn
  refine Aw (Aa (Aa (Af (Ab (Ax (Qm rfl (Qm rfl (Qf C1 rfl (Qx (AM rfl Tryz.underlying62 rfl rfl (Cell.blk 0 rfl rfl)) rfl (Qx (AJ hRw.any rfl Tryz.underlying62 rfl) rfl (Qm rfl (Qx (oS rfl) rfl (Qm rfl (Aq (Ao ?_)))))))))))))))
  exact Am rfl rfl (⟨nw, ww, pw, rfl, Rw, S⟩)
end Go.Proofs.YtdnelknieikbaaaGreat
set_option maxHeartbeats 4000000
namespace Go.Proofs.YtdnelknieikbaaaGreat
open Go.Eng Go.RowKit Go.Lin
theorem Hk (n d : Nat) (u y : Nat → Int) : vec n u ++ vec d y = vec (n + d) (Ej n u y) := List.ext_getElem (by simp [vec]) fun i h1 h2 => by
 simp only [vec, List.getElem_append, List.length_map, List.length_range, List.getElem_map, List.getElem_range, Ej]
 split <;> rfl
theorem KW {h : Hp} {ms : List Hp} {g : Nat} {x : Value} {l : List Value} (hS : Seg h [] ⟨g, 0, none⟩ (x :: l)) : Seg h ms ((⟨g, 0, none⟩ : Addr).add 1) l := fun j u hu => by
 rw [A6]
 exact (Seg.all hS) (1 + j) u (by rw [Nat.add_comm]; exact hu) ms
theorem Oj (p : Int) (na e f N gx : Nat) (w : Nat → Nat → Int) (pl : Nat → Nat) (F : Nat → Nat → Int) (lv ev : Value) (h : Hp) (hp : IsP p) (hna : na ≤ 200) (he : e ≤ 200) (hf : f ≤ 200) (R : Go.Lin.Rows p (na + e) N w pl) (hG : Seg h [] ⟨gx, 0, none⟩ [.int .i64 p, lv]) (hL : RdV h lv N (na + e) w) (RA : RtM p f e F) (hA : RdL cI 1 h [] ev (mat f e F)) :
  FnT Tryz.prog 49 #[.agg #[.int .i64 na, .pointer (some ⟨gx, 0, none⟩)], .agg #[.bool false, .int .i64 p, .int .i64 f, .int .i64 e, ev]] h [] (fun r h' ms' => h.le h' ∧ ∃ (g' n' : Nat) (w' : Nat → Nat → Int) (pl' : Nat → Nat) (lv' : Value), r = .agg #[.int .i64 na, .pointer (some ⟨g', 0, none⟩)] ∧ ms' = [AX g' 93 [.int .i64 p, lv']] ∧ RdV h' lv' n' (na + f) w' ∧ Go.Lin.Rows p (na + f) n' w' pl' ∧ Sp p (na + f) n' w' N fun m => Ej na (w m) (D2 p e F fun j => w m (na + j))) := by
 have hp1 := hp.1
 have hp2 := hp.2.1
 have hnd := E3 R
 have o1 := hA.rd.one
 obtain ⟨vs, hvs, hLv, hLs⟩ := hL
 have hLn : ∀ h', h.le h' → Rd h' [] lv 1 N (vs.flatMap cV) := fun h' l => by have := (hLv.up l).rd; rwa [hvs] at this
 refine Av Tryz.func49 Tryz.ntmps49 rfl rfl (fun w0 hw0 => ?_)
 simp only [A4]
 refine Ax ?_
 refine AS [_, _] rfl rfl (by rfl) rfl rfl rfl (fun g2 => ?_)
 refine AS [_, _, _, _, _] rfl rfl (by rfl) rfl rfl rfl (fun g3 => ?_)
 refine BZ [.int .i64 0, .pointer none] rfl Dv rfl rfl (fun g4 => Aq (By 1 rfl fun h1 l1 hS3 => (By 1 rfl fun h2 l2 hS2 => ?_)))
 have l02 := Hp.le_trans l1 l2
 have hS3 := hS3.le l2
 have hB3 := Seg.all hS3
 have hB30 := hB3 0 _ rfl
 have hB2 := Seg.all hS2
 have hB20 := hB2 0 _ rfl
 have hX := Seg.all (hG.le l02)
 have hX0 := hX 0 _ rfl
 refine Bv (fun sl hh ms' => ∃ g5 g28 : Nat, sl = [(2, .pointer (some ⟨g2, 0, none⟩)), (3, .pointer (some ⟨g3, 0, none⟩)), (4, .pointer (some ⟨g4, 0, none⟩)), (5, .pointer (some ⟨g5, 0, none⟩))] ∧ h2 = hh ∧ ms' = [AX g5 95 [.int .i64 na, .pointer (some ⟨g28, 0, none⟩)], AX g28 93 [.int .i64 p, .slice none 0 0], AX g4 95 [.int .i64 0, .pointer none]]) ?_ (fun s h ms hI => ?_)
 ·refine AW (n := 12) (bs := [true, true, true, true, true, true, true, true, false, false, false, false]) [true, true, true, true, true, true, true, true] Cd (by kernel_rfl) (by kernel_rfl) rfl rfl (QF D1 rfl (Qp rfl (AM rfl Tryz.underlying3 rfl rfl (hB20 _)) (QF CQ rfl (Qp rfl (AM rfl Tryz.underlying91 rfl rfl (hB2 _ _ rfl _)) (Qq rfl (QF Eo rfl (Qp rfl (AM rfl Tryz.underlying3 rfl rfl (hX0 _)) ?_)))))))
  refine Qp rfl (AT PK [.int .i64 0, .slice none 0 0] [(0, _)] [_, _] rfl RD rfl rfl (by repeat (first | exact trivial | refine ⟨⟨rfl, rfl, rfl⟩, ?_⟩)) rfl) ?_
  unfold CD
  simp only [List.cons_append, List.nil_append]
  refine A2 [8, 10] (by kernel_rfl) rfl ?_
  refine Az rfl ?_ ?_
  ·refine AS [_, _] rfl rfl (by rfl) rfl rfl rfl (fun g28 => ?_)
   refine Qw ?_
   refine An 9 29 (by kernel_rfl) rfl (Hp.le_refl _) rfl (AT Oi [.int .i64 0, .pointer none] [(0, _), (1, _)] [_, _] rfl Dv rfl rfl (by repeat (first | exact trivial | refine ⟨⟨rfl, rfl, rfl⟩, ?_⟩)) rfl) ?_
   refine Qo 10 rfl (BZ [.int .i64 0, .pointer none] rfl Dv rfl rfl (fun g5 => Qw (Qo 11 rfl ?_)))
   refine Sa 0 [_, _] Dv rfl (by simp [Value.oneCell']) ?_
   refine Qw (Qe ?_)
   exact AA _ ⟨_, _, rfl, rfl, rfl⟩ Qs
  refine Az rfl ?_ ?_
  ·refine BZ [.int .i64 0, .pointer none] rfl Dv rfl rfl (fun g5 => Qw (Qo 8 rfl ?_))
   refine AS [_, _] rfl rfl (by rfl) rfl rfl rfl (fun g28 => ?_)
   refine Qw ?_
   refine An 9 29 (by kernel_rfl) rfl (Hp.le_refl _) rfl (AT Oi [.int .i64 0, .pointer none] [(0, _), (1, _)] [_, _] rfl Dv rfl rfl (by repeat (first | exact trivial | refine ⟨⟨rfl, rfl, rfl⟩, ?_⟩)) rfl) ?_
   refine Qo 11 rfl ?_
   refine Sa 1 [_, _] Dv rfl (by simp [Value.oneCell']) ?_
   refine Qw (Qe ?_)
   exact A9 (AA _ ⟨_, _, rfl, rfl, rfl⟩ Qs)
  exact A3
 ·obtain ⟨g5, g28, rfl, rfl, rfl⟩ := hI
  refine AL fun h3 l3 hS5 => ?_
  have l03 := Hp.le_trans l02 l3
  have hS3 := hS3.le l3
  have hS2 := hS2.le l3
  have hB3 := Seg.all hS3
  have hB30 := hB3 0 _ rfl
  refine Ac (Ax (Qf EK rfl (Qx (AM rfl Tryz.underlying4 rfl rfl (hB30 _)) rfl (Qm rfl (Aq (AU rfl (Ac (Ax (Qm rfl (Aq (Ag ?_)))))))))))
  refine AD (fun q sl hh ms' => ∃ (m n' : Nat) (w' : Nat → Nat → Int) (pl' : Nat → Nat) (lw : Value), q = N - m ∧ sl = [(2, .pointer (some ⟨g2, 0, none⟩)), (3, .pointer (some ⟨g3, 0, none⟩)), (4, .pointer (some ⟨g4, 0, none⟩)), (5, .pointer (some ⟨g5, 0, none⟩)), (6, .int .i64 m)] ∧ h3.le hh ∧ ms' = [AX g28 93 [.int .i64 p, lw], AX g4 95 [.int .i64 0, .pointer none]] ∧ m ≤ N ∧ RdV hh lw n' (na + f) w' ∧ Go.Lin.Rows p (na + f) n' w' pl' ∧ Sp p (na + f) n' w' m fun m => Ej na (w m) (D2 p e F fun j => w m (na + j)))
   (N - 0) _ ⟨0, 0, fun _ _ => 0, fun _ => 0, _, rfl, rfl, Hp.le_refl _, rfl, by omega, GV, FO, Sp.start⟩ Qs ?_
  rintro q sl hh ms' ⟨m, n', w', pl', lw, rfl, rfl, lh, rfl, hm, hLw, Rw, S⟩
  have l0h := Hp.le_trans l03 lh
  have hB3 := Seg.all (hS3.le lh)
  have hB30 := hB3 0 _ rfl
  have hB2 := Seg.all (hS2.le lh)
  have hB20 := hB2 0 _ rfl
  have hB5 := Seg.all (hS5.le lh)
  have hB50 := hB5 0 _ rfl
  have hX := Seg.all (hG.le l0h)
  have hX0 := hX 0 _ rfl
  refine Ac (Ax (Qm rfl (Qf CQ rfl (Qx (AM rfl Tryz.underlying91 rfl rfl (hB2 _ _ rfl _)) rfl (Qm rfl (Qf C1 rfl (Qx (AM rfl Tryz.underlying62 rfl rfl (hX _ _ rfl _)) rfl (Qx (AJ (hLn _ l0h).any rfl Tryz.underlying62 rfl) rfl (Qm rfl (Aq ?_))))))))))
  refine AF rfl (fun hlt => ?_) (fun hlt => ?_)
  ·have hmN : m < N := by omega
   have hmv : m < vs.length := by omega
   have hRm := (hLs m hmv).up l0h
   have hvl := AQ (na + e) (w m)
   have hRn : Rd hh [] vs[m] 1 (na + e) ((vec (na + e) (w m)).flatMap cI) := by have := hRm.rd; rwa [hvl] at this
   have hV1 : RdL cI 1 hh [] (Ch 1 vs[m] 0 na) (vec na (w m)) := by
    have := hRm.sub_ (i := 0) (j := na) (by omega) (by omega)
    rw [Nat.sub_zero, FU (by omega)] at this
    rwa [BA (f := fun i => w m (0 + i)) (g := w m) (fun i _ => by rw [Nat.zero_add])] at this
   have hV2 : RdL cI 1 hh [] (Ch 1 vs[m] na (na + e)) (vec e fun j => w m (na + j)) := by
    have := hRm.sub_ (i := na) (j := na + e) (by omega) (by omega)
    rwa [Nat.add_sub_cancel_left, FU (Nat.le_refl _)] at this
   have hbm : ∀ i, i < e → 0 ≤ w m (na + i) ∧ w m (na + i) < p := fun i hi => R.bd m hmN _ (by omega)
   have hl1 := AQ na (w m)
   refine Ai (Ab (Ac (Ag (Ax (Qf CQ rfl (Qx (AM rfl Tryz.underlying91 rfl rfl (hB2 _ _ rfl _)) rfl (Qm rfl (Qf C1 rfl (Qx (AM rfl Tryz.underlying62 rfl rfl (hX _ _ rfl _)) rfl (Qm rfl (Qx (Ah (m) (hLn _ l0h).any rfl Tryz.underlying62 BN rfl rfl (by omega) (by omega)) rfl (Qx (AM rfl Tryz.underlying24 rfl rfl ((hLv.up l0h).any.cell0 hmv rfl)) rfl (Qm rfl (Aq (AW (n := 17) (bs := [true, true, false, true, true, true, true, false, true, true, true, true, true, true, false, false, false]) [true, true, false, true, true, true, true, false, true, true, true, true, true, true] Cd (by kernel_rfl) (by kernel_rfl) rfl rfl (QF CQ rfl (Qp rfl (AM rfl Tryz.underlying91 rfl rfl (hB5 _ _ rfl _)) (Qq rfl (QF D1 rfl (Qp rfl (AM rfl Tryz.underlying3 rfl rfl (hB20 _)) (Qp rfl (EA (na) hRn.any rfl Tryz.underlying24 A8 rfl rfl (by omega) (by omega)) (QF Ca rfl (Qp rfl (Du rfl Tryz.underlying42 rfl AI rfl rfl (KW (hS3.le lh))) (Qq rfl (QF D1 rfl (Qp rfl (AM rfl Tryz.underlying3 rfl rfl (hB20 _)) (Qp rfl (C3 (na) hRn.any rfl Tryz.underlying24 A8 rfl rfl (by omega) (by omega)) ?_)))))))))))))))))))))))))))
   unfold CD
   simp only [List.cons_append, List.nil_append]
   refine Qo 2 rfl ?_
   refine AZ [] [] [] rfl Tryz.underlying24 A8 rfl (by omega) (by kernel_rfl) (by repeat (first | exact trivial | refine ⟨⟨by first | rfl | exact (hRn.any).cells | exact Rd.cells ‹_› | exact (RdL.rd ‹_›).cells, rfl, rfl⟩, ?_⟩)) rfl rfl rfl rfl (fun g53 => ?_)
   refine Qw (Qo 7 rfl ?_)
   refine Bm 0 (ID g53 Br) hV1.any rfl Tryz.underlying24 A8 rfl (by omega) rfl rfl rfl Cv (by (try simp only [List.length_nil]); omega) (by (try simp only [List.length_nil]); omega) rfl rfl rfl (fun v58 m58 hO58 => ?_)
   rw [List.nil_append] at hO58
   refine Qw (Qo 14 rfl (E4 rfl Tryz.call83 rfl (Jo p f e F (fun j => w m (na + j)) ev _ hh RA hbm (hA.up l0h) hV2) rfl rfl rfl (fun vi h4 ms4 l4 hF => ?_)))
   obtain ⟨l4', mi, rfl, hOi⟩ := hF
   refine AH hOi fun h5 l5 hRi => ?_
   have lh5 := Hp.le_trans l4 l5
   have hl2 := AQ f (D2 p e F fun j => w m (na + j))
   refine Qa (Qo 15 rfl ?_)
   refine Bm 0 hO58 hRi.any rfl Tryz.underlying24 A8 rfl (by omega) rfl rfl rfl Cv (by (try simp only [List.length_nil]); omega) (by (try simp only [List.length_nil]); omega) rfl rfl rfl (fun v66 m66 hO66 => ?_)
   rw [Hk] at hO66
   refine AH hO66 fun h6 l6 hR66 => ?_
   have lh6 := Hp.le_trans l4 (Hp.le_trans l5 l6)
   refine Qa (Qo 16 rfl ?_)
   refine Bs (pre := [AX g28 93 [.int .i64 p, lw]]) rfl Tryz.call82 rfl (KE p (na + f) n' g28 (Ej na (w m) (D2 p e F fun j => w m (na + j))) w' pl' lw v66 h6 hp (by omega) Rw (hLw.up lh6) (Cy (fun i hi => by rw [BW hi]; exact R.bd m hmN i (by omega)) fun i hi => by rw [BG]; exact ⟨Int.emod_nonneg _ (by omega), Int.emod_lt_of_pos _ (by omega)⟩) hR66) rfl rfl rfl rfl (fun x7 h7 ms7 l7 hF => ?_)
   obtain ⟨l7', n2, w2, pl2, lw2, rfl, hL2, hR2, hS2'⟩ := hF
   have lh7 := Hp.le_trans lh6 l7
   refine Qa (Qe (Aj (Ab (Ad (Qm rfl (Qx (oA rfl) rfl (Qm rfl (Ak ?_))))))))
   exact Al (N - (m + 1)) _ (by omega) ⟨m + 1, n2, w2, pl2, lw2, rfl, rfl, Hp.le_trans lh (Hp.le_trans lh6 l7), rfl, by omega, hL2, hR2, S.next hS2'⟩ Qs
  ·obtain rfl : m = N := by omega
   refine Aw (Aa (Aa (Af (Ab (Ax (Qx (Du rfl Tryz.underlying95 rfl Dv rfl rfl (Seg.any (hS5.le lh))) rfl ?_))))))
   refine Sa 1 [_, _] Dv rfl (by simp [Value.oneCell']) ?_
   refine Aq (Ao (Ae ?_))
   exact Cl (vs := [_, _]) 1 rfl rfl Tryz.underlying95 rfl Dv rfl rfl (⟨l0h, g28, n', w', pl', lw, rfl, rfl, hLw, Rw, S⟩)
end Go.Proofs.YtdnelknieikbaaaGreat
namespace Go.Proofs.YtdnelknieikbaaaGreat
open Go.Eng Go.RowKit Go.Lin
variable {p : Int} {e f d na N : Nat} {V F w : Nat → Nat → Int}
theorem Jl (e n : Nat) (A B C : Nat → Int) : Ej (e + n) (Ej e A B) C = Ej e A (Ej n B C) := funext fun i => by
 unfold Ej
 by_cases h1 : i < e
 ·rw [if_pos h1, if_pos h1, if_pos (by omega)]
 ·rw [if_neg h1, if_neg h1]
  by_cases h2 : i < e + n
  ·rw [if_pos h2, if_pos (by omega)]
  ·rw [if_neg h2, if_neg (by omega)]; congr 1; omega
theorem Sw {nb no no' am : Nat} {wb wo wo' : Nat → Nat → Int} {pb : Nat → Nat} {v out : Nat → Int} (L : Less p (e + f) wb pb am v nb out) (h0 : ∀ i, i < e → out i = 0) (h : ∀ y, Spn p no' ty f wo' y ↔ Exw (Spn p no ty f wo) (fun i => out (e + i)) y) (y : Nat → Int) : Bwr p e f nb wb no' wo' y ↔ Exw (Bwr p e f nb wb no wo) v y := by
 obtain ⟨z, hz, ho⟩ := L.mem
 rw [UU h (fun i hi => Cg.of_eq (h0 i hi))]
 exact (Exw.unit (u := 1) (t := 1) (U8 p e f nb wb no wo) (VS hz) ho (fun i _ => Cg.of_eq (Int.one_mul _).symm) (Cg.refl _ _) y).symm
theorem JR {k : Nat} {W W' : (Nat → Int) → Prop} (S : ∀ y, W y ↔ Spn p k ty d V y) (h : ∀ y, W' y ↔ Exw W (V k) y) (y : Nat → Int) : W' y ↔ Spn p (k + 1) ty d V y := by
 rw [h, KN]
 exact Exw.congr S _ y
theorem Ua {wb wo : Nat → Nat → Int} (y : Nat → Int) : Bwr p e f 0 wb 0 wo y ↔ Spn p 0 ty (e + f) V y := by
 constructor
 ·rintro ⟨z, ⟨c, hc⟩, c', hc'⟩
  refine ⟨fun _ => 0, Cy (fun i hi => ?_) fun i hi => ?_⟩
  ·have := hc' i (by omega)
   simp only [BW hi] at this
   exact (Cg.of_eq (by omega)).trans this
  ·have h1 := hc' (e + i) (by omega)
   simp only [BG] at h1
   exact (Cg.of_eq (by omega)).trans ((h1.add (hc i hi)).trans (Cg.of_eq (Int.add_zero _)))
 ·rintro ⟨c, hc⟩
  have So := CR p 0 f ty wo
  exact ⟨fun _ => 0, So.zero, fun _ => 0, fun i hi => (Cg.of_eq (by unfold Ej; simp)).trans (hc i hi)⟩
def Vs (h : Hp) (d n : Nat) (es : List Value) (V : Nat → Nat → Int) : Prop := es.length = n ∧ ∀ t (ht : t < es.length), RdL cI 1 h [] es[t] (vec d (V t))
theorem Vs.up {h h' : Hp} {n : Nat} {es : List Value} (I : Vs h d n es V) (l : h.le h') : Vs h' d n es V := ⟨I.1, fun t ht => (I.2 t ht).up l⟩
theorem Vs.snoc {h : Hp} {n : Nat} {es : List Value} {x : Value} (I : Vs h d n es V) (R : RdL cI 1 h [] x (vec d (V n))) : Vs h d (n + 1) (es ++ [x]) V := by
 refine ⟨by rw [List.length_append, I.1]; rfl, fun t ht => ?_⟩
 rw [List.getElem_append]
 split
 ·rename_i h1; exact I.2 t h1
 ·rename_i h1
  have h2 : t = n := by rw [List.length_append, List.length_singleton, I.1] at ht; have := I.1; omega
  subst h2
  simpa using R
def bV (p : Int) (na e N : Nat) (w : Nat → Nat → Int) (F : Nat → Nat → Int) (m : Nat) : Nat → Int := if m < N then Ej e (fun i => w m (na + i)) (Ej na (w m) fun _ => 0) else Ej e (fun i => (p - F i (m - N)) % p) (Ej na (fun _ => 0) fun i => if i = m - N then 1 else 0)
theorem Ri {m : Nat} (h : m < N) : bV p na e N w F m = Ej e (fun i => w m (na + i)) (Ej na (w m) fun _ => 0) := if_pos h
theorem SG {j : Nat} : bV p na e N w F (N + j) = Ej e (fun i => (p - F i j) % p) (Ej na (fun _ => 0) fun i => if i = j then 1 else 0) := by
 unfold bV
 rw [if_neg (by omega), Nat.add_sub_cancel_left]
theorem VH {m : Nat} {pl : Nat → Nat} (hp : 2 ≤ p) (R : Go.Lin.Rows p (na + e) N w pl) (hm : m < N + f) : ∀ i, i < e + (na + f) → 0 ≤ bV p na e N w F m i ∧ bV p na e N w F m i < p := by
 rcases (if h : m < N then .inl h else .inr ⟨m - N, by omega⟩ : m < N ∨ ∃ j, m = N + j) with h | ⟨j, rfl⟩
 ·rw [Ri h]
  exact Cy (fun i hi => by rw [BW hi]; exact R.bd m h _ (by omega)) (Cy (fun i hi => by rw [BG, BW hi]; exact R.bd m h _ (by omega)) fun i hi => by rw [BG, BG]; omega)
 ·rw [SG]
  exact Cy (fun i hi => by rw [BW hi]; exact ⟨Int.emod_nonneg _ (by omega), Int.emod_lt_of_pos _ (by omega)⟩) (Cy (fun i hi => by rw [BG, BW hi]; omega) fun i hi => by rw [BG, BG]; split <;> omega)
theorem PW {j : Nat} (hj : j < f) (hF : ∀ i, i < e → ∀ j, j < f → 0 ≤ F i j ∧ F i j < p) : ∀ i, i < e → D2 p f F (fun k => if k = j then 1 else 0) i = F i j := fun i hi => by
 unfold D2 ap
 rw [AE (g := fun k => if k = j then F i k else 0) fun k _ => by by_cases h : k = j <;> simp [h], DP f j (F i) hj]
 have := hF i hi j hj
 exact Int.emod_eq_of_lt this.1 this.2
def TR (p : Int) (x : Nat → Int) (i k : Nat) : Int := if k < i then (p - x k) % p else x k
theorem SE (p : Int) (x : Nat → Int) (i k : Nat) : (if k = i then (p - x i) % p else TR p x i k) = TR p x (i + 1) k := by
 unfold TR
 by_cases h : k = i
 ·subst h; rw [if_pos rfl, if_pos (by omega)]
 ·rw [if_neg h]
  by_cases h2 : k < i
  ·rw [if_pos h2, if_pos (by omega)]
  ·rw [if_neg h2, if_neg (by omega)]
theorem OA (p : Int) (na e f N gx : Nat) (w : Nat → Nat → Int) (pl : Nat → Nat) (F : Nat → Nat → Int) (lv ev : Value) (h : Hp) (hp : IsP p) (hna : na ≤ 200) (he : e ≤ 200) (hf : f ≤ 200) (R : Go.Lin.Rows p (na + e) N w pl) (hG : Seg h [] ⟨gx, 0, none⟩ [.int .i64 p, lv]) (hL : RdV h lv N (na + e) w) (RA : RtM p e f F) (hA : RdL cI 1 h [] ev (mat e f F)) :
  FnT Tryz.prog 49 #[.agg #[.int .i64 na, .pointer (some ⟨gx, 0, none⟩)], .agg #[.bool true, .int .i64 p, .int .i64 e, .int .i64 f, ev]] h [] (fun r h' ms' => h.le h' ∧ ∃ (g' n' nb : Nat) (w' wb : Nat → Nat → Int) (pl' pb : Nat → Nat) (lv' : Value), r = .agg #[.int .i64 na, .pointer (some ⟨g', 0, none⟩)] ∧ ms' = [AX g' 93 [.int .i64 p, lv']] ∧ RdV h' lv' n' (na + f) w' ∧ Go.Lin.Rows p (na + f) n' w' pl' ∧ Go.Lin.Rows p (e + (na + f)) nb wb pb ∧ (∀ l, l < nb → pb l < e) ∧ ∀ y, Bwr p e (na + f) nb wb n' w' y ↔ Spn p (N + f) ty (e + (na + f)) (bV p na e N w F) y) := by
 have hp1 := hp.1
 have hp2 := hp.2.1
 have hnd := E3 R
 have o1 := hA.rd.one
 obtain ⟨vs, hvs, hLv, hLs⟩ := hL
 have hLn : ∀ h', h.le h' → Rd h' [] lv 1 N (vs.flatMap cV) := fun h' l => by have := (hLv.up l).rd; rwa [hvs] at this
 refine Av Tryz.func49 Tryz.ntmps49 rfl rfl (fun w0 hw0 => ?_)
 simp only [A4]
 refine Ax ?_
 refine AS [_, _] rfl rfl (by rfl) rfl rfl rfl (fun g2 => ?_)
 refine AS [_, _, _, _, _] rfl rfl (by rfl) rfl rfl rfl (fun g3 => ?_)
 refine BZ [.int .i64 0, .pointer none] rfl Dv rfl rfl (fun g4 => Aq (By 1 rfl fun h1 l1 hS3 => (By 1 rfl fun h2 l2 hS2 => ?_)))
 have l02 := Hp.le_trans l1 l2
 have hS3 := hS3.le l2
 have hB2 := Seg.all hS2
 have hB20 := hB2 0 _ rfl
 have hX := Seg.all (hG.le l02)
 have hX0 := hX 0 _ rfl
 refine Bv (fun sl hh ms' => ∃ g5 g28 : Nat, sl = [(2, .pointer (some ⟨g2, 0, none⟩)), (3, .pointer (some ⟨g3, 0, none⟩)), (4, .pointer (some ⟨g4, 0, none⟩)), (5, .pointer (some ⟨g5, 0, none⟩))] ∧ h2 = hh ∧ ms' = [AX g5 95 [.int .i64 na, .pointer (some ⟨g28, 0, none⟩)], AX g28 93 [.int .i64 p, .slice none 0 0], AX g4 95 [.int .i64 0, .pointer none]]) ?_ (fun s h ms hI => ?_)
 ·refine AW (n := 12) (bs := [true, true, true, true, true, true, true, true, false, false, false, false]) [true, true, true, true, true, true, true, true] Cd (by kernel_rfl) (by kernel_rfl) rfl rfl (QF D1 rfl (Qp rfl (AM rfl Tryz.underlying3 rfl rfl (hB20 _)) (QF CQ rfl (Qp rfl (AM rfl Tryz.underlying91 rfl rfl (hB2 _ _ rfl _)) (Qq rfl (QF Eo rfl (Qp rfl (AM rfl Tryz.underlying3 rfl rfl (hX0 _)) ?_)))))))
  refine Qp rfl (AT PK [.int .i64 0, .slice none 0 0] [(0, _)] [_, _] rfl RD rfl rfl (by repeat (first | exact trivial | refine ⟨⟨rfl, rfl, rfl⟩, ?_⟩)) rfl) ?_
  unfold CD
  simp only [List.cons_append, List.nil_append]
  refine A2 [8, 10] (by kernel_rfl) rfl ?_
  refine Az rfl ?_ ?_
  ·refine AS [_, _] rfl rfl (by rfl) rfl rfl rfl (fun g28 => ?_)
   refine Qw ?_
   refine An 9 29 (by kernel_rfl) rfl (Hp.le_refl _) rfl (AT Oi [.int .i64 0, .pointer none] [(0, _), (1, _)] [_, _] rfl Dv rfl rfl (by repeat (first | exact trivial | refine ⟨⟨rfl, rfl, rfl⟩, ?_⟩)) rfl) ?_
   refine Qo 10 rfl (BZ [.int .i64 0, .pointer none] rfl Dv rfl rfl (fun g5 => Qw (Qo 11 rfl ?_)))
   refine Sa 0 [_, _] Dv rfl (by simp [Value.oneCell']) ?_
   refine Qw (Qe ?_)
   exact AA _ ⟨_, _, rfl, rfl, rfl⟩ Qs
  refine Az rfl ?_ ?_
  ·refine BZ [.int .i64 0, .pointer none] rfl Dv rfl rfl (fun g5 => Qw (Qo 8 rfl ?_))
   refine AS [_, _] rfl rfl (by rfl) rfl rfl rfl (fun g28 => ?_)
   refine Qw ?_
   refine An 9 29 (by kernel_rfl) rfl (Hp.le_refl _) rfl (AT Oi [.int .i64 0, .pointer none] [(0, _), (1, _)] [_, _] rfl Dv rfl rfl (by repeat (first | exact trivial | refine ⟨⟨rfl, rfl, rfl⟩, ?_⟩)) rfl) ?_
   refine Qo 11 rfl ?_
   refine Sa 1 [_, _] Dv rfl (by simp [Value.oneCell']) ?_
   refine Qw (Qe ?_)
   exact A9 (AA _ ⟨_, _, rfl, rfl, rfl⟩ Qs)
  exact A3
 ·obtain ⟨g5, g28, rfl, rfl, rfl⟩ := hI
  refine AL fun h3 l3 hS5 => ?_
  have l03 := Hp.le_trans l02 l3
  have hS3 := hS3.le l3
  have hS2 := hS2.le l3
  have hB3 := Seg.all hS3
  have hB30 := hB3 0 _ rfl
  have hB2 := Seg.all hS2
  have hB20 := hB2 0 _ rfl
  have hX := Seg.all (hG.le l03)
  have hX0 := hX 0 _ rfl
  refine Ac (Ax (Qf EK rfl (Qx (AM rfl Tryz.underlying4 rfl rfl (hB30 _)) rfl (Qm rfl (Aq (Bb rfl (Ai (Ab (Ax (Qf CQ rfl (Qx (AM rfl Tryz.underlying91 rfl rfl (hB2 _ _ rfl _)) rfl (Qm rfl (Qf Eo rfl (Qx (AM rfl Tryz.underlying3 rfl rfl (hX0 _)) rfl ?_))))))))))))))
  refine Qx (AT PK [.int .i64 0, .slice none 0 0] [(0, _)] [_, _] rfl RD rfl rfl (by repeat (first | exact trivial | refine ⟨⟨rfl, rfl, rfl⟩, ?_⟩)) rfl) rfl ?_
  refine AS [_, _] rfl rfl (by rfl) rfl rfl rfl (fun g75 => ?_)
  refine Qm rfl (B3 (Qm rfl (Aq (Ac (Ax (Qm rfl (Aq (Ag (BX ?_)))))))))
  refine AD (fun q sl hh ms' => ∃ (m : Nat) (es : List Value) (v9 : Value) (m9 : Hp), q = N - m ∧ sl = [(2, .pointer (some ⟨g2, 0, none⟩)), (3, .pointer (some ⟨g3, 0, none⟩)), (4, .pointer (some ⟨g4, 0, none⟩)), (5, .pointer (some ⟨g5, 0, none⟩)), (8, .pointer (some ⟨g75, 0, none⟩)), (9, v9), (10, .int .i64 m)] ∧ h3.le hh ∧ ms' = [m9, AX g75 93 [.int .i64 p, .slice none 0 0], AX g28 93 [.int .i64 p, .slice none 0 0], AX g4 95 [.int .i64 0, .pointer none]] ∧ m ≤ N ∧ OwnL cV 1 24 m9 v9 es ∧ Vs hh (e + (na + f)) m es (bV p na e N w F))
   (N - 0) _ ⟨0, [], _, _, rfl, rfl, Hp.le_refl _, rfl, by omega, OwnL.nil BK, rfl, fun t ht => by simp at ht⟩ Qs ?_
  rintro q sl hh ms' ⟨m, es, v9, m9, rfl, rfl, lh, rfl, hm, hO9, hV⟩
  have l0h := Hp.le_trans l03 lh
  have hB3 := Seg.all (hS3.le lh)
  have hB30 := hB3 0 _ rfl
  have hB2 := Seg.all (hS2.le lh)
  have hB20 := hB2 0 _ rfl
  have hX := Seg.all (hG.le l0h)
  have hX0 := hX 0 _ rfl
  refine Ac (Ax (Qm rfl (Qf CQ rfl (Qx (AM rfl Tryz.underlying91 rfl rfl (hB2 _ _ rfl _)) rfl (Qm rfl (Qf C1 rfl (Qx (AM rfl Tryz.underlying62 rfl rfl (hX _ _ rfl _)) rfl (Qx (AJ (hLn _ l0h).any rfl Tryz.underlying62 rfl) rfl (Qm rfl (Aq ?_))))))))))
  refine AF rfl (fun hlt => ?_) (fun hlt => ?_)
  ·have hmN : m < N := by omega
   have hmv : m < vs.length := by omega
   have hRm := (hLs m hmv).up l0h
   have hvl := AQ (na + e) (w m)
   have hRn : Rd hh [] vs[m] 1 (na + e) ((vec (na + e) (w m)).flatMap cI) := by have := hRm.rd; rwa [hvl] at this
   have hV1 : RdL cI 1 hh [] (Ch 1 vs[m] 0 na) (vec na (w m)) := by
    have := hRm.sub_ (i := 0) (j := na) (by omega) (by omega)
    rw [Nat.sub_zero, FU (by omega)] at this
    rwa [BA (f := fun i => w m (0 + i)) (g := w m) (fun i _ => by rw [Nat.zero_add])] at this
   have hV2 : RdL cI 1 hh [] (Ch 1 vs[m] na (na + e)) (vec e fun j => w m (na + j)) := by
    have := hRm.sub_ (i := na) (j := na + e) (by omega) (by omega)
    rwa [Nat.add_sub_cancel_left, FU (Nat.le_refl _)] at this
   have hl1 := AQ na (w m)
   have hl2 := AQ e fun j => w m (na + j)
   have hesl := hV.1
   refine Ai (Ab (Ac (Ag (Ac (AW (n := 14) (bs := [false, true, true, true, true, true, true, true, true, true, true, true, false, false]) [false, true, true, true, true, true, true, true, true, true, true, true] Cd (by kernel_rfl) (by kernel_rfl) rfl rfl (QF CQ rfl (Qp rfl (AM rfl Tryz.underlying91 rfl rfl (hB2 _ _ rfl _)) (Qq rfl (QF C1 rfl (Qp rfl (AM rfl Tryz.underlying62 rfl rfl (hX _ _ rfl _)) (Qq rfl (Qp rfl (Ah (m) (hLn _ l0h).any rfl Tryz.underlying62 BN rfl rfl (by omega) (by omega)) (Qp rfl (AM rfl Tryz.underlying24 rfl rfl ((hLv.up l0h).any.cell0 hmv rfl)) (QF D1 rfl (Qp rfl (AM rfl Tryz.underlying3 rfl rfl (hB20 _)) (Qp rfl (C3 (na) hRn.any rfl Tryz.underlying24 A8 rfl rfl (by omega) (by omega)) ?_))))))))))))))))
   unfold CD
   simp only [List.cons_append, List.nil_append]
   refine Qo 0 rfl ?_
   refine AZ [] [] [] rfl Tryz.underlying24 A8 rfl (by omega) (by kernel_rfl) (by repeat (first | exact trivial | refine ⟨⟨by first | rfl | exact ((hLn _ l0h).any).cells | exact (hRn.any).cells | exact Rd.cells ‹_› | exact (RdL.rd ‹_›).cells, rfl, rfl⟩, ?_⟩)) rfl rfl rfl rfl (fun g86 => ?_)
   refine Qw (Qo 12 rfl ?_)
   refine Bm 0 (ID g86 Br) hV2.any rfl Tryz.underlying24 A8 rfl (by omega) rfl rfl rfl Cv (by (try simp only [List.length_nil, List.length_singleton]); omega) (by (try simp only [List.length_nil, List.length_singleton]); omega) rfl rfl rfl (fun v98 m98 hO98 => ?_)
   rw [List.nil_append] at hO98
   refine Qw (Qo 13 rfl (Qm rfl (Qw (Qe (Ab (Ac (AW (n := 14) (bs := [true, true, true, true, true, true, true, true, true, true, true, true, false, false]) [true, true, true, true, true, true, true, true, true, true, true, true] Cd (by kernel_rfl) (by kernel_rfl) rfl rfl (Qq rfl (QF CQ rfl (Qp rfl (AM rfl Tryz.underlying91 rfl rfl (hB2 _ _ rfl _)) (Qq rfl (QF C1 rfl (Qp rfl (AM rfl Tryz.underlying62 rfl rfl (hX _ _ rfl _)) (Qq rfl (Qp rfl (Ah (m) (hLn _ l0h).any rfl Tryz.underlying62 BN rfl rfl (by omega) (by omega)) (Qp rfl (AM rfl Tryz.underlying24 rfl rfl ((hLv.up l0h).any.cell0 hmv rfl)) (QF D1 rfl (Qp rfl (AM rfl Tryz.underlying3 rfl rfl (hB20 _)) (Qp rfl (EA (na) hRn.any rfl Tryz.underlying24 A8 rfl rfl (by omega) (by omega)) ?_)))))))))))))))))))
   unfold CD
   simp only [List.cons_append, List.nil_append]
   refine Qo 12 rfl ?_
   refine Bm 0 hO98 hV1.any rfl Tryz.underlying24 A8 rfl (by omega) rfl rfl rfl Cv (by (try simp only [List.length_nil, List.length_singleton]); omega) (by (try simp only [List.length_nil, List.length_singleton]); omega) rfl rfl rfl (fun v111 m111 hO111 => ?_)
   rw [Hk] at hO111
   refine Qw (Qo 13 rfl (Qm rfl (Qw (Qe ?_))))
   have hl3 := AQ (e + na) (Ej e (fun j => w m (na + j)) (w m))
   refine Ab (Ad (Qm rfl (Qm rfl (Qf Ca rfl (Qf A0 rfl ?_)))))
   refine Qx (AM rfl Tryz.underlying3 rfl rfl (by (rw [A6]; exact hB3 _ _ rfl _))) rfl ?_
   refine I7 0 hO111 rfl Tryz.underlying24 Tryz.underlying3 A8 rfl rfl rfl (by omega) (by omega) rfl rfl rfl (fun v117 m117 hO117 => ?_)
   rw [G5, Hk, Jl, Nat.add_assoc, ← Ri (p := p) (F := F) hmN] at hO117
   have o117 : v117.oneCell' = true := (hO117.rd (h := h) (ms := [m117]) (List.Mem.head _)).rd.one
   refine AB [_] rfl Tryz.underlying62 BN rfl (((hO117.rd (h := h) (ms := [m117]) (List.Mem.head _)).rd).cells) rfl rfl (by omega) rfl rfl rfl (fun g118 => ?_)
   refine Ba 2 hO9 (RdL.one BK (x := v117) (List.Mem.head _) rfl) rfl Tryz.underlying62 BN rfl (by omega) rfl rfl rfl (Cj o117) (by (try simp only [List.length_nil, List.length_singleton]); omega) (by (try simp only [List.length_nil, List.length_singleton]); omega) rfl rfl rfl (fun v9b m9b hO9b => ?_)
   refine Qm rfl (Ak (Aj (Ab (Ad (Qm rfl (Qx (oA rfl) rfl (Qm rfl (Ak (A5 (CW hO117 fun h5 l5 hR5 => ?_))))))))))
   exact Al (N - (m + 1)) _ (by omega) ⟨m + 1, _, v9b, m9b, rfl, rfl, Hp.le_trans lh l5, rfl, by omega, hO9b, (hV.up l5).snoc hR5⟩ Qs
  ·obtain rfl : m = N := by omega
   refine Aw (Aa (Aa (Af (Ab (Ac (Ax (Qm rfl (Aq (Ag ?_)))))))))
   refine AD (fun q sl hk ms' => ∃ (j : Nat) (es : List Value) (v9 : Value) (m9 : Hp), q = f - j ∧ sl = [(2, .pointer (some ⟨g2, 0, none⟩)), (3, .pointer (some ⟨g3, 0, none⟩)), (4, .pointer (some ⟨g4, 0, none⟩)), (5, .pointer (some ⟨g5, 0, none⟩)), (8, .pointer (some ⟨g75, 0, none⟩)), (9, v9), (12, .int .i64 j)] ∧ hh.le hk ∧ ms' = [m9, AX g75 93 [.int .i64 p, .slice none 0 0], AX g28 93 [.int .i64 p, .slice none 0 0], AX g4 95 [.int .i64 0, .pointer none]] ∧ j ≤ f ∧ OwnL cV 1 24 m9 v9 es ∧ Vs hk (e + (na + f)) (m + j) es (bV p na e m w F))
    (f - 0) _ ⟨0, es, v9, m9, rfl, rfl, Hp.le_refl _, rfl, by omega, hO9, hV⟩ Qs ?_
   rintro q sl hk ms' ⟨j, es, v9, m9, rfl, rfl, lk, rfl, hj, hO9, hV⟩
   have l3k := Hp.le_trans lh lk
   have l0k := Hp.le_trans l0h lk
   have hB3 := Seg.all (hS3.le l3k)
   have hB30 := hB3 0 _ rfl
   have hB2 := Seg.all (hS2.le l3k)
   have hB20 := hB2 0 _ rfl
   have hX := Seg.all (hG.le l0k)
   have hX0 := hX 0 _ rfl
   refine Ac (Ax (Qm rfl (Qf Ca rfl (Qf A0 rfl ?_))))
   refine Qx (AM rfl Tryz.underlying3 rfl rfl (by (rw [A6]; exact hB3 _ _ rfl _))) rfl ?_
   refine Qm rfl (Aq ?_)
   refine AF rfl (fun hltj => ?_) (fun hltj => ?_)
   ·have hjf : j < f := by omega
    have hesl := hV.1
    refine Ai (Ab (Ac (Ag (Ax (Qf Ca rfl (Qf A0 rfl ?_))))))
    refine Qx (AM rfl Tryz.underlying3 rfl rfl (by (rw [A6]; exact hB3 _ _ rfl _))) rfl ?_
    refine Eu (n := f) rfl Tryz.underlying24 A8 rfl rfl rfl (by rfl) (by rfl) (by omega) (by omega) rfl rfl rfl (fun g130 => ?_)
    refine Qm rfl (Aq ?_)
    have hO13 := OwnL.rep (g := g130) (el := 3) f 0 (by omega)
    rw [G5] at hO13
    refine Ax (Qm rfl (Qm rfl (Qx (Dz _ rfl Tryz.underlying24 A8 rfl rfl rfl (by omega)) rfl ?_)))
    refine Bu 0 j hO13 rfl A8 rfl rfl rfl (by rw [AQ]; exact hjf) rfl rfl (fun m13 hO13' => ?_)
    rw [D6] at hO13'
    refine Aq (Bg hO13' fun h5 l5 hR13 => ?_)
    have l05 := Hp.le_trans l0k l5
    have hl13 := AQ f fun k => if k = j then (1 : Int) else 0
    refine Ax (Qf Ca rfl (Qx (Du rfl Tryz.underlying42 rfl AI rfl rfl (KW (hS3.le (Hp.le_trans l3k l5)))) rfl (Qm rfl ?_)))
    refine E4 rfl Tryz.call83 rfl (Jo p e f F (fun k => if k = j then 1 else 0) ev _ h5 RA (fun k _ => by split <;> omega) (hA.up l05) hR13) rfl rfl rfl (fun vi h6 ms6 l6 hF => ?_)
    obtain ⟨l6', mi, rfl, hOi⟩ := hF
    rw [BA (PW hjf RA.en)] at hOi
    have l36 := Hp.le_trans l3k (Hp.le_trans l5 l6)
    have l06 := Hp.le_trans l05 l6
    have hB3 := Seg.all (hS3.le l36)
    have hB2 := Seg.all (hS2.le l36)
    have hB20 := hB2 0 _ rfl
    have hX := Seg.all (hG.le l06)
    have hX0 := hX 0 _ rfl
    have hR13 := hR13.up l6
    refine Qm rfl (Aq (Ac (Ax (Qm rfl (Aq (Ag ?_))))))
    refine AD (fun q sl h7 ms' => ∃ (i : Nat) (mi : Hp), q = e - i ∧ sl = [(2, .pointer (some ⟨g2, 0, none⟩)), (3, .pointer (some ⟨g3, 0, none⟩)), (4, .pointer (some ⟨g4, 0, none⟩)), (5, .pointer (some ⟨g5, 0, none⟩)), (8, .pointer (some ⟨g75, 0, none⟩)), (9, v9), (12, .int .i64 j), (13, .slice (some ⟨g130, 0, none⟩) f f), (14, vi), (15, .int .i64 i)] ∧ h6 = h7 ∧ ms' = [mi, m9, AX g75 93 [.int .i64 p, .slice none 0 0], AX g28 93 [.int .i64 p, .slice none 0 0], AX g4 95 [.int .i64 0, .pointer none]] ∧ i ≤ e ∧ OwnL cI 1 3 mi vi (vec e (TR p (fun i => F i j) i)))
     (e - 0) _ ⟨0, mi, rfl, rfl, rfl, rfl, by omega, by rw [BA (f := TR p (fun i => F i j) 0) (g := fun i => F i j) (fun k _ => if_neg (by omega))]; exact hOi⟩ Qs ?_
    rintro q sl h7 ms' ⟨i, mi, rfl, rfl, rfl, rfl, hi, hOi⟩
    have hli := AQ e (TR p (fun i => F i j) i)
    have hRi : Rd h6 [mi] vi 1 e ((vec e (TR p (fun i => F i j) i)).flatMap cI) := by have := (hOi.rd (h := h6) (ms := [mi]) (List.Mem.head _)).rd; rwa [hli] at this
    refine Ac (Ax (Qm rfl (Qm rfl (Qx (CH hRi rfl Tryz.underlying24 rfl) rfl (Qm rfl (Aq ?_))))))
    refine AF rfl (fun hlti => ?_) (fun hlti => ?_)
    ·have hie : i < e := by omega
     have hFb := RA.en i hie j hjf
     have hci : ∀ ms, mi ∈ ms → Cell h6 ms ((Bl vi).add (i * 1)) (.int .i64 (F i j)) := fun ms hm => by
      have := (hOi.rd (h := h6) hm).ev hie
      rwa [show TR p (fun i => F i j) i i = F i j from if_neg (by omega)] at this
     refine Ai (Ab (Ac (Ag (AW (n := 20) (bs := [true, true, true, true, true, true, true, true, true, true, false, false, true, true, true, true, true, false, true, false]) [true, true, true, true, true, true, true, true, true, true, false, false, true, true, true, true, true, false, true] Cd (by kernel_rfl) (by kernel_rfl) rfl rfl (Qq rfl (Qq rfl (QF CQ rfl (Qp rfl (AM rfl Tryz.underlying91 rfl rfl (hB2 _ _ rfl _)) (Qq rfl (QF Eo rfl (Qp rfl (AM rfl Tryz.underlying3 rfl rfl (hX0 _)) (Qq rfl (Qq rfl (Qp rfl (Bo (i) hRi rfl Tryz.underlying24 A8 rfl rfl (by omega) (by omega)) (QF CQ rfl (Qp rfl (AM rfl Tryz.underlying91 rfl rfl (hB2 _ _ rfl _)) (Qq rfl (QF Eo rfl (Qp rfl (AM rfl Tryz.underlying3 rfl rfl (hX0 _)) (Qp rfl (Bo (i) hRi rfl Tryz.underlying24 A8 rfl rfl (by omega) (by omega)) ?_))))))))))))))))))))
     unfold CD
     simp only [List.cons_append, List.nil_append]
     refine Qo 10 rfl (Qx (AM rfl Tryz.underlying3 rfl rfl (hci _ (List.Mem.head _))) rfl (Qw (An 11 155 (by kernel_rfl) rfl (Hp.le_refl _) rfl (oS rfl) (An 17 161 (by kernel_rfl) rfl (Hp.le_refl _) rfl (B0 rfl rfl rfl (by omega) (by omega)) (Qo 19 rfl (Bu 0 i hOi rfl A8 rfl rfl rfl (by omega) rfl rfl (fun m' hO' => Qw (Qe (Aj (Ab (Ad (Qm rfl (Qx (oA rfl) rfl (Qm rfl (Ak ?_)))))))))))))))
     refine Al (e - (i + 1)) _ (by omega) ⟨i + 1, m', rfl, rfl, rfl, rfl, by omega, ?_⟩ Qs
     rw [D6, BA (fun k _ => SE p (fun i => F i j) i k)] at hO'
     exact hO'
    ·obtain rfl : i = e := by omega
     rw [BA (f := TR p (fun i => F i j) i) (g := fun k => (p - F k j) % p) (fun k hk => if_pos hk)] at hOi
     have hl4 := AQ i fun k => (p - F k j) % p
     refine Aw (Aa (Aa (Af (Ab (Ax (Qm rfl (Qf D1 rfl (Qx (AM rfl Tryz.underlying3 rfl rfl (hB20 _)) rfl (I7 0 hOi rfl Tryz.underlying24 Tryz.underlying3 A8 rfl rfl rfl (by omega) (by omega) rfl rfl rfl (fun v16 m16 hO16 => ?_))))))))))
     rw [G5, Hk] at hO16
     have hl5 := AQ (i + na) (Ej i (fun k => (p - F k j) % p) fun _ => 0)
     refine Qm rfl (IA (Qm rfl (Qm rfl (Qm rfl ?_))))
     refine Bm 0 hO16 hR13.any rfl Tryz.underlying24 A8 rfl (by omega) rfl rfl rfl Cv (by (try simp only [List.length_nil, List.length_singleton]); omega) (by (try simp only [List.length_nil, List.length_singleton]); omega) rfl rfl rfl (fun v17 m17 hO17 => ?_)
     rw [Hk, Jl, Nat.add_assoc, ← SG (p := p) (N := m) (w := w)] at hO17
     have o17 : v17.oneCell' = true := (hO17.rd (h := h) (ms := [m17]) (List.Mem.head _)).rd.one
     refine AB [_] rfl Tryz.underlying62 BN rfl (((hO17.rd (h := h6) (ms := [m17]) (List.Mem.head _)).rd).cells) rfl rfl (by omega) rfl rfl rfl (fun g171 => ?_)
     refine Ba 2 hO9 (RdL.one BK (x := v17) (List.Mem.head _) rfl) rfl Tryz.underlying62 BN rfl (by omega) rfl rfl rfl (Cj o17) (by (try simp only [List.length_nil, List.length_singleton]); omega) (by (try simp only [List.length_nil, List.length_singleton]); omega) rfl rfl rfl (fun v9b m9b hO9b => ?_)
     refine Qm rfl (Ak (Aj (Ab (Ad (Qm rfl (Qx (oA rfl) rfl (Qm rfl (Ak (A5 (CW hO17 fun h8 l8 hR8 => ?_))))))))))
     exact Al (f - (j + 1)) _ (by omega) ⟨j + 1, _, v9b, m9b, rfl, rfl, Hp.le_trans lk (Hp.le_trans l5 (Hp.le_trans l6 l8)), rfl, by omega, hO9b, (hV.up (Hp.le_trans l5 (Hp.le_trans l6 l8))).snoc hR8⟩ Qs
   ·obtain rfl : j = f := by omega
    refine Aw (Aa (Aa (Af (Ab (Ac (Ax (Qm rfl (Aq (Ag (Bg hO9 fun h5 l5 hR9 => ?_))))))))))
    have l35 := Hp.le_trans l3k l5
    have hV5 := hV.up l5
    refine AD (fun q sl hh2 ms' => ∃ (k nb n' : Nat) (wb w' : Nat → Nat → Int) (pb pl' : Nat → Nat) (lb lw : Value), q = m + j - k ∧ sl = [(2, .pointer (some ⟨g2, 0, none⟩)), (3, .pointer (some ⟨g3, 0, none⟩)), (4, .pointer (some ⟨g4, 0, none⟩)), (5, .pointer (some ⟨g5, 0, none⟩)), (8, .pointer (some ⟨g75, 0, none⟩)), (9, v9), (17, .int .i64 k)] ∧ h5.le hh2 ∧ ms' = [AX g75 93 [.int .i64 p, lb], AX g28 93 [.int .i64 p, lw], AX g4 95 [.int .i64 0, .pointer none]] ∧ k ≤ m + j ∧ RdV hh2 lb nb (e + (na + j)) wb ∧ Go.Lin.Rows p (e + (na + j)) nb wb pb ∧ (∀ l, l < nb → pb l < e) ∧ RdV hh2 lw n' (na + j) w' ∧ Go.Lin.Rows p (na + j) n' w' pl' ∧ ∀ y, Bwr p e (na + j) nb wb n' w' y ↔ Spn p k ty (e + (na + j)) (bV p na e m w F) y)
     (m + j - 0) _ ⟨0, 0, 0, fun _ _ => 0, fun _ _ => 0, fun _ => 0, fun _ => 0, _, _, rfl, rfl, Hp.le_refl _, rfl, by omega, GV, FO, fun l hl => by omega, GV, FO, Ua⟩ Qs ?_
    rintro q sl hh2 ms' ⟨k, nb, n', wb, w', pb, pl', lb, lw, rfl, rfl, lq, rfl, hk, hLb, Rb, hpb, hLw, Rw, S⟩
    have hV := hV5.up lq
    have hes := hV.1
    have hR9 := hR9.up lq
    have hRn9 : ∀ h', hh2.le h' → Rd h' [] v9 1 (m + j) (es.flatMap cV) := fun h' l => by have := (hR9.up l).rd; rwa [hes] at this
    have hB3 := Seg.all (hS3.le (Hp.le_trans l35 lq))
    have hB5 := Seg.all (hS5.le (Hp.le_trans l35 lq))
    have hnb := E3 Rb
    refine Ac (Ax (Qm rfl (Qm rfl (Qx (AJ (hRn9 _ (Hp.le_refl _)).any rfl Tryz.underlying62 rfl) rfl (Qm rfl (Aq ?_))))))
    refine AF rfl (fun hltk => ?_) (fun hltk => ?_)
    ·have hkN : k < m + j := by omega
     have hkv : k < es.length := by omega
     have hRk := hV.2 k hkv
     have hbk := VH (e := e) (f := j) (F := F) hp1 R hkN
     refine Ai (Ab (Ac (Ag (CV fun h6 l6 lG dG LG => ?_))))
     have hG75 : Seg h6 [] ⟨g75, 0, none⟩ [.int .i64 p, lb] := Seg.ofLe lG
     have hB36 := Seg.all (hS3.le (Hp.le_trans (Hp.le_trans l35 lq) l6))
     refine Ac (AW (n := 10) (bs := [true, true, true, true, true, true, true, true, false, false]) [true, true, true, true, true, true, true, true] Cd (by kernel_rfl) (by kernel_rfl) rfl rfl (Qq rfl (Qq rfl (Qq rfl (Qp rfl (Ah (k) (hRn9 _ l6).any rfl Tryz.underlying62 BN rfl rfl (by omega) (by omega)) (Qp rfl (AM rfl Tryz.underlying24 rfl rfl ((hR9.up l6).any.cell0 hkv rfl)) (QF Ca rfl (QF Bh rfl ?_))))))))
     refine Qp rfl (AM rfl Tryz.underlying3 rfl rfl (by (rw [A6]; exact hB36 _ _ rfl _))) ?_
     unfold CD
     simp only [List.cons_append, List.nil_append]
     refine Qo 8 rfl (E4 rfl Tryz.call84 rfl (Od p (e + (na + j)) nb g75 e (bV p na e m w F k) wb pb lb _ h6 hp (by omega) Rb hG75 (hLb.up l6) hbk (hRk.up l6) (by omega)) rfl rfl rfl (fun v18 h7 ms7 l7 hF => ?_))
     obtain ⟨rfl, m18, out, rfl, hO18, hLe⟩ := hF
     refine Qw (Qo 9 rfl (Qm rfl (Qw (Qe (E1 LG lG fun h7 l7 b7 => ?_)))))
     have h27 : hh2.le h7 := b7 hh2 l6 dG
     refine A9 (CW hO18 fun h8 l8 hR18 => ?_)
     have l28 := Hp.le_trans h27 l8
     have hob := hLe.bd
     obtain ⟨s1, s2, s3⟩ := Ip out (e + (na + j))
     have hB38 := Seg.all (hS3.le (Hp.le_trans (Hp.le_trans l35 lq) l28))
     have hB58 := Seg.all (hS5.le (Hp.le_trans (Hp.le_trans l35 lq) l28))
     have hlo := AQ (e + (na + j)) out
     have hRn18 : Rd h8 [] v18 1 (e + (na + j)) ((vec (e + (na + j)) out).flatMap cI) := by have := hR18.rd; rwa [hlo] at this
     refine Ab (Ax (Qm rfl (Qx (AG rfl Tryz.call80 rfl (FW _ _ h8 hR18 _)) rfl (Qm rfl (B3 (Qm rfl (Qm rfl (Qm rfl ?_))))))))
     by_cases hz : fs (e + (na + j)) out < e
     ·have hzD : fs (e + (na + j)) out < e + (na + j) := by omega
      have hne := s3 hzD
      rw [Fg hzD hne s2]
      refine AR (t := 192) rfl (fun hs => ?_) (fun hs => absurd ((by omega)) hs)
      refine Qg (As rfl rfl) rfl (Qg (oF Ca rfl) rfl (Qg (oF Bh rfl) rfl ?_))
      refine Qg (AM rfl Tryz.underlying3 rfl rfl (by (rw [A6]; exact hB38 _ _ rfl _))) rfl ?_
      refine Qg (Dy rfl rfl rfl) rfl (Qm rfl (Aq ?_))
      refine AF rfl (fun hc => ?_) (fun hc => absurd ((by omega)) hc)
      refine Ad (Qm rfl (Qm rfl ?_))
      refine Bs (pre := [AX g75 93 [.int .i64 p, lb]]) rfl Tryz.call48 rfl (J1 p (e + (na + j)) nb g75 (fs (e + (na + j)) out) out wb pb lb v18 h8 hp (by omega) Rb (hLb.up l28) hob hR18 hzD hne s2 (fun l hl he => hne (by rw [← he]; exact hLe.zero l hl (hpb l hl)))) rfl rfl rfl rfl (fun x9 h9 ms9 l9 hF => ?_)
      obtain ⟨l9', q, lb', rfl, hq, hLb', Rb'⟩ := hF
      have h1 := hob _ hzD
      have hcg := Q1 hp (show 1 ≤ out (fs (e + (na + j)) out) by omega) h1.2
      have l29 := Hp.le_trans l28 l9
      refine Ak (Aj (Ab (Ad (Qm rfl (Qx (oA rfl) rfl (Qm rfl (Ak ?_)))))))
      refine Al (m + j - (k + 1)) _ (by omega) ⟨k + 1, nb + 1, n', _, w', _, pl', lb', lw, rfl, rfl, Hp.le_trans lq l29, rfl, by omega, hLb', Rb', fun l hl => ?_, hLw.up l29, Rw, JR S (UB (Ln hLe hq (u := Gf (out (fs (e + (na + j)) out)) p) (t := out (fs (e + (na + j)) out)) (fun i hi => (Cg.mod _ _).trans (Cg.of_eq (Int.mul_comm _ _))) hcg))⟩ Qs
      rcases Nat.lt_trichotomy l q with h | rfl | h
      ·rw [DN h]; exact hpb l (by omega)
      ·rw [Dk]; exact hz
      ·rw [DM h]; exact hpb _ (by omega)
     ·have h0 : ∀ i, i < e → out i = 0 := fun i hi => s2 i (by omega)
      have hout : ∀ i, i < na + j → 0 ≤ out (e + i) ∧ out (e + i) < p := fun i hi => hob _ (by omega)
      have hRt : RdL cI 1 h8 [] (Ch 1 v18 e (e + (na + j))) (vec (na + j) fun i => out (e + i)) := by
       have := hR18.sub_ (i := e) (j := e + (na + j)) (by omega) (by omega)
       rwa [Nat.add_sub_cancel_left, FU (Nat.le_refl _)] at this
      by_cases hz2 : fs (e + (na + j)) out < e + (na + j)
      ·rw [Fg hz2 (s3 hz2) s2]
       refine AR (t := 192) rfl (fun hs => ?_) (fun hs => absurd ((by omega)) hs)
       refine Qg (As rfl rfl) rfl (Qg (oF Ca rfl) rfl (Qg (oF Bh rfl) rfl ?_))
       refine Qg (AM rfl Tryz.underlying3 rfl rfl (by (rw [A6]; exact hB38 _ _ rfl _))) rfl ?_
       refine Qg (Dy rfl rfl rfl) rfl (Qm rfl (Aq (AF rfl (fun hc => absurd hc ((by omega))) (fun hc => Di (AW (n := 8) (bs := [true, true, true, true, true, true, true, false]) [true, true, true, true, true, true, true] Cd (by kernel_rfl) (by kernel_rfl) rfl rfl (QF CQ rfl (Qp rfl (AM rfl Tryz.underlying91 rfl rfl (hB58 _ _ rfl _)) (Qq rfl (QF Ca rfl (QF Bh rfl ?_))))))))))
       refine Qp rfl (AM rfl Tryz.underlying3 rfl rfl (by (rw [A6]; exact hB38 _ _ rfl _))) ?_
       refine Qp rfl (C3 (e) hRn18.any rfl Tryz.underlying24 A8 rfl rfl (by omega) (by omega)) ?_
       unfold CD
       simp only [List.cons_append, List.nil_append]
       refine Qo 7 rfl (Bs (pre := [AX g28 93 [.int .i64 p, lw]]) rfl Tryz.call82 rfl (KE p (na + j) n' g28 (fun i => out (e + i)) w' pl' lw _ h8 hp (by omega) Rw (hLw.up l28) hout hRt) rfl rfl rfl rfl (fun x9 h9 ms9 l9 hF => ?_))
       obtain ⟨l9', n2, w2, pl2, lw2, rfl, hL2, hR2, hS2'⟩ := hF
       refine Qa (Qe ?_)
       have l29 := Hp.le_trans l28 l9
       refine A9 (Aj (Ab (Ad (Qm rfl (Qx (oA rfl) rfl (Qm rfl (Ak ?_)))))))
       exact Al (m + j - (k + 1)) _ (by omega) ⟨k + 1, nb, n2, wb, w2, pb, pl2, lb, lw2, rfl, rfl, Hp.le_trans lq l29, rfl, by omega, hLb.up l29, Rb, hpb, hL2, hR2, JR S (Sw hLe h0 hS2')⟩ Qs
      ·rw [JO (ME (by omega))]
       refine AR (t := 192) rfl (fun hs => absurd hs ((by omega))) (fun hs => Qk rfl (Qk rfl (Qk rfl (Qk rfl (Qk rfl (Qm rfl (Aq (Bb rfl (Di (AW (n := 8) (bs := [true, true, true, true, true, true, true, false]) [true, true, true, true, true, true, true] Cd (by kernel_rfl) (by kernel_rfl) rfl rfl (QF CQ rfl (Qp rfl (AM rfl Tryz.underlying91 rfl rfl (hB58 _ _ rfl _)) (Qq rfl (QF Ca rfl (QF Bh rfl ?_)))))))))))))))
       refine Qp rfl (AM rfl Tryz.underlying3 rfl rfl (by (rw [A6]; exact hB38 _ _ rfl _))) ?_
       refine Qp rfl (C3 (e) hRn18.any rfl Tryz.underlying24 A8 rfl rfl (by omega) (by omega)) ?_
       unfold CD
       simp only [List.cons_append, List.nil_append]
       refine Qo 7 rfl (Bs (pre := [AX g28 93 [.int .i64 p, lw]]) rfl Tryz.call82 rfl (KE p (na + j) n' g28 (fun i => out (e + i)) w' pl' lw _ h8 hp (by omega) Rw (hLw.up l28) hout hRt) rfl rfl rfl rfl (fun x9 h9 ms9 l9 hF => ?_))
       obtain ⟨l9', n2, w2, pl2, lw2, rfl, hL2, hR2, hS2'⟩ := hF
       refine Qa (Qe ?_)
       have l29 := Hp.le_trans l28 l9
       refine A9 (Aj (Ab (Ad (Qm rfl (Qx (oA rfl) rfl (Qm rfl (Ak ?_)))))))
       exact Al (m + j - (k + 1)) _ (by omega) ⟨k + 1, nb, n2, wb, w2, pb, pl2, lb, lw2, rfl, rfl, Hp.le_trans lq l29, rfl, by omega, hLb.up l29, Rb, hpb, hL2, hR2, JR S (Sw hLe h0 hS2')⟩ Qs
    ·obtain rfl : k = m + j := by omega
     refine Aw (Aa (Aa (Af (Ab (Ax (Qx (Du rfl Tryz.underlying95 rfl Dv rfl rfl (Seg.any (hS5.le (Hp.le_trans l35 lq)))) rfl ?_))))))
     refine Sa 2 [_, _] Dv rfl (by simp [Value.oneCell']) ?_
     refine Aq (Ao (AP 0 rfl ?_))
     exact Cl (vs := [_, _]) 1 rfl rfl Tryz.underlying95 rfl Dv rfl rfl (⟨Hp.le_trans l0k (Hp.le_trans l5 lq), g28, n', nb, w', wb, pl', pb, lw, rfl, rfl, hLw, Rw, Rb, hpb, S⟩)
end Go.Proofs.YtdnelknieikbaaaGreat
namespace Go.Proofs.YtdnelknieikbaaaGreat
open Go.Eng Go.RowKit Go.Lin
theorem Qi (Z : Zz) (vd va : Value) (a b N gx : Nat) (w : Nat → Nat → Int) (pl : Nat → Nat) (lv : Value) (h : Hp) (hRt : Z.Rt) (hR : RdZ h vd va Z) (hab : a ≤ b) (hb : b < Z.ars.length) (R : Go.Lin.Rows Z.p (Z.zg.d a + Z.zg.d b) N w pl) (RR : Rr Z.zg a b N w) (hG : Seg h [] ⟨gx, 0, none⟩ [.int .i64 Z.p, lv]) (hL : RdV h lv N (Z.zg.d a + Z.zg.d b) w) :
  FnT Tryz.prog 49 #[.agg #[.int .i64 (Z.zg.d a), .pointer (some ⟨gx, 0, none⟩)], .agg #[.bool Z.ars[b].b, .int .i64 Z.ars[b].M.p, .int .i64 Z.ars[b].M.rows, .int .i64 Z.ars[b].M.cols, Z.ars[b].v]] h [] (fun r h' ms' => h.le h' ∧ ∃ (g' n' : Nat) (w' : Nat → Nat → Int) (pl' : Nat → Nat) (lv' : Value), r = .agg #[.int .i64 (Z.zg.d a), .pointer (some ⟨g', 0, none⟩)] ∧ ms' = [AX g' 93 [.int .i64 Z.p, lv']] ∧ RdV h' lv' n' (Z.zg.d a + Z.zg.d (b + 1)) w' ∧ Go.Lin.Rows Z.p (Z.zg.d a + Z.zg.d (b + 1)) n' w' pl' ∧ Rr Z.zg a (b + 1) n' w') := by
 obtain ⟨f1, f2, f3, f4, f5⟩ := Z.arrow hRt hb
 have hp := hRt.2.2.2.1
 have ho := hR.e _ (List.getElem_mem hb)
 have hbk := Z.zg_back hb
 rw [f4] at ho
 rw [f1, f2, f3]
 rcases Z.zg.src_tgt b with ⟨e1, e2, e3⟩ | ⟨e1, e2, e3⟩
 ·rw [e1, e2] at ho f5 ⊢
  rw [hbk] at e3
  rw [e3]
  refine (Oj Z.p (Z.zg.d a) (Z.zg.d b) (Z.zg.d (b + 1)) N gx w pl _ lv _ h hp (Z.d_le hRt a) (Z.d_le hRt b) (Z.d_le hRt (b + 1)) R hG hL f5 ho).mono ?_
  rintro r h' ms' ⟨l, g', n', w', pl', lv', h1, h2, h3, h4, h5⟩
  exact ⟨l, g', n', w', pl', lv', h1, h2, h3, h4, RR.fwd hab (hbk.trans e3) (fun m hm i hi => Cg.of_eq (BW hi)) (fun m hm i hi => by rw [BG]; exact Cg.mod _ _) h5⟩
 ·rw [e1, e2] at ho f5 ⊢
  rw [hbk] at e3
  rw [e3]
  refine (OA Z.p (Z.zg.d a) (Z.zg.d b) (Z.zg.d (b + 1)) N gx w pl _ lv _ h hp (Z.d_le hRt a) (Z.d_le hRt b) (Z.d_le hRt (b + 1)) R hG hL f5 ho).mono ?_
  rintro r h' ms' ⟨l, g', n', nb, w', wb, pl', pb, lv', h1, h2, h3, h4, h5, h6, h7⟩
  refine ⟨l, g', n', w', pl', lv', h1, h2, h3, h4, RR.bwd hab (hbk.trans e3) (fun m hm i hi => Cg.of_eq (by rw [Ri hm])) (fun j hj => ?_) h5 h6 h7⟩
  rw [SG]
  refine Cy (fun i hi => ?_) fun i hi => ?_
  ·rw [BW hi, BW hi]
   exact (Cg.mod _ _).trans (((Cg.self Z.p).sub (Cg.refl Z.p (Z.zg.mat b i j))).trans (Cg.of_eq (Int.zero_sub _)))
  ·rw [BG, BG]; exact Cg.refl _ _
theorem T6 {p : Int} (hp : IsP p) : Gf 1 p = 1 := by
 have h2 := hp.1
 exact (L3 hp (Int.le_refl 1) (by omega) (v := 1) ⟨by omega, by omega⟩ (by rw [Int.mul_one, Int.emod_eq_of_lt (by omega) (by omega)])).symm
def Un (n : Nat) (l i : Nat) : Int := if i = l ∨ i = n + l then 1 else 0
theorem T2 {p : Int} {d k q : Nat} {w : Nat → Nat → Int} {pl : Nat → Nat} {x : Nat → Int} (hq : q ≤ k) (hpl : ∀ l, l < k → pl l < k) (hR : Go.Lin.Rows p d (k + 1) (Eg q x w) (Eg q k pl)) : q = k := by
 rcases (by omega : q = k ∨ q < k) with h | h
 ·exact h
 ·have h1 := hR.inc q (q + 1) (by omega) (by omega)
  rw [Dk, DM (by omega), Nat.add_sub_cancel] at h1
  have := hpl q h
  omega
theorem MZ (Z : Zz) (D : Dc) (vd va : Value) (from_ to : Int) (h : Hp) (hO : Z.Ok) (hR : RdZ h vd va Z) (hD : Z.Rt → Valid Z.zg D) (hf : Dh from_) (ht : Dh to) :
  FnT Tryz.prog 25 #[.agg #[.int .i64 Z.p, vd, va], .int .i64 from_, .int .i64 to] h [] (fun r _ _ => r = .int .i64 (if Z.Rt ∧ 0 ≤ from_ ∧ from_ ≤ to ∧ to < (Z.dims.length : Int) then (cnt D.N (D.cov from_.toNat to.toNat) : Nat) else 0)) := by
 have o1 := hR.d.rd.one
 have o2 := hR.a.rd.one
 refine Av Tryz.func25 Tryz.ntmps25 rfl rfl (fun w0 hw0 => ?_)
 simp only [A4]
 refine Ax ?_
 refine AS [_, _, _] rfl rfl (by rfl) rfl rfl rfl (fun g3 => ?_)
 refine Qm rfl (Aq (AL fun h1 l1 hS3 => ?_))
 have hR := hR.up l1
 have hA := Seg.all hS3
 have hA0 := hA 0 _ rfl
 refine Ax (Qx (Du rfl Tryz.underlying30 rfl Bz rfl rfl (Seg.any hS3)) rfl (Qx (AG rfl Tryz.call22 rfl (Ds (Ff Z vd va _ hO hR) _)) rfl (Qm rfl (Aq (Ac (Ax (Qm rfl (Qm rfl (Qm rfl ?_)))))))))
 refine CO (t := 16) rfl (fun q1 => ?_) (fun q1 => ?_)
 ·have hn : ¬ Z.Rt := by simpa using q1
  refine Qk rfl (Qk rfl (Qm rfl (Qm rfl (Qk rfl (Qk rfl (Qk rfl (Qm rfl (Qm rfl (Qk rfl (Qk rfl (Qk rfl (Qk rfl (Qk rfl (Qm rfl (Aq (AU rfl (Ax (Qm rfl (Aq (Ao (Ae ?_)))))))))))))))))))))
  exact Am rfl rfl (by rw [if_neg fun e => hn e.1])
 ·have hRt : Z.Rt := by simpa using q1
  refine Qg (As rfl rfl) rfl (Qg (Dy rfl rfl rfl) rfl (Qm rfl (Qm rfl ?_)))
  refine AR (t := 20) rfl (fun q2 => ?_) (fun q2 => ?_)
  ·refine Qk rfl (Qk rfl (Qk rfl (Qm rfl (Qm rfl (Qk rfl (Qk rfl (Qk rfl (Qk rfl (Qk rfl (Qm rfl (Aq (AU rfl (Ax (Qm rfl (Aq (Ao (Ae ?_)))))))))))))))))
   exact Am rfl rfl (by rw [if_neg fun e => by omega])
  ·refine Qg (As rfl rfl) rfl (Qg (As rfl rfl) rfl (Qg (Dd rfl rfl rfl) rfl (Qm rfl (Qm rfl ?_))))
   refine AR (t := 25) rfl (fun q3 => ?_) (fun q3 => ?_)
   ·refine Qk rfl (Qk rfl (Qk rfl (Qk rfl (Qk rfl (Qm rfl (Aq (AU rfl (Ax (Qm rfl (Aq (Ao (Ae ?_))))))))))))
    exact Am rfl rfl (by rw [if_neg fun e => by omega])
   ·refine Qg (As rfl rfl) rfl (Qg (oF Bn rfl) rfl (Qg (AM rfl Tryz.underlying24 rfl rfl (hA _ _ rfl _)) rfl (Qg (AJ hR.d.rd.any rfl Tryz.underlying24 rfl) rfl (Qg (DU rfl rfl rfl) rfl (Qm rfl (Aq ?_))))))
    refine AF rfl (fun q4 => ?_) (fun q4 => ?_)
    ·refine Ac (Ad (Qm rfl (Aq (Ao (Ae ?_)))))
     exact Am rfl rfl (by rw [if_neg fun e => by omega])
    ·rw [if_pos ⟨hRt, by omega, by omega, by omega⟩]
     obtain ⟨a, rfl⟩ := Int.eq_ofNat_of_zero_le (show 0 ≤ from_ by omega)
     obtain ⟨b, rfl⟩ := Int.eq_ofNat_of_zero_le (show 0 ≤ to by omega)
     have hab : a ≤ b := by omega
     have hbn : b < Z.dims.length := by omega
     have han : a < Z.dims.length := by omega
     have n2 := hRt.2.1
     have hna := Z.nars hRt
     have hp := hRt.2.2.2.1
     have hp1 := hp.1
     have hp2 := hp.2.1
     have hda := Z.d_le hRt a
     have hca : ∀ ms, Cell h1 ms ((Bl vd).add (a * 1)) (.int .i64 (Z.zg.d a)) := fun ms => by
      have := hR.d.any.cell0 (ms := ms) han rfl
      rw [Z.zg_d hRt a]
      unfold Zz.dim
      rwa [show Z.dims.getD a 0 = Z.dims[a] by simp [List.getD, han]]
     refine Ai (Ab ?_)
     refine Bv (fun sl hh ms' => ∃ g8 g40 : Nat, sl = [(1, .int .i64 a), (2, .int .i64 b), (3, .pointer (some ⟨g3, 0, none⟩)), (8, .pointer (some ⟨g8, 0, none⟩))] ∧ h1 = hh ∧ ms' = [AX g8 95 [.int .i64 (Z.zg.d a), .pointer (some ⟨g40, 0, none⟩)], AX g40 93 [.int .i64 Z.p, .slice none 0 0]]) ?_ (fun s h ms hI => ?_)
     ·refine AW (n := 12) (bs := [true, true, true, true, true, true, true, true, false, false, false, false]) [true, true, true, true, true, true, true, true] Cd (by kernel_rfl) (by kernel_rfl) rfl rfl (QF Bn rfl (Qp rfl (AM rfl Tryz.underlying24 rfl rfl (hA _ _ rfl _)) (Qq rfl (Qp rfl (Ah (a) hR.d.rd.any rfl Tryz.underlying24 A8 rfl rfl (by omega) (by omega)) (Qp rfl (AM rfl Tryz.underlying3 rfl rfl (hca _)) (QF CG rfl (Qp rfl (AM rfl Tryz.underlying3 rfl rfl (hA0 _)) ?_)))))))
      refine Qp rfl (AT PK [.int .i64 0, .slice none 0 0] [(0, _)] [_, _] rfl RD rfl rfl (by repeat (first | exact trivial | refine ⟨⟨rfl, rfl, rfl⟩, ?_⟩)) rfl) ?_
      unfold CD
      simp only [List.cons_append, List.nil_append]
      refine A2 [8, 10] (by kernel_rfl) rfl ?_
      refine Az rfl ?_ ?_
      ·refine AS [_, _] rfl rfl (by rfl) rfl rfl rfl (fun g40 => ?_)
       refine Qw ?_
       refine An 9 41 (by kernel_rfl) rfl (Hp.le_refl _) rfl (AT Oi [.int .i64 0, .pointer none] [(0, _), (1, _)] [_, _] rfl Dv rfl rfl (by repeat (first | exact trivial | refine ⟨⟨rfl, rfl, rfl⟩, ?_⟩)) rfl) ?_
       refine Qo 10 rfl (BZ [.int .i64 0, .pointer none] rfl Dv rfl rfl (fun g8 => Qw (Qo 11 rfl ?_)))
       refine Sa 0 [_, _] Dv rfl (by simp [Value.oneCell']) ?_
       refine Qw (Qe ?_)
       exact AA _ ⟨_, _, rfl, rfl, rfl⟩ Qs
      refine Az rfl ?_ ?_
      ·refine BZ [.int .i64 0, .pointer none] rfl Dv rfl rfl (fun g8 => Qw (Qo 8 rfl ?_))
       refine AS [_, _] rfl rfl (by rfl) rfl rfl rfl (fun g40 => ?_)
       refine Qw ?_
       refine An 9 41 (by kernel_rfl) rfl (Hp.le_refl _) rfl (AT Oi [.int .i64 0, .pointer none] [(0, _), (1, _)] [_, _] rfl Dv rfl rfl (by repeat (first | exact trivial | refine ⟨⟨rfl, rfl, rfl⟩, ?_⟩)) rfl) ?_
       refine Qo 11 rfl ?_
       refine Sa 1 [_, _] Dv rfl (by simp [Value.oneCell']) ?_
       refine Qw (Qe ?_)
       exact A9 (AA _ ⟨_, _, rfl, rfl, rfl⟩ Qs)
      exact A3
     ·obtain ⟨g8, g40, rfl, rfl, rfl⟩ := hI
      refine Ac (Ax (Qm rfl (Aq (Ag ?_))))
      refine AD (fun q sl hh ms' => ∃ (k : Nat) (w : Nat → Nat → Int) (pl : Nat → Nat) (lv : Value), q = Z.zg.d a - k ∧ sl = [(1, .int .i64 a), (2, .int .i64 b), (3, .pointer (some ⟨g3, 0, none⟩)), (8, .pointer (some ⟨g8, 0, none⟩)), (9, .int .i64 k)] ∧ h1.le hh ∧ ms' = [AX g8 95 [.int .i64 (Z.zg.d a), .pointer (some ⟨g40, 0, none⟩)], AX g40 93 [.int .i64 Z.p, lv]] ∧ k ≤ Z.zg.d a ∧ RdV hh lv k (Z.zg.d a + Z.zg.d a) w ∧ Go.Lin.Rows Z.p (Z.zg.d a + Z.zg.d a) k w pl ∧ (∀ l, l < k → pl l = l) ∧ ∀ l, l < k → ∀ i, i < Z.zg.d a + Z.zg.d a → w l i = Un (Z.zg.d a) l i)
       (Z.zg.d a - 0) _ ⟨0, fun _ _ => 0, fun _ => 0, _, rfl, rfl, Hp.le_refl _, rfl, by omega, GV, FO, fun l hl => by omega, fun l hl => by omega⟩ Qs ?_
      rintro q sl hh ms' ⟨k, w, pl, lv, rfl, rfl, lh, rfl, hk, hL, Rw, hpl, hw⟩
      refine Ac (Ax (Qm rfl (Qf D1 rfl (Qx (AM rfl Tryz.underlying3 rfl rfl (Cell.blk 0 (k := 0) rfl rfl)) rfl (Qm rfl (Aq ?_))))))
      refine AF rfl (fun hlt => ?_) (fun hlt => ?_)
      ·have hka : k < Z.zg.d a := by omega
       refine Ai (Ab (Ac (Ag (Ax (Qf D1 rfl (Qx (AM rfl Tryz.underlying3 rfl rfl (Cell.blk 0 (k := 0) rfl rfl)) rfl (Qx (oM rfl) rfl (Eu (n := (Z.zg.d a + Z.zg.d a)) rfl Tryz.underlying24 A8 rfl rfl rfl (by omega) (by omega) (by omega) (by omega) rfl rfl rfl (fun g51 => Qm rfl (Aq ?_))))))))))
       have hO := OwnL.rep (g := g51) (el := 3) (Z.zg.d a + Z.zg.d a) 0 (by omega)
       rw [G5] at hO
       refine Ax (Qm rfl (Qm rfl (Qx (Dz _ rfl Tryz.underlying24 A8 rfl rfl rfl (by omega)) rfl ?_)))
       refine Bu 0 k hO rfl A8 rfl rfl rfl (by rw [AQ]; omega) rfl rfl (fun m1 hO1 => ?_)
       rw [D6] at hO1
       refine B3 (Qm rfl (Qf D1 rfl (Qx (AM rfl Tryz.underlying3 rfl rfl (Cell.blk 1 (k := 0) rfl rfl)) rfl (Qm rfl (Qx (oA rfl) rfl (Qx (Dz (Z.zg.d a + k) rfl Tryz.underlying24 A8 rfl rfl (by omega) (by omega)) rfl ?_))))))
       refine Bu 0 (Z.zg.d a + k) hO1 rfl A8 rfl rfl rfl (by rw [AQ]; omega) rfl rfl (fun m2 hO2 => ?_)
       rw [D6] at hO2
       have hvi : ∀ i, (if i = Z.zg.d a + k then (1 : Int) else if i = k then 1 else 0) = Un (Z.zg.d a) k i := fun i => by
        unfold Un
        by_cases e2 : i = Z.zg.d a + k
        ·rw [if_pos e2, if_pos (.inr e2)]
        ·rw [if_neg e2]
         by_cases e1 : i = k
         ·rw [if_pos e1, if_pos (.inl e1)]
         ·rw [if_neg e1, if_neg (by omega)]
       rw [BA (fun i _ => hvi i)] at hO2
       refine Aq (Bg hO2 fun h5 l5 hR5 => ?_)
       have l15 := Hp.le_trans lh l5
       refine Ad (Qf CQ rfl (Qx (AM rfl Tryz.underlying91 rfl rfl (Cell.blk 0 (k := 1) rfl rfl)) rfl (Qm rfl (Fe ?_))))
       have hib : ∀ i, 0 ≤ Un (Z.zg.d a) k i ∧ Un (Z.zg.d a) k i < Z.p := fun i => by unfold Un; split <;> omega
       have hik : Un (Z.zg.d a) k k = 1 := if_pos (.inl rfl)
       refine Bs (pre := [AX g40 93 [.int .i64 Z.p, lv]]) rfl Tryz.call48 rfl (J1 Z.p (Z.zg.d a + Z.zg.d a) k g40 k (Un (Z.zg.d a) k) w pl lv _ h5 hp (by omega) Rw (hL.up l5) (fun i _ => hib i) hR5 (by omega) (by rw [hik]; decide) (fun i hi => if_neg (by omega)) (fun l hl => by rw [hpl l hl]; omega)) rfl rfl rfl rfl (fun x9 h9 ms9 l9 hF => ?_)
       obtain ⟨l9', q, lv', rfl, hq, hL', Rw'⟩ := hF
       obtain rfl : q = k := T2 hq (fun l hl => by rw [hpl l hl]; exact hl) Rw'
       refine Ak (Aj (Ab (Ad (Qm rfl (Qx (oA rfl) rfl (Qm rfl (Ak (A9 ?_))))))))
       refine Al (Z.zg.d a - (q + 1)) _ (by omega) ⟨q + 1, _, _, lv', rfl, rfl, Hp.le_trans l15 l9, rfl, by omega, hL', Rw', fun l hl => ?_, fun l hl i hi => ?_⟩ Qs
       ·rcases (by omega : l < q ∨ l = q) with h | rfl
        ·rw [DN h]; exact hpl l h
        ·exact Dk
       ·rcases (by omega : l < q ∨ l = q) with h | rfl
        ·rw [DN h]; exact hw l h i hi
        ·rw [Dk, hik, T6 hp, Int.mul_one]
         exact Int.emod_eq_of_lt (hib i).1 (hib i).2
      ·obtain rfl : k = Z.zg.d a := by omega
       have hRR : Rr Z.zg a a (Z.zg.d a) w := Rr.start _ rfl hw
       refine Aw (Aa (Aa (Af (Ab (Ac (Ax (Qm rfl (Qm rfl (Aq (Ag (Di (AL fun h5 l5 hG => ?_))))))))))))
       have l15 := Hp.le_trans lh l5
       refine AD (fun q sl hh2 ms' => ∃ (k N gx : Nat) (w : Nat → Nat → Int) (pl : Nat → Nat) (lv : Value), q = b - k ∧ sl = [(2, .int .i64 b), (3, .pointer (some ⟨g3, 0, none⟩)), (8, .pointer (some ⟨g8, 0, none⟩)), (11, .int .i64 k)] ∧ h5.le hh2 ∧ ms' = [AX g8 95 [.int .i64 (Z.zg.d a), .pointer (some ⟨gx, 0, none⟩)]] ∧ a ≤ k ∧ k ≤ b ∧ Seg hh2 [] ⟨gx, 0, none⟩ [.int .i64 Z.p, lv] ∧ RdV hh2 lv N (Z.zg.d a + Z.zg.d k) w ∧ Go.Lin.Rows Z.p (Z.zg.d a + Z.zg.d k) N w pl ∧ Rr Z.zg a k N w)
        (b - a) _ ⟨a, _, g40, w, pl, lv, rfl, rfl, Hp.le_refl _, rfl, by omega, hab, hG, hL.up l5, Rw, hRR⟩ Qs ?_
       rintro q sl hh2 ms' ⟨k, N, gx, w, pl, lv, rfl, rfl, lq, rfl, hk1, hk2, hG, hL, Rw, hRR⟩
       have l1q := Hp.le_trans l15 lq
       have hR := hR.up l1q
       have hA := Seg.all (hS3.le l1q)
       refine Ac (Ax (Qm rfl (Qm rfl (Qm rfl (Aq ?_)))))
       refine AF rfl (fun hltk => ?_) (fun hltk => ?_)
       ·have hkb : k < b := by omega
        have hka : k < Z.ars.length := by omega
        have hseg : ∀ ms, Seg hh2 ms ((Bl va).add (k * 5)) (cA Z.ars[k]) := fun ms => (hR.a.any (ms := ms)).seg hka
        refine Ai (Ab (Ac (Ag (AW (n := 8) (bs := [false, true, true, true, true, true, false, false]) [false, true, true, true, true, true] Cd (by kernel_rfl) (by kernel_rfl) rfl rfl (QF BQ rfl (Qp rfl (AM rfl Tryz.underlying28 rfl rfl (hA _ _ rfl _)) (Qq rfl (Qp rfl (Ah (k) hR.a.rd.any rfl Tryz.underlying28 Cr rfl rfl (by omega) (by omega)) (Qp rfl (Du rfl Tryz.underlying45 rfl Cr rfl rfl (hseg _)) ?_)))))))))
        unfold CD
        simp only [List.cons_append, List.nil_append]
        refine Qo 0 rfl (Qx (Du rfl Tryz.underlying95 rfl Dv rfl rfl (Seg.blk 0 rfl)) rfl (Qw (Qo 6 rfl (E4 rfl Tryz.call49 rfl (Qi Z vd va a k N gx w pl lv hh2 hRt hR hk1 hka Rw hRR hG hL) rfl rfl rfl (fun x6 h6 ms6 l6 hF => ?_)))))
        obtain ⟨l6', g', n', w', pl', lv', rfl, rfl, hL', Rw', hRR'⟩ := hF
        refine Qa (Qo 7 rfl ?_)
        refine Sa 1 [_, _] Dv rfl (by simp [Value.oneCell']) ?_
        refine Qa (Qe (Aj (Ab (Ad (Qm rfl (Qx (oA rfl) rfl (Qm rfl (Ak (MK fun h7 l7 k7 => ?_)))))))))
        have hG' : Seg h7 [] ⟨g', 0, none⟩ [.int .i64 Z.p, lv'] := Seg.ofLe k7
        exact Al (b - (k + 1)) _ (by omega) ⟨k + 1, n', g', w', pl', lv', rfl, rfl, Hp.le_trans lq (Hp.le_trans l6 l7), rfl, by omega, by omega, hG', hL'.up l7, Rw', hRR'⟩ Qs
       ·obtain rfl : k = b := by omega
        refine Aw (Aa (Aa (Af (Ab (Ax (Qx (Du rfl Tryz.underlying95 rfl Dv rfl rfl (Seg.blk 0 rfl)) rfl ?_))))))
        refine E4 rfl Tryz.call50 rfl (MO Z.p (Z.zg.d a) (Z.zg.d k) N gx w pl lv hh2 hp (by omega) (by have := Z.d_le hRt k; omega) Rw hG hL) rfl rfl rfl (fun x6 h6 ms6 l6 hF => ?_)
        obtain ⟨nw, ww, pw, rfl, Rs, hSp⟩ := hF
        have hrk := hRR.rank hp.fld (hD hRt) hk1 hbn Rw Rs hSp
        refine Qm rfl (Aq (Ao ?_))
        exact Am rfl rfl (by congr 1; show (nw : Int) - _ = (cnt D.N (D.cov a k) : Nat); omega)
end Go.Proofs.YtdnelknieikbaaaGreat
namespace Go.Proofs.YtdnelknieikbaaaGreat
open Go.Proofs.Tryz
open Go.Eng Go.RowKit Go.Lin Go.Sort Go.Srt
def Je (Z : Zz) (D : Dc) (a b : Int) : Int := if Z.Rt ∧ 0 ≤ a ∧ a ≤ b ∧ b < (Z.dims.length : Int) then (cnt D.N (D.cov a.toNat b.toNat) : Nat) else 0
open Classical in
noncomputable def Zz.D (Z : Zz) : Dc := if h : ∃ D, Valid Z.zg D then Classical.choose h else ⟨0, fun _ => 0, fun _ => 0, fun _ _ _ => 0⟩
theorem Zz.D_ok {Z : Zz} (h : ∃ D, Valid Z.zg D) : Valid Z.zg Z.D := by
 unfold Zz.D
 rw [dif_pos h]
 exact Classical.choose_spec h
def U0 (a b : Int) (x : Int × Int) : Bool := decide (x.1 ≤ a ∧ b ≤ x.2)
def IE (p : Int × Int → Bool) (l : List Iv) : Int := (l.map fun y => if p (y.fr, y.to) then y.n else 0).sum
theorem Pm (p : Int × Int → Bool) {l : List Iv} {k : Nat} (hk : k < l.length) : IE p (l.take (k + 1)) = IE p (l.take k) + if p (l[k].fr, l[k].to) then l[k].n else 0 := by
 unfold IE
 rw [List.take_succ_eq_append_getElem hk, List.map_append, List.sum_append]
 simp
theorem Nr (p : Int × Int → Bool) (c : Int × Int → Nat) : ∀ ks : List (Int × Int), IE p (ks.map fun a => ⟨a.1, a.2, (c a : Nat)⟩) = (GR ks p c : Nat)
 | [] => rfl
 | a :: ks => by
  have ih := Nr p c ks
  unfold IE GR at ih ⊢
  rw [List.map_cons, List.map_cons, List.map_cons, List.sum_cons, List.sum_cons, ih]
  push_cast
  congr 1
  show (if p (a.1, a.2) = true then _ else _) = _
  split <;> simp
theorem NP (p : Int × Int → Bool) : ∀ l : List Iv, (∀ y ∈ l, 0 ≤ y.n ∧ y.n ≤ 20400) → 0 ≤ IE p l ∧ IE p l ≤ 20400 * (l.length : Int)
 | [], _ => by simp [IE]
 | y :: l, h => by
  have ih := NP p l fun z hz => h z (by simp [hz])
  have hy := h y (by simp)
  unfold IE at ih ⊢
  rw [List.map_cons, List.sum_cons, List.length_cons]
  push_cast
  split <;> omega
theorem Uz {Z : Zz} (hR : Z.Rt) {bl : List Iv} (hB : EI Z bl) (a b : Nat) (hab : a ≤ b) (hb : b < Z.dims.length) : IE (U0 a b) bl = (cnt Z.D.N (Z.D.cov a b) : Nat) ∧ ∃ D, Valid Z.zg D := by
 obtain ⟨D, V, hb'⟩ := hB.2 hR
 obtain ⟨ks, rfl, hs, hm⟩ := hb'
 have hn : ks.Nodup := hs.imp fun {a b} h e => by
  subst e
  rw [Cm] at h
  omega
 refine ⟨?_, D, V⟩
 rw [G8 hR.2.2.2.1.fld (Z.D_ok ⟨D, V⟩) V hab hb, Nr, Qn (D := D) (U0 a b) hn fun l hl => (hm _).2 (by
  unfold Dc.ct
  exact List.length_pos_of_mem (mem_sel.2 ⟨hl, decide_eq_true rfl⟩))]
 congr 1
 refine CC fun l _ => ?_
 unfold U0 Dc.cov
 rw [← Bool.decide_and]
 exact decide_eq_decide.2 (by simp only; omega)
theorem O4 {l : List StE} {bl : List Iv} (hl : l.length ≤ 20400) (hB : DE (fun a => (l.map StE.key).count a) bl) : bl.length ≤ 20400 ∧ ∀ y ∈ bl, 0 ≤ y.n ∧ y.n ≤ 20400 := by
 obtain ⟨ks, rfl, hs, hm⟩ := hB
 have hn : ks.Nodup := hs.imp fun {a b} h e => by
  subst e
  rw [Cm] at h
  omega
 constructor
 ·rw [List.length_map]
  have h1 : ks.length ≤ (l.map StE.key).length := hn.length_le_of_subset fun a ha => List.count_pos_iff.1 ((hm a).1 ha)
  rw [List.length_map] at h1; omega
 ·intro y hy
  obtain ⟨a, ha, rfl⟩ := List.mem_map.1 hy
  have h1 : (l.map StE.key).count a ≤ (l.map StE.key).length := List.count_le_length
  rw [List.length_map] at h1
  show (0 : Int) ≤ (((l.map StE.key).count a : Nat) : Int) ∧ (((l.map StE.key).count a : Nat) : Int) ≤ 20400
  omega
theorem Ir (Z : Zz) (vd va : Value) (from_ to : Int) (h : Hp) (hO : Z.Ok) (hR : RdZ h vd va Z) (hf : Dh from_) (ht : Dh to) :
  FnT Tryz.prog 24 #[.agg #[.int .i64 Z.p, vd, va], .int .i64 from_, .int .i64 to] h [] (fun r _ _ => r = .int .i64 (Je Z Z.D from_ to) ∧ (Z.Rt → 0 ≤ from_ → from_ ≤ to → to < (Z.dims.length : Int) → ∃ D, Valid Z.zg D)) := by
 have o1 := hR.d.rd.one
 have o2 := hR.a.rd.one
 refine Av func24 ntmps24 rfl rfl (fun w0 hw0 => ?_)
 simp only [A4]
 refine Ax ?_
 refine AS [_, _, _] rfl rfl (by rfl) rfl rfl rfl (fun g3 => ?_)
 refine Qm rfl (Aq (AL fun h1 l1 hS3 => ?_))
 have hR := hR.up l1
 have hA := Seg.all hS3
 have hA0 := hA 0 _ rfl
 refine Ac (Ax (Qx (oG rfl underlying30 Bz (Seg.any hS3)) rfl (Qx (AG rfl call35 rfl (Ds (FT Z vd va _ hO hR) _)) rfl (Qm rfl (Qm rfl ?_)))))
 refine CO (t := 13) rfl (fun q1 => ?_) (fun q1 => ?_)
 ·have hn : ¬ Z.Rt := by simpa using q1
  refine Qk rfl (Qk rfl (Qm rfl (Qm rfl (Qk rfl (Qk rfl (Qk rfl (Qm rfl (Qm rfl (Qk rfl (Qk rfl (Qk rfl (Qk rfl (Qk rfl (Qm rfl (Aq (AU rfl (Ax (Qm rfl (Aq (Ao (Ae ?_)))))))))))))))))))))
  exact Am rfl rfl (by exact ⟨by unfold Je; rw [if_neg fun e => hn e.1], fun hRt => absurd hRt hn⟩)
 ·have hRt : Z.Rt := by simpa using q1
  refine Qg (As rfl rfl) rfl (Qg (Dy rfl rfl rfl) rfl (Qm rfl (Qm rfl ?_)))
  refine AR (t := 17) rfl (fun q2 => ?_) (fun q2 => ?_)
  ·refine Qk rfl (Qk rfl (Qk rfl (Qm rfl (Qm rfl (Qk rfl (Qk rfl (Qk rfl (Qk rfl (Qk rfl (Qm rfl (Aq (AU rfl (Ax (Qm rfl (Aq (Ao (Ae ?_)))))))))))))))))
   exact Am rfl rfl (by exact ⟨by unfold Je; rw [if_neg fun e => by omega], fun _ h => by omega⟩)
  ·refine Qg (As rfl rfl) rfl (Qg (As rfl rfl) rfl (Qg (Dd rfl rfl rfl) rfl (Qm rfl (Qm rfl ?_))))
   refine AR (t := 22) rfl (fun q3 => ?_) (fun q3 => ?_)
   ·refine Qk rfl (Qk rfl (Qk rfl (Qk rfl (Qk rfl (Qm rfl (Aq (AU rfl (Ax (Qm rfl (Aq (Ao (Ae ?_))))))))))))
    exact Am rfl rfl (by exact ⟨by unfold Je; rw [if_neg fun e => by omega], fun _ _ h => by omega⟩)
   ·refine Qg (As rfl rfl) rfl (Qg (oF Bn rfl) rfl (Qg (oL rfl underlying24 (hA _ _ rfl _)) rfl (Qg (AJ hR.d.rd.any rfl underlying24 rfl) rfl (Qg (DU rfl rfl rfl) rfl (Qm rfl (Aq ?_))))))
    refine AF rfl (fun q4 => ?_) (fun q4 => ?_)
    ·refine Ac (Ad (Qm rfl (Aq (Ao (Ae ?_)))))
     exact Am rfl rfl (by exact ⟨by unfold Je; rw [if_neg fun e => by omega], fun _ _ _ h => by omega⟩)
    ·obtain ⟨a, rfl⟩ := Int.eq_ofNat_of_zero_le (show 0 ≤ from_ by omega)
     obtain ⟨b, rfl⟩ := Int.eq_ofNat_of_zero_le (show 0 ≤ to by omega)
     refine Ai (Ab (Ax (Qm rfl (Aq (Ac (Ax (Qx (oG rfl underlying30 Bz (Seg.any hS3)) rfl (Qc call17 rfl (Hn Z vd va _ hO hR) (fun rb h2 ms2 l2 hF => ?_)))))))))
     obtain ⟨l2', bl, mb, lst, rfl, hOb, hlb, hSp, hBs⟩ := hF
     have hIB := GH hSp hBs
     obtain ⟨hb1, hb2⟩ := O4 hlb hBs
     obtain ⟨hs1, hex⟩ := Uz hRt hIB a b (by omega) (by omega)
     refine AH hOb fun h3 l3 hRb => (Qx (AJ hRb.rd.any rfl underlying33 rfl) rfl (Qm rfl (Aq (Ag ?_))))
     refine AD (fun q sl hh ms' => ∃ (k : Nat) (v : Int), q = bl.length - k ∧ sl = [(1, .int .i64 a), (2, .int .i64 b), (7, .int .i64 v), (30, rb), (31, .int .i64 bl.length), (32, .int .i64 k)] ∧ h3 = hh ∧ ms' = [] ∧ k ≤ bl.length ∧ v = IE (U0 a b) (bl.take k))
      (bl.length - 0) _ ⟨0, 0, rfl, rfl, rfl, rfl, by omega, rfl⟩ Qs ?_
     rintro q sl hh ms' ⟨k, v, rfl, rfl, rfl, rfl, hk, hv⟩
     refine Ax (Qm rfl (Aq (Ac ?_)))
     refine AF rfl (fun hlt => ?_) (fun hlt => ?_)
     ·have hkl : k < bl.length := Bx hlt
      have hstep := Pm (U0 a b) hkl
      rw [← hv] at hstep
      have hyb := hb2 _ (List.getElem_mem hkl)
      have hsb := NP (U0 a b) (bl.take k) fun y hy => hb2 y (List.mem_of_mem_take hy)
      rw [← hv, List.length_take] at hsb
      have hseg : ∀ ms, Seg h3 ms ((Bl rb).add (k * 3)) (GO bl[k]) := fun ms => (hRb.any (ms := ms)).seg hkl
      refine Ai (Ab (Ac (Ag (Ax (Qx (Ah (k) hRb.rd.any rfl underlying33 DV rfl rfl (by omega) (by omega)) rfl (Qx (oG rfl underlying37 DV (hseg _)) rfl (BZ [.int .i64 0, .int .i64 0, .int .i64 0] rfl DV rfl rfl (fun g9 => ?_))))))))
      refine Sa 0 [_, _, _] DV rfl (by simp [Value.oneCell']) ?_
      refine B3 (Qf MB rfl (Ql rfl underlying3 (Cell.blk 0 rfl rfl) (Qm rfl (Qm rfl (Qm rfl ?_)))))
      refine AR (t := 40) rfl (fun p1 => ?_) (fun p1 => ?_)
      ·refine Qg (oF MM rfl) rfl (Qg (oL rfl underlying3 (Cell.blk 0 rfl rfl)) rfl (Qg (As rfl rfl) rfl (Qg (DU rfl rfl rfl) rfl (Qm rfl (Aq ?_)))))
       refine AF rfl (fun p2 => ?_) (fun p2 => ?_)
       ·have hin : U0 a b (bl[k].fr, bl[k].to) = true := decide_eq_true ⟨p1, p2⟩
        rw [if_pos hin] at hstep
        refine Ad (Qm rfl (Qf M1 rfl (Ql rfl underlying3 (Cell.blk 0 rfl rfl) (Qx (oA rfl) rfl (Qm rfl (Ak (Aj (Ab (Ad (Qx (oA rfl) rfl (Qm rfl (Ak (A5 ?_)))))))))))))
        exact Al (bl.length - (k + 1)) _ (by omega) ⟨k + 1, _, rfl, rfl, rfl, rfl, by omega, hstep.symm⟩ Qs
       ·rw [if_neg (fun e => p2 (of_decide_eq_true e).2)] at hstep
        refine Ai (Aj (Ab (Ad (Qx (oA rfl) rfl (Qm rfl (Ak (A5 ?_)))))))
        exact Al (bl.length - (k + 1)) _ (by omega) ⟨k + 1, v, rfl, rfl, rfl, rfl, by omega, by omega⟩ Qs
      ·rw [if_neg (fun e => p1 (of_decide_eq_true e).1)] at hstep
       refine Qk rfl (Qk rfl (Qk rfl (Qk rfl (Qm rfl (Aq (Bb rfl (Ai (Aj (Ab (Ad (Qx (oA rfl) rfl (Qm rfl (Ak (A5 ?_))))))))))))))
       exact Al (bl.length - (k + 1)) _ (by omega) ⟨k + 1, v, rfl, rfl, rfl, rfl, by omega, by omega⟩ Qs
     ·obtain rfl : k = bl.length := by omega
      rw [List.take_length] at hv
      refine Aw (Aa (Aa (Af (Ab (Ax (Qm rfl (Qm rfl (Aq (Ao ?_)))))))))
      exact Am rfl rfl (by subst hv; exact ⟨by unfold Je; rw [if_pos ⟨hRt, by omega, by omega, by omega⟩, hs1]; rfl, fun _ _ _ _ => hex⟩)
end Go.Proofs.YtdnelknieikbaaaGreat
namespace Go.Proofs.YtdnelknieikbaaaGreat
open Go.Eng Go.RowKit Go.Lin Go.Sort Go.Srt
theorem Ka {p : Int} {ds : List Int} {A : List Ar} {vdo vao : Value} {md ma mB h : Hp} (hOd : OwnL cI 1 3 md vdo ds) (kd : md.le h) (hOa : OwnL cA 5 45 ma vao A) (ka : ma.le h) (B : BagE A mB) (kB : mB.le h) : RdZ h vdo vao ⟨p, ds, A⟩ := by
 refine ⟨hOd.rdh kd, hOa.rdh ka, fun a ha => ?_⟩
 obtain ⟨k, hk, rfl⟩ := List.mem_iff_getElem.1 ha
 obtain ⟨y, hy, O⟩ := B.all k hk
 have e : A.getD k default = A[k] := by simp [List.getD, hk]
 rw [e] at O
 exact O.rdh (Hp.le_trans hy kB)
end Go.Proofs.YtdnelknieikbaaaGreat
namespace Go.Proofs.YtdnelknieikbaaaGreat
open Go.Proofs.Tryz
open Go.Eng Go.RowKit Go.Lin Go.Sort Go.Srt
theorem Gv {e : Entry} {Q : Exit → Act → World → Prop} {ops : Array Oper} {r : List Oper} {s : Ay} {h : Hp} {ms : List Hp} (k : WL e ops Q r s h ms) : ∀ pre : List Hp, WL e ops Q r s h (pre ++ ms)
 | [] => k
 | m :: pre => Oe 0 rfl (Gv k pre)
theorem P7 {Z : Zz} {D : Dc} (hR : Z.Rt) (V : Valid Z.zg D) {k : Nat} (hk : k < Z.dims.length) : Je Z D k k = Z.dims[k] := by
 unfold Je
 rw [if_pos ⟨hR, by omega, by omega, by omega⟩]
 have h1 := V.cnt k hk
 have h2 := Z.zg_d hR k
 have e : cnt D.N (D.cov k k) = cnt D.N (D.on k) := CC fun l _ => rfl
 have e2 : Z.dim k = Z.dims[k] := by unfold Zz.dim; simp [List.getD, hk]
 show ((cnt D.N (D.cov k k) : Nat) : Int) = _
 omega
theorem Sh (x : Pl) (vd vs : Value) (a b : Int) (h : Hp) (hx : x.Ok) (hR : RdP h vd vs x) (ha : Dh a) (hb : Dh b) : FnT Tryz.prog 7 #[.agg #[.int .u8 x.p, vd, .int .u16 x.back, vs, .bool x.thin], .int .i64 a, .int .i64 b] h [] (fun r _ _ => r = .bool true) := by
 have o1 := hR.d.rd.one
 have o2 := hR.s.rd.one
 refine Av func7 ntmps7 rfl rfl (fun w0 hw0 => ?_)
 simp only [A4]
 refine Ax ?_
 refine AS [_, _, _, _, _] rfl rfl (by rfl) rfl rfl rfl (fun g3 => ?_)
 refine Qm rfl (B3 (Qx (AG rfl call14 rfl (GW _ _)) rfl (Qm rfl (Aq (AL fun h1 l1 hS1 => ?_)))))
 have hR := hR.up l1
 refine Ax (Qx (oG rfl underlying26 ST (Seg.any hS1)) rfl (Qc call15 rfl (Kf x vd vs h1 hx hR) (fun rz h2 ms2 l2 hF => ?_)))
 obtain ⟨l2', vdo, vao, md, ma, mB, A, rfl, rfl, hOd, hOa, hAc, hB⟩ := hF
 refine A7 fun h3 l3 k3 => (A7 fun h4 l4 k4 => (A7 fun h5 l5 k5 => ?_))
 have hRZ : RdZ h5 vdo vao ⟨x.P, x.dims, A⟩ := Ka hOd (Hp.le_trans k4 l5) hOa (Hp.le_trans k3 (Hp.le_trans l4 l5)) hB k5
 have hRt : (⟨x.P, x.dims, A⟩ : Zz).Rt := x.rt rfl rfl hAc
 generalize hZ : (⟨x.P, x.dims, A⟩ : Zz) = Z at hRZ hRt
 have hZp : x.P = Z.p := by rw [← hZ]
 rw [hZp]
 have o3 := hRZ.d.rd.one
 have o4 := hRZ.a.rd.one
 have n1 := hRt.1
 have n2 := hRt.2.1
 refine BZ [.int .i64 0, .slice none 0 0, .slice none 0 0] rfl Bz rfl rfl (fun g8 => ?_)
 refine Sa 0 [_, _, _] Bz rfl (by simp [o3, o4]) ?_
 refine Aq (AL fun h6 l6 hS8 => ?_)
 have hRZ := hRZ.up l6
 have hA := Seg.all hS8
 refine Ac (Ax (Qf Bn rfl (Ql rfl underlying24 (hA _ _ rfl _) (Qx (AJ hRZ.d.rd.any rfl underlying24 rfl) rfl (Qm rfl (Aq (Ag ?_)))))))
 refine AD (fun q sl hh ms' => ∃ (k : Nat), q = Z.dims.length - k ∧ sl = [(1, .int .i64 a), (2, .int .i64 b), (7, .bool true), (8, .pointer (some ⟨g8, 0, none⟩)), (15, .int .i64 Z.dims.length), (16, .int .i64 k)] ∧ h6.le hh ∧ ms' = [] ∧ k ≤ Z.dims.length ∧ (0 < k → ∃ D, Valid Z.zg D))
  (Z.dims.length - 0) _ ⟨0, rfl, rfl, Hp.le_refl _, rfl, by omega, fun h => by omega⟩ Qs ?_
 rintro q sl hh ms' ⟨k, rfl, rfl, lh, rfl, hk, hex0⟩
 have hRZ := hRZ.up lh
 have hS8 := hS8.le lh
 have hA := Seg.all hS8
 have hzr : ∀ c d : Int, Dh c → Dh d → ∀ ms, Dq Tryz.prog 24 #[.agg #[.int .i64 Z.p, vdo, vao], .int .i64 c, .int .i64 d] hh ms (.int .i64 (Je Z Z.D c d)) := fun c d hc hd ms => Ds ((Ir Z vdo vao c d hh hRt.ok hRZ hc hd).mono fun r _ _ h => h.1) ms
 refine Ax (Qm rfl (Aq (Ac ?_)))
 refine AF rfl (fun hlt => ?_) (fun hlt => ?_)
 ·have hkn : k < Z.dims.length := by omega
  refine Ai (Ab (Ac (Ag (Ax (Qm rfl (Qm rfl (Aq (Ac (AW (n := 27) (bs := [true, true, true, true, true, true, false, true, true, true, true, true, true, false, false, false, false, false, false, false, false, false, false, false, false, false, false]) [true, true, true, true, true, true, false, true, true, true, true, true, true] Cd (by kernel_rfl) (by kernel_rfl) rfl rfl (Qp rfl (oG rfl underlying30 Bz (Seg.any hS8)) (Qq rfl (QF Bn rfl (QL rfl underlying24 (hA _ _ rfl _) (Qp rfl (AJ hRZ.d.rd.any rfl underlying24 rfl) (Qp rfl (oS rfl) (Qp rfl (oG rfl underlying30 Bz (Seg.any hS8)) (Qq rfl (QF Bn rfl (QL rfl underlying24 (hA _ _ rfl _) (Qp rfl (AJ hRZ.d.rd.any rfl underlying24 rfl) (Qp rfl (oS rfl) ?_)))))))))))))))))))))
  unfold CD
  simp only [List.cons_append, List.nil_append]
  refine Qo 6 rfl ?_
  refine Qc call24 rfl (Ir Z vdo vao k ((Z.dims.length : Int) - 1) hh hRt.ok hRZ (by unfold Dh; omega) (by unfold Dh; omega)) (fun r6 h2 ms2 l2 hF => ?_)
  obtain ⟨rfl, hex⟩ := hF
  have hex := hex hRt (by omega) (by omega) (by omega)
  refine Gv ?_ ms2
  refine Qa (Qo 13 rfl ?_)
  refine Qx (AG rfl call25 rfl (Ds (MZ Z Z.D vdo vao _ _ h2 hRt.ok (hRZ.up l2) (fun _ => Z.D_ok hex) (by unfold Dh; omega) (by unfold Dh; omega)) _)) rfl ?_
  refine Qa (An 14 33 (by kernel_rfl) rfl (by assumption) rfl (GM (B4 rfl rfl rfl) (congrArg Value.bool (decide_eq_false fun e => e rfl))) (An 15 34 (by kernel_rfl) rfl (by assumption) rfl (As rfl rfl) (BH 16 35 (by kernel_rfl) rfl rfl rfl rfl rfl (by assumption) rfl (oG rfl underlying30 Bz (Seg.any hS8)) (BH 17 36 (by kernel_rfl) rfl rfl rfl rfl rfl (by assumption) rfl (As rfl rfl) (BH 18 37 (by kernel_rfl) rfl rfl rfl rfl rfl (by assumption) rfl (As rfl rfl) ?_)))))
  refine BH 19 38 (by kernel_rfl) rfl rfl rfl rfl rfl (by assumption) rfl (AG rfl call24 rfl (hzr _ _ (by unfold Dh; omega) (by unfold Dh; omega) _)) ?_
  refine BH 20 39 (by kernel_rfl) rfl rfl rfl rfl rfl (by assumption) rfl (oF Bn rfl) (BH 21 40 (by kernel_rfl) rfl rfl rfl rfl rfl (by assumption) rfl (oL rfl underlying24 (hA _ _ rfl _)) (BH 22 41 (by kernel_rfl) rfl rfl rfl rfl rfl (by assumption) rfl (As rfl rfl) (BH 23 42 (by kernel_rfl) rfl rfl rfl rfl rfl (by assumption) rfl (Ah (k) hRZ.d.rd.any rfl underlying24 A8 rfl rfl (by omega) (by omega)) (BH 24 43 (by kernel_rfl) rfl rfl rfl rfl rfl (by assumption) rfl (oL rfl underlying3 (hRZ.d.any.cell0 hkn rfl)) (BH 25 44 (by kernel_rfl) rfl rfl rfl rfl rfl (by assumption) rfl (GM (B4 rfl rfl rfl) (congrArg Value.bool (decide_eq_false fun e => e (P7 hRt (Z.D_ok hex) hkn)))) (Qo 26 rfl (Qm rfl (Qa (Qe (Ab (Bb rfl (Ai (Aj (Ab (Ad (Qx (oA rfl) rfl (Qm rfl (Ak ?_))))))))))))))))))
  exact Al (Z.dims.length - (k + 1)) _ (by omega) ⟨k + 1, rfl, rfl, Hp.le_trans lh l2, rfl, by omega, fun _ => hex⟩ Qs
 ·obtain rfl : k = Z.dims.length := by omega
  have hex := hex0 (by omega)
  refine Aw (Aa (Aa (Af (Ab (Ac (AW (n := 13) (bs := [true, false, false, false, false, false, false, false, false, false, false, false, false]) [true] Cd (by kernel_rfl) (by kernel_rfl) rfl rfl (Qq rfl ?_)))))))
  unfold CD
  simp only [List.cons_append, List.nil_append]
  refine Qo 1 rfl (Qm rfl (Qw (BH 2 49 (by kernel_rfl) rfl rfl rfl rfl rfl (Hp.le_refl _) rfl (oG rfl underlying30 Bz (Seg.any hS8)) (BH 3 50 (by kernel_rfl) rfl rfl rfl rfl rfl (Hp.le_refl _) rfl (As rfl rfl) (BH 4 51 (by kernel_rfl) rfl rfl rfl rfl rfl (Hp.le_refl _) rfl (As rfl rfl) (BH 5 52 (by kernel_rfl) rfl rfl rfl rfl rfl (Hp.le_refl _) rfl (AG rfl call24 rfl (hzr _ _ ha hb _)) (BH 6 53 (by kernel_rfl) rfl rfl rfl rfl rfl (Hp.le_refl _) rfl (oG rfl underlying30 Bz (Seg.any hS8)) (BH 7 54 (by kernel_rfl) rfl rfl rfl rfl rfl (Hp.le_refl _) rfl (As rfl rfl) (BH 8 55 (by kernel_rfl) rfl rfl rfl rfl rfl (Hp.le_refl _) rfl (As rfl rfl) (BH 9 56 (by kernel_rfl) rfl rfl rfl rfl rfl (Hp.le_refl _) rfl (AG rfl call25 rfl (Ds (MZ Z Z.D vdo vao _ _ hh hRt.ok hRZ (fun _ => Z.D_ok hex) ha hb) _)) (BH 10 57 (by kernel_rfl) rfl rfl rfl rfl rfl (Hp.le_refl _) rfl (GM (EJ rfl rfl rfl) (congrArg Value.bool (decide_eq_true rfl))) (Qo 11 rfl (Qm rfl (Qw (Qo 12 rfl (Qm rfl (Qw (Qe (Ab (Ao ?_))))))))))))))))))))
  exact Am rfl rfl rfl
end Go.Proofs.YtdnelknieikbaaaGreat
