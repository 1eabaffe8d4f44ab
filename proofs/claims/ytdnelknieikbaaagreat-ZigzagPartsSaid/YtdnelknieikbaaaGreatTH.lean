/- Parts of the proof: Yr Ys Yt Yu Yv Yw Lk. -/
import Derived.Test.YtdnelknieikbaaaGreatTG
import Derived.WalkArith
import Derived.Sort.LotA
set_option linter.unusedSimpArgs false
set_option linter.unusedVariables false
set_option maxRecDepth 100000
namespace Go.Proofs.YtdnelknieikbaaaGreat
open Go.Eng Go.RowKit Go.Lin
variable {k m i t N : Nat} {S S0 : Nat → SM} {Z : Zg}
section
variable (al : List Nat) (q : Nat) (top : Nat → Nat) (U : Nat → Nat → Int)
def stB (m : Nat) (l : Nat) : Bool := (List.range q).any fun t => decide (m ≤ top t ∧ al.getD (top t) 0 = l)
def vecU (l : Nat) : Nat → Int := U (((List.range q).find? fun t => decide (al.getD (top t) 0 = l)).getD 0)
def growB (k m : Nat) (S : Nat → SM) (l : Nat) : SM := if stB al q top m l then { S l with to := k + 1, v := fun j => if j = k + 1 then vecU al q top U l else (S l).v j } else S l
end
section
variable {al : List Nat} {q : Nat} {top : Nat → Nat} {U : Nat → Nat → Int}
theorem stB_iff {l : Nat} : stB al q top m l = true ↔ ∃ t, t < q ∧ m ≤ top t ∧ al.getD (top t) 0 = l := by
 unfold stB
 rw [List.any_eq_true]
 constructor
 ·rintro ⟨t, h1, h2⟩
  exact ⟨t, List.mem_range.1 h1, of_decide_eq_true h2⟩
 ·rintro ⟨t, h1, h2⟩
  exact ⟨t, List.mem_range.2 h1, decide_eq_true h2⟩
theorem getD_inj {l : List Nat} (hn : l.Nodup) {j : Nat} (hi : i < l.length) (hj : j < l.length) (h : l.getD i 0 = l.getD j 0) : i = j := by
 have e1 : l.getD i 0 = l[i] := by simp [List.getD, hi]
 have e2 : l.getD j 0 = l[j] := by simp [List.getD, hj]
 rw [e1, e2] at h
 exact nodup_at hn (a := l[i]) (List.getElem?_eq_getElem hi) (by rw [h]; exact List.getElem?_eq_getElem hj)
theorem vecU_at (hn : al.Nodup) (ht : ∀ t, t < q → top t < al.length) (hi : ∀ t t', t < q → t' < q → top t = top t' → t = t') (h : t < q) : vecU al q top U (al.getD (top t) 0) = U t := by
 unfold vecU
 congr 1
 cases hf : (List.range q).find? fun t' => decide (al.getD (top t') 0 = al.getD (top t) 0) with
 | none =>
  have := List.find?_eq_none.1 hf t (List.mem_range.2 h)
  simp at this
 | some t' =>
  have h1 := List.find?_some hf
  have h2 := List.mem_range.1 (List.mem_of_find?_eq_some hf)
  have h3 := of_decide_eq_true h1
  exact hi t' t h2 h (getD_inj hn (ht t' h2) (ht t h) h3)
theorem growB_not {l : Nat} (h : stB al q top m l = false) : growB al q top U k m S l = S l := by unfold growB; rw [h]; rfl
theorem growB_g (l : Nat) : (growB al q top U k m S l).g = (S l).g ∧ (growB al q top U k m S l).fr = (S l).fr := by
 unfold growB; split <;> exact ⟨rfl, rfl⟩
theorem stB_low (hn : al.Nodup) (ht : ∀ t, t < q → top t < al.length) (hi : i < m) (hl : i < al.length) : stB al q top m (al.getD i 0) = false := by
 cases h : stB al q top m (al.getD i 0) with
 | false => rfl
 | true =>
  obtain ⟨t, h1, h2, h3⟩ := stB_iff.1 h
  have := getD_inj hn (ht t h1) hl h3
  omega
theorem growB_adds {s : Nat} {p n : Int} (hs : stB al q top m s = false) (ht : stB al q top m t = false) : adds p n s t (growB al q top U k m S) = growB al q top U k m (adds p n s t S) := funext fun l => by
 have e1 := growB_not (U := U) (k := k) (S := S) hs
 have e2 := growB_not (U := U) (k := k) (S := S) ht
 by_cases h : l = s
 ·subst h
  rw [growB_not hs]
  unfold adds
  rw [if_pos rfl, if_pos rfl, e1, e2]
 ·have e3 : adds p n s t S l = S l := if_neg h
  have e4 : adds p n s t (growB al q top U k m S) l = growB al q top U k m S l := if_neg h
  rw [e4]
  unfold growB
  rw [e3]
theorem growB_top (hn : al.Nodup) (ht : ∀ t, t < q → top t < al.length) (hj : ∀ t t', t < q → t' < q → top t = top t' → t = t') (h : t < q) (hi : top t = i) (hk : (S (al.getD i 0)).to = k) : grows (al.getD i 0) (U t) (growB al q top U k (i + 1) S) = growB al q top U k i S := funext fun l => by
 have hil : i < al.length := hi ▸ ht t h
 have hlow : stB al q top (i + 1) (al.getD i 0) = false := stB_low hn ht (by omega) hil
 by_cases hl : l = al.getD i 0
 ·subst hl
  unfold grows
  rw [if_pos rfl, growB_not hlow, hk]
  unfold growB
  rw [if_pos (stB_iff.2 ⟨t, h, by omega, by rw [hi]⟩)]
  have := vecU_at (U := U) hn ht hj h
  rw [hi] at this
  rw [this]
 ·unfold grows
  rw [if_neg hl]
  unfold growB
  have e : stB al q top (i + 1) l = stB al q top i l := by
   rw [Bool.eq_iff_iff, stB_iff, stB_iff]
   constructor
   ·rintro ⟨t, h1, h2, h3⟩; exact ⟨t, h1, by omega, h3⟩
   ·rintro ⟨t', h1, h2, h3⟩
    refine ⟨t', h1, ?_, h3⟩
    rcases (by omega : i + 1 ≤ top t' ∨ top t' = i) with h4 | h4
    ·exact h4
    ·exact absurd (by rw [← h3, h4]) hl
  rw [e]
theorem growB_skip (hno : ∀ t, t < q → top t ≠ i) : growB al q top U k (i + 1) S = growB al q top U k i S := funext fun l => by
 unfold growB
 have e : stB al q top (i + 1) l = stB al q top i l := by
  rw [Bool.eq_iff_iff, stB_iff, stB_iff]
  constructor
  ·rintro ⟨t, h1, h2, h3⟩; exact ⟨t, h1, by omega, h3⟩
  ·rintro ⟨t', h1, h2, h3⟩
   have := hno t' h1
   exact ⟨t', h1, by omega, h3⟩
 rw [e]
theorem growB_start (ht : ∀ t, t < q → top t < al.length) (hm : al.length ≤ m) : growB al q top U k m S = S := funext fun l => growB_not (by
 cases h : stB al q top m l with
 | false => rfl
 | true =>
  obtain ⟨t, h1, h2, h3⟩ := stB_iff.1 h
  have := ht t h1
  omega)
end
structure Bw (Z : Zg) (k N : Nat) (S0 S : Nat → SM) (al : List Nat) (q : Nat) (top : Nat → Nat) (U : Nat → Nat → Int) (m : Nat) : Prop where
 val : Valid (Z.tr k) (dcOf N S)
 same : ∀ l, (S l).g = (S0 l).g ∧ (S l).fr = (S0 l).fr ∧ (S l).to = (S0 l).to
 bd : ∀ l, l < N → (S l).Bd Z.p Z.d
 low : ∀ i, i < m → i < al.length → S (al.getD i 0) = S0 (al.getD i 0)
 img : ∀ t, t < q → m ≤ top t → ∀ a, a < Z.d k → Cg Z.p (ap (Z.mat k) (Z.d (k + 1)) (U t) a) ((S (al.getD (top t) 0)).v k a)
theorem Bw.start {al en : List Nat} (M : Mch Z k N S al en) {q : Nat} {top : Nat → Nat} {U : Nat → Nat → Int} (ht : ∀ t, t < q → top t < al.length) : Bw Z k N S S al q top U al.length :=
 ⟨M.val, fun _ => ⟨rfl, rfl, rfl⟩, M.bd, fun _ _ _ => rfl, fun t h1 h2 => by have := ht t h1; omega⟩
theorem Bw.skip {al : List Nat} {q : Nat} {top : Nat → Nat} {U : Nat → Nat → Int} (W : Bw Z k N S0 S al q top U (i + 1)) (hno : ∀ t, t < q → top t ≠ i) : Bw Z k N S0 S al q top U i :=
 ⟨W.val, W.same, W.bd, fun j hj => W.low j (by omega), fun t h1 h2 => W.img t h1 (by have := hno t h1; omega)⟩
theorem Bw.step {S' : Nat → SM} {al : List Nat} {q : Nat} {top : Nat → Nat} {X U : Nat → Nat → Int} (W : Bw Z k N S0 S al q top U (i + 1)) (hn : al.Nodup) (hil : i < al.length) (h : t < q) (hti : top t = i) (htl : ∀ t, t < q → top t < al.length) (hj : ∀ t t', t < q → t' < q → top t = top t' → t = t')
  (hX1 : X t i = 1) (hX0 : ∀ j, i < j → j < al.length → X t j = 0) (I : FwI Z k N S S' al (al.getD i 0) (fun j => Z.p - X t j) i)
  (hU : ∀ a, a < Z.d k → Cg Z.p (ap (Z.mat k) (Z.d (k + 1)) (U t) a) (ap (fun a j => (S0 (al.getD j 0)).v k a) al.length (X t) a)) : Bw Z k N S0 S' al q top U i := by
 have hne : ∀ j, j < al.length → j ≠ i → al.getD j 0 ≠ al.getD i 0 := fun j h1 h2 h3 => h2 (getD_inj hn h1 hil h3)
 refine ⟨I.val, fun l => ?_, I.bd, fun j hji hjl => ?_, fun t' h1 h2 a ha => ?_⟩
 ·have h1 := I.same l
  have h2 := W.same l
  exact ⟨h1.1.trans h2.1, h1.2.1.trans h2.2.1, h1.2.2.trans h2.2.2⟩
 ·rw [I.other _ (hne j hjl (by omega))]; exact W.low j (by omega) hjl
 ·by_cases h3 : top t' = i
  ·have : t' = t := hj t' t h1 h (by omega)
   subst this
   rw [h3]
   refine (hU a ha).trans (Cg.trans ?_ (I.sum a ha).symm)
   rw [W.low i (by omega) hil]
   refine Cg.of_eq ?_
   obtain ⟨d, hd⟩ : ∃ d, al.length = i + 1 + d := ⟨al.length - (i + 1), by omega⟩
   unfold ap
   rw [hd, sm_split (i + 1) d]
   have e1 : (sm d fun j => (S0 (al.getD (i + 1 + j) 0)).v k a * X t' (i + 1 + j)) = 0 := sm_zero' fun j hjd => by rw [hX0 (i + 1 + j) (by omega) (by omega), Int.mul_zero]
   rw [e1, Int.add_zero]
   show (sm i fun j => (S0 (al.getD j 0)).v k a * X t' j) + (S0 (al.getD i 0)).v k a * X t' i = _
   rw [hX1, Int.mul_one, Int.add_comm]
   congr 1
   exact sm_congr fun j hji => by
    rw [W.low j (by omega) (by omega), Int.mul_comm]
    congr 1
    omega
  ·rw [I.other _ (hne (top t') (htl t' h1) h3)]
   exact W.img t' h1 (by omega) a ha
theorem kerf_ok {p : Int} (hp : 2 ≤ p) {r c : Nat} {f F : Nat → Nat → Int} {pv : List Nat} (R : Red p r c f F pv c) {n : Nat} (hn : n + pv.length = c) : (Ind p n tt c fun s a => kerf pv p F c a s) ∧ (∀ s, s < n → ∀ i, i < r → Cg p (ap f c (fun a => kerf pv p F c a s) i) 0) ∧ ∀ s, s < n → ∀ a, a < c → 0 ≤ kerf pv p F c a s ∧ kerf pv p F c a s < p := by
 have hfl : (frl pv c).length = n := by
  have := frl_all R.sorted R.mem_lt
  omega
 have hmem : ∀ s, s < n → (frl pv c).getD s 0 < c ∧ (frl pv c).getD s 0 ∉ pv := fun s hs => by
  have : (frl pv c).getD s 0 ∈ frl pv c := by simp [List.getD, show s < (frl pv c).length by omega]
  exact frl_mem.1 this
 refine ⟨fun x hx s hs _ => ?_, fun s hs i hi => ?_, fun s hs a ha => ?_⟩
 ·have h1 := hx ((frl pv c).getD s 0) (hmem s hs).1
  rw [comb_tt, sm_one n s _ hs fun t ht hne => ?_] at h1
  ·unfold kerf kcol at h1
   rw [if_pos rfl, Int.mul_one] at h1
   unfold Cg at h1; rwa [Int.sub_zero] at h1
  ·unfold kerf kcol
   rw [if_neg, if_neg, Int.mul_zero]
   ·exact fun h => (hmem s hs).2 (List.idxOf_lt_length_iff.1 h)
   ·intro h
    exact hne (getD_inj (frl_nodup pv c) (by omega) (by omega) h.symm)
 ·obtain ⟨hjc, hjp⟩ := hmem s hs
  refine (R.ker fun a => kerf pv p F c a s).1 (fun i hi => ?_) i hi
  have e : ∀ a, kerf pv p F c a s = (if a = (frl pv c).getD s 0 then 1 else 0) + piv pv (fun k => (p - F k ((frl pv c).getD s 0)) % p) a := fun a => by
   unfold kerf kcol piv
   by_cases h1 : a = (frl pv c).getD s 0
   ·rw [if_pos h1, if_pos h1, if_neg, Int.add_zero]
    rw [h1]; exact fun h => hjp (List.idxOf_lt_length_iff.1 h)
   ·rw [if_neg h1, if_neg h1, Int.zero_add]
  have e2 : ap F c (fun a => kerf pv p F c a s) i = F i ((frl pv c).getD s 0) + if i < pv.length then (p - F i ((frl pv c).getD s 0)) % p else 0 := by
   rw [show (fun a => kerf pv p F c a s) = fun a => (if a = (frl pv c).getD s 0 then 1 else 0) + piv pv (fun k => (p - F k ((frl pv c).getD s 0)) % p) a from funext e, ap_add, ap_one F c hjc, pivot_sum R _ hi]
  rw [e2]
  split
  ·have h1 : Cg p (F i ((frl pv c).getD s 0) + (p - F i ((frl pv c).getD s 0)) % p) (F i ((frl pv c).getD s 0) + (p - F i ((frl pv c).getD s 0))) := (Cg.refl _ _).add (Cg.mod _ _)
   refine h1.trans ?_
   rw [show F i ((frl pv c).getD s 0) + (p - F i ((frl pv c).getD s 0)) = p by omega]
   exact Cg.self p
  ·rename_i hl
   rw [R.low i hi (by omega) _ hjc]; exact Cg.refl _ _
 ·unfold kerf kcol
  split
  ·omega
  ·split
   ·exact ⟨Int.emod_nonneg _ (by omega), Int.emod_lt_of_pos _ (by omega)⟩
   ·omega
theorem Bw.done (Fp : Lin.Fld Z.p) (hp : 2 ≤ Z.p) {nb q : Nat} {al en : List Nat} {top : Nat → Nat} {U K : Nat → Nat → Int} {gb : Nat → Nat} (M : Mch Z k N S0 al en) (W : Bw Z k N S0 S al q top U 0) (hbk : Z.back k = true) (htl : ∀ t, t < q → top t < al.length) (hj : ∀ t t', t < q → t' < q → top t = top t' → t = t')
  (hK : (Ind Z.p nb tt (Z.d (k + 1)) K) ∧ (∀ s, s < nb → ∀ i, i < Z.d k → Cg Z.p (ap (Z.mat k) (Z.d (k + 1)) (K s) i) 0) ∧ ∀ s, s < nb → ∀ a, a < Z.d (k + 1) → 0 ≤ K s a ∧ K s a < Z.p) (hc : nb + q = Z.d (k + 1)) (hUb : ∀ t, t < q → ∀ i, i < Z.d (k + 1) → 0 ≤ U t i ∧ U t i < Z.p) :
  Mch Z (k + 1) (N + nb) (bornN N k gb K (growB al q top U k 0 S)) (List.range' N nb ++ al.filter (stB al q top 0)) (en ++ al.filter fun l => !stB al q top 0 l) := by
 have hnd := M.nodup
 have hst : (al.filter (stB al q top 0)).Nodup := hnd.sublist List.filter_sublist
 have hmem : ∀ l, l ∈ al.filter (stB al q top 0) ↔ ∃ t, t < q ∧ al.getD (top t) 0 = l := fun l => by
  rw [List.mem_filter]
  constructor
  ·rintro ⟨_, h⟩
   obtain ⟨t, h1, _, h3⟩ := stB_iff.1 h
   exact ⟨t, h1, h3⟩
  ·rintro ⟨t, h1, h3⟩
   exact ⟨by rw [← h3]; exact getD_mem (htl t h1), stB_iff.2 ⟨t, h1, by omega, h3⟩⟩
 have hlen : (al.filter (stB al q top 0)).length = q := by
  have hp2 : (al.filter (stB al q top 0)).Perm ((List.range q).map fun t => al.getD (top t) 0) := by
   refine (List.perm_ext_iff_of_nodup hst ?_).2 fun l => ?_
   ·rw [List.nodup_iff_pairwise_ne, List.pairwise_map]
    refine List.Pairwise.imp_of_mem (R := (· < ·)) (fun {a b} ha hb hab h => ?_) List.pairwise_lt_range
    have h1 := hj a b (List.mem_range.1 ha) (List.mem_range.1 hb) (getD_inj hnd (htl a (List.mem_range.1 ha)) (htl b (List.mem_range.1 hb)) h)
    omega
   ·rw [hmem, List.mem_map]
    constructor
    ·rintro ⟨t, h1, h2⟩; exact ⟨t, List.mem_range.2 h1, h2⟩
    ·rintro ⟨t, h1, h2⟩; exact ⟨t, List.mem_range.1 h1, h2⟩
  have := hp2.length_eq
  simpa using this
 obtain ⟨st, hste⟩ : ∃ st, st = al.filter (stB al q top 0) := ⟨_, rfl⟩
 rw [← hste] at hst hmem hlen ⊢
 have hsub : st.Sublist al := by rw [hste]; exact List.filter_sublist
 have hgr : growB al q top U k 0 S = growN k (fun t => vecU al q top U (st.getD t 0)) st st.length S := funext fun l => by
  unfold growB growN
  rw [List.take_length]
  by_cases h : l ∈ st
  ·have h1 : stB al q top 0 l = true := by rw [hste] at h; exact (List.mem_filter.1 h).2
   rw [if_pos h1, if_pos h]
   have h2 : st.getD (st.idxOf l) 0 = l := by
    simp [List.getD, List.idxOf_lt_length_iff.2 h]
   simp only [h2]
  ·have h1 : ¬ stB al q top 0 l = true := fun h2 => h ((hmem l).2 (by
    obtain ⟨t, h3, _, h4⟩ := stB_iff.1 h2
    exact ⟨t, h3, h4⟩))
   rw [if_neg h1, if_neg h]
 have hwt : ∀ l, l ∈ st → (fun t => vecU al q top U (st.getD t 0)) (st.idxOf l) = vecU al q top U l := fun l h => by
  have h2 : st.getD (st.idxOf l) 0 = l := by simp [List.getD, List.idxOf_lt_length_iff.2 h]
  show vecU al q top U (st.getD (st.idxOf l) 0) = _
  rw [h2]
 have hUof : ∀ l ∈ st, ∃ t, t < q ∧ al.getD (top t) 0 = l ∧ vecU al q top U l = U t := fun l h => by
  obtain ⟨t, h1, h2⟩ := (hmem l).1 h
  exact ⟨t, h1, h2, by rw [← h2]; exact vecU_at hnd htl hj h1⟩
 have hstN : ∀ l ∈ st, l < N ∧ (S l).to = k := fun l h => ⟨M.lt (hsub.subset h), by rw [(W.same l).2.2]; exact M.live l (hsub.subset h)⟩
 rw [hgr]
 have hallen : (List.range' N nb ++ st).length = nb + q := by rw [List.length_append, List.length_range', hlen]
 refine mch_next (st := st) (de := al.filter fun l => !stB al q top 0 l) (w := fun t => vecU al q top U (st.getD t 0)) (u := K) M W.val W.same W.bd hsub ?_ _ List.perm_append_comm ?_ (hallen.trans hc) (fun h => by rw [hbk] at h; cases h) (fun _ => ⟨fun l hl i hi => ?_, hK.2.1⟩) (fun t ht i hi => ?_) hK.2.2 ?_
 ·rw [hste]; exact List.filter_append_perm _ al
 ·-- independent
  rw [hallen]
  intro x hx
  have hbg : ∀ b, b < nb → (List.range' N nb ++ st).getD b 0 = N + b := fun b hb => by
   simp [List.getD, List.getElem?_append_left (show b < (List.range' N nb).length by simpa using hb), hb]
  have hsg : ∀ t, (List.range' N nb ++ st).getD (nb + t) 0 = st.getD t 0 := fun t => by
   simp [List.getD, List.getElem?_append_right (show (List.range' N nb).length ≤ nb + t by simp)]
  have hsum : ∀ a, comb (nb + q) tt x (fun t => newW N st (fun t => vecU al q top U (st.getD t 0)) K ((List.range' N nb ++ st).getD t 0)) a = comb nb tt x K a + sm q fun t => x (nb + t) * vecU al q top U (st.getD t 0) a := fun a => by
   rw [comb_tt, comb_tt, sm_split]
   congr 1
   ·refine sm_congr fun b hb => ?_
    rw [hbg b hb]
    unfold newW
    rw [if_neg (by omega), Nat.add_sub_cancel_left]
   ·refine sm_congr fun t ht => ?_
    have hm : st.getD t 0 ∈ st := getD_mem (by omega)
    rw [hsg t]
    unfold newW
    rw [if_pos (hstN _ hm).1, hwt _ hm]
  -- what the matrix makes of it
  have hq0 : ∀ t, t < q → Z.p ∣ x (nb + t) := by
   have hI := W.val.ind k (show k < k + 1 by omega)
   have hkey := hI (fun l => if l ∈ st then x (nb + st.idxOf l) else 0) (fun i hi => ?_)
   ·intro t ht
    have hm : st.getD t 0 ∈ st := getD_mem (by omega)
    have h1 := hkey (st.getD t 0) (hstN _ hm).1 (Dc.on_iff.2 ⟨by
     have h2 := (W.val.ends _ (hstN _ hm).1).1
     have h3 : (S (st.getD t 0)).fr ≤ (S (st.getD t 0)).to := h2
     rw [(hstN _ hm).2] at h3; exact h3, by show k ≤ (S (st.getD t 0)).to; rw [(hstN _ hm).2]; omega⟩)
    rwa [if_pos hm, idxOf_getD hst (by omega)] at h1
   ·have h0 : Cg Z.p (ap (Z.mat k) (Z.d (k + 1)) (comb (nb + q) tt x (fun t => newW N st (fun t => vecU al q top U (st.getD t 0)) K ((List.range' N nb ++ st).getD t 0))) i) 0 := (ap_cg (fun a ha => hx a ha) i).trans (Cg.of_eq (ap_zero _ _ _))
    rw [show (comb (nb + q) tt x (fun t => newW N st (fun t => vecU al q top U (st.getD t 0)) K ((List.range' N nb ++ st).getD t 0))) = fun a => comb nb tt x K a + sm q fun t => x (nb + t) * vecU al q top U (st.getD t 0) a from funext hsum, ap_add] at h0
    have h1 : Cg Z.p (ap (Z.mat k) (Z.d (k + 1)) (comb nb tt x K) i) 0 := by
     rw [ap_comb]
     refine Cg.trans (Cg.sm (g := fun _ => 0) fun b hb => ?_) (Cg.of_eq (sm_zero nb))
     rw [if_pos rfl]
     have := (Cg.refl Z.p (x b)).mul (hK.2.1 b hb i hi)
     rwa [Int.mul_zero] at this
    have h2 : Cg Z.p (ap (Z.mat k) (Z.d (k + 1)) (fun a => sm q fun t => x (nb + t) * vecU al q top U (st.getD t 0) a) i) (sm q fun t => x (nb + t) * (S (st.getD t 0)).v k i) := by
     have e1 : ap (Z.mat k) (Z.d (k + 1)) (fun a => sm q fun t => x (nb + t) * vecU al q top U (st.getD t 0) a) i = sm q fun t => x (nb + t) * ap (Z.mat k) (Z.d (k + 1)) (vecU al q top U (st.getD t 0)) i := by
      have := ap_comb (Z.mat k) (Z.d (k + 1)) q tt (fun t => x (nb + t)) (fun t => vecU al q top U (st.getD t 0)) i
      rw [show ap (Z.mat k) (Z.d (k + 1)) (comb q tt (fun t => x (nb + t)) fun t => vecU al q top U (st.getD t 0)) i = ap (Z.mat k) (Z.d (k + 1)) (fun a => sm q fun t => x (nb + t) * vecU al q top U (st.getD t 0) a) i from sm_congr fun j _ => by rw [comb_tt]] at this
      rw [this]
      exact sm_congr fun t _ => if_pos rfl
     rw [e1]
     refine Cg.sm fun t ht => (Cg.refl _ _).mul ?_
     obtain ⟨t', h3, h4, h5⟩ := hUof _ (getD_mem (show t < st.length by omega))
     rw [h5, ← h4]
     exact W.img t' h3 (by omega) i hi
    have h3 : Cg Z.p (sm q fun t => x (nb + t) * (S (st.getD t 0)).v k i) 0 := by
     have h4 := h0.sub h1
     rw [show ap (Z.mat k) (Z.d (k + 1)) (comb nb tt x K) i + ap (Z.mat k) (Z.d (k + 1)) (fun a => sm q fun t => x (nb + t) * vecU al q top U (st.getD t 0) a) i - ap (Z.mat k) (Z.d (k + 1)) (comb nb tt x K) i = ap (Z.mat k) (Z.d (k + 1)) (fun a => sm q fun t => x (nb + t) * vecU al q top U (st.getD t 0) a) i by omega, Int.sub_zero] at h4
     exact h2.symm.trans h4
    refine Cg.trans (Cg.of_eq ?_) h3
    -- as a sum over all strands
    show comb N ((dcOf N S).on k) (fun l => if l ∈ st then x (nb + st.idxOf l) else 0) (fun l => (S l).v k) i = _
    have hson : ∀ l, l ∈ st → (dcOf N S).on k l = true := fun l h => Dc.on_iff.2 ⟨by
     have h2 := (W.val.ends _ (hstN _ h).1).1
     have h3 : (S l).fr ≤ (S l).to := h2
     rw [(hstN _ h).2] at h3; exact h3, by show k ≤ (S l).to; rw [(hstN _ h).2]; omega⟩
    have e2 : comb N ((dcOf N S).on k) (fun l => if l ∈ st then x (nb + st.idxOf l) else 0) (fun l => (S l).v k) i = sm N fun l => if decide (l ∈ st) then x (nb + st.idxOf l) * (S l).v k i else 0 := sm_congr fun l _ => by
     show (if (dcOf N S).on k l then (if l ∈ st then x (nb + st.idxOf l) else 0) * (S l).v k i else 0) = _
     by_cases h : l ∈ st
     ·rw [hson l h, if_pos h, if_pos rfl, if_pos (decide_eq_true h)]
     ·have e3 : (if decide (l ∈ st) = true then x (nb + st.idxOf l) * (S l).v k i else 0) = 0 := if_neg (by simpa using h)
      rw [e3, if_neg h, Int.zero_mul]; split <;> rfl
    rw [e2, lsm_sel N (fun l => decide (l ∈ st)) fun l => x (nb + st.idxOf l) * (S l).v k i]
    have hps : st.Perm (sel N fun l => decide (l ∈ st)) := sel_perm hst fun l => ⟨fun h => ⟨(hstN l h).1, decide_eq_true h⟩, fun h => of_decide_eq_true h.2⟩
    rw [← lsm_perm hps, lsm_sm, hlen]
    exact sm_congr fun t ht => by rw [idxOf_getD hst (by omega)]
  have hn0 : ∀ b, b < nb → Z.p ∣ x b := fun b hb => hK.1 x (fun a ha => by
   have h1 := hx a ha
   rw [hsum a] at h1
   have h2 : Cg Z.p (sm q fun t => x (nb + t) * vecU al q top U (st.getD t 0) a) 0 := by
    refine Cg.trans (Cg.sm (g := fun _ => 0) fun t ht => ?_) (Cg.of_eq (sm_zero q))
    unfold Cg; rw [Int.sub_zero]; exact Int.dvd_mul_of_dvd_left (hq0 t ht)
   have h3 := h1.sub h2
   rwa [Int.add_sub_cancel, Int.sub_zero] at h3) b hb rfl
  intro l hl _
  rcases Nat.lt_or_ge l nb with h | h
  ·exact hn0 l h
  ·have := hq0 (l - nb) (by omega)
   rwa [show nb + (l - nb) = l by omega] at this
 ·obtain ⟨t, h1, h2, h3⟩ := hUof l hl
  have hwl : vecU al q top U (st.getD (st.idxOf l) 0) = vecU al q top U l := hwt l hl
  rw [hwl, h3, ← h2]
  exact W.img t h1 (by omega) i hi
 ·obtain ⟨t', h1, h2, h3⟩ := hUof _ (getD_mem ht)
  show 0 ≤ vecU al q top U (st.getD t 0) i ∧ vecU al q top U (st.getD t 0) i < Z.p
  rw [h3]
  exact hUb t' h1 i hi
 ·refine List.pairwise_append.2 ⟨?_, ?_, fun a ha b hb => ?_⟩
  ·refine List.Pairwise.imp_of_mem (R := fun _ _ => True) (fun {a b} ha hb _ => .inr (.inl ⟨(List.mem_range'_1.1 ha).1, (List.mem_range'_1.1 hb).1⟩)) ?_
   exact List.pairwise_of_forall fun _ _ => trivial
  ·refine (M.ord.sublist hsub).imp_of_mem fun {a b} ha hb h => .inl ⟨M.lt (hsub.subset ha), M.lt (hsub.subset hb), h⟩
  ·exact .inr (.inr (.inr ⟨(List.mem_range'_1.1 ha).1, M.lt (hsub.subset hb), hbk⟩))
end Go.Proofs.YtdnelknieikbaaaGreat
namespace Go.Proofs.YtdnelknieikbaaaGreat
open Tryz
open Go.Eng Go.RowKit Go.Lin
def encB (n : Nat) (vs : List Value) (k : Nat) : List Value := [.int .i64 ((n : Int) - 1 - k), vs.getD (n - 1 - k) undef]
theorem back_itr (g n : Nat) (v : Value) (vs : List Value) (h : Hp) (hG : Seg h [] ⟨g, 0, none⟩ [v]) (hR : RdL cV 1 h [] v vs) (hn : vs.length = n) (hn2 : n ≤ 1000000) : Itr Tryz.prog 134 [.pointer (some ⟨g, 0, none⟩)] h n (encB n vs) := by
 intro lp X h1 ms hl hY h0
 show FnT _ _ #[.func (.yield lp) #[] #[], .pointer (some ⟨g, 0, none⟩)] _ _ _
 have hG := hG.le hl
 have hR := hR.up hl
 have hRn : ∀ h', h1.le h' → Rd h' [] v 1 n (vs.flatMap cV) := fun h' l => by
  have := (hR.up l).rd
  rwa [hn] at this
 refine fn_enter func134 ntmps134 rfl rfl (fun w0 hw0 => ?_)
 simp only [argS]
 refine ws_seq (ws_regionI (il_x (ox_load rfl underlying106 rfl rfl ((hG.at0 rfl).any)) rfl rfl rfl (il_x (ox_lenR (hRn _ (Hp.le_refl _)).any rfl underlying106 rfl) rfl rfl rfl (il_x (ox_sub rfl rfl rfl (by omega)) rfl rfl rfl (il_x (ox_assign rfl rfl) rfl rfl rfl (il_nil (nx_then (ws_block ?_))))))))
 refine ws_loop (fun q s hh ms' => ∃ (k : Nat), q = n - k ∧ s = [(0, .func (.yield lp) #[] #[]), (1, .pointer (some ⟨g, 0, none⟩)), (3, .int .i64 ((n : Int) - 1 - k))] ∧ h1.le hh ∧ k ≤ n ∧ X k hh ms')
  (n - 0) [(0, .func (.yield lp) #[] #[]), (1, .pointer (some ⟨g, 0, none⟩)), (3, .int .i64 ((n : Int) - 1))] ⟨0, rfl, by rw [show ((n : Int) - 1 - (0 : Nat)) = (n : Int) - 1 by omega], Hp.le_refl _, by omega, h0⟩ Qs ?_
 rintro q s hh ms' ⟨k, rfl, rfl, lh, hk, hX⟩
 refine ws_seq (ws_seq (ws_regionI (il_x (ox_move rfl rfl) rfl rfl rfl (il_x (ox_geq rfl rfl rfl) rfl rfl rfl (il_nil (nx_then ?_))))))
 refine ws_if rfl (fun hlt => ?_) (fun hlt => ?_)
 ·have hkn : k < n := by omega
  have hG2 := hG.le lh
  have hR2 := hR.up lh
  have hi : n - 1 - k < vs.length := by omega
  have hc : ∀ ms, Cell hh ms ((vbase v).add ((n - 1 - k) * 1)) (vs.getD (n - 1 - k) undef) := fun ms => by
   rw [es_getD hi]; exact hR2.any.cell0 hi rfl
  refine ws_skip (nx_then (ws_seq (ws_block (ws_seq (ws_regionI (il_x (ox_move rfl rfl) rfl rfl rfl (il_x (ox_move rfl rfl) rfl rfl rfl (il_x (ox_load rfl underlying106 rfl rfl ((hG2.at0 rfl).any)) rfl rfl rfl (il_x (ox_move rfl rfl) rfl rfl rfl (il_x (ox_indexR (n - 1 - k) (hRn _ lh).any rfl underlying106 el108 rfl rfl (by omega) (by omega)) rfl rfl rfl (il_x (ox_load rfl underlying108 rfl rfl (hc _)) rfl rfl rfl (il_yield rfl rfl rfl (hY k hh ms' hkn lh hX) rfl rfl rfl (fun r h2 ms2 l2 hr => ?_)))))))))))))
  obtain ⟨rfl, hX2⟩ := hr
  refine il_x (ox_not rfl rfl) rfl rfl rfl (il_nil (nx_then (ws_cond_f rfl (ws_skip (nx_block (nx_then (ws_regionI (il_x (ox_move rfl rfl) rfl rfl rfl (il_x (ox_sub rfl rfl rfl (by omega)) rfl rfl rfl (il_x (ox_assign rfl rfl) rfl rfl rfl (il_nil ?_)))))))))))
  refine nx_round (n - (k + 1)) [(0, .func (.yield lp) #[] #[]), (1, .pointer (some ⟨g, 0, none⟩)), (3, .int .i64 ((n : Int) - 1 - k - 1))] (by omega) ⟨k + 1, rfl, by rw [show ((n : Int) - 1 - k - 1) = (n : Int) - 1 - (k + 1 : Nat) by omega], Hp.le_trans lh l2, by omega, hX2⟩ Qs
 ·obtain rfl : k = n := by omega
  refine ws_exit (nx_then_exit (nx_then_exit (nx_block_exit ?_)))
  exact nx_end0 rfl (hX)
theorem backward_v (v : Value) (n : Nat) (cs : List Value) (h : Hp) (hR : Rd h [] v 1 n cs) : FnT Tryz.prog 109 #[v] h [] (fun r h' ms' => h = h' ∧ ∃ g, r = .func (.func 134) #[] #[.pointer (some ⟨g, 0, none⟩)] ∧ ms' = [Blk g 106 [v]]) := by
 refine fn_enter func109 ntmps109 rfl rfl (fun w0 hw0 => ?_)
 simp only [argS]
 refine RsQ (wl_box [_] rfl rfl (Rd.cells ‹_›) rfl rfl rfl (fun g1 => Qm rfl (RtQ (Qx (ox_makeFunc rfl rfl rfl) rfl (Qm rfl (RnQ (ws_ret ?_)))))))
 exact nx_ret1 rfl rfl (⟨rfl, _, rfl, rfl⟩)
end Go.Proofs.YtdnelknieikbaaaGreat
namespace Go.Proofs.YtdnelknieikbaaaGreat
open Tryz
open Go.Eng Go.RowKit Go.Lin
def idxN (n : Nat) (pr : Nat → Bool) : Int := match (List.range n).find? pr with | some k => k | none => -1
theorem idxN_some {n k : Nat} {pr : Nat → Bool} (hk : k < n) (h : pr k = true) (hno : ∀ j, j < k → pr j = false) : idxN n pr = k := by
 unfold idxN
 have : (List.range n).find? pr = some k := by
  rw [List.find?_range_eq_some]
  exact ⟨h, List.mem_range.2 hk, fun j hj => by rw [hno j hj]; rfl⟩
 rw [this]
theorem idxN_none {n : Nat} {pr : Nat → Bool} (hno : ∀ j, j < n → pr j = false) : idxN n pr = -1 := by
 unfold idxN
 have : (List.range n).find? pr = none := List.find?_eq_none.2 fun j hj => by rw [hno j (List.mem_range.1 hj)]; simp
 rw [this]
theorem indexV_ok (n d : Nat) (w : Nat → Nat → Int) (vl : Value) (cf : FuncId) (cs : List Value) (pr : Nat → Bool) (h : Hp) (hR : RdV h vl n d w) (hn : n ≤ 100000)
  (hc : ∀ xs w, (callFunc cf xs).run Tryz.prog w = .ok (.enter cf xs) w)
  (hp : ∀ k v, k < n → RdL cI 1 h [] v (vec d (w k)) → ∀ ms, FnV Tryz.prog cf ([] ++ [v] ++ cs).toArray h ms (.bool (pr k))) :
  FnT Tryz.prog 110 #[vl, .func (.func cf) #[] cs.toArray] h [] (fun r _ _ => r = .int .i64 (idxN n pr)) := by
 obtain ⟨vs, hvs, hRv, hRs⟩ := hR
 have hRn : Rd h [] vl 1 n (vs.flatMap cV) := by have := hRv.rd; rwa [hvs] at this
 refine fn_enter func110 ntmps110 rfl rfl (fun w0 hw0 => ?_)
 simp only [argS]
 refine RsQ (Qm rfl (RnQ (ws_seq (RsQ (Qm rfl (Qx (ox_lenR hRn.any rfl underlying62 rfl) rfl (Qm rfl (RnQ (ws_block ?_)))))))))
 refine ws_loop (fun q s h' ms' => ∃ (k : Nat), q = n - k ∧ s = [(0, vl), (1, .func (.func cf) #[] cs.toArray), (7, .int .i64 n), (8, .int .i64 k)] ∧ h = h' ∧ ms' = [] ∧ k ≤ n ∧ ∀ j, j < k → pr j = false)
  (n - 0) _ ⟨0, rfl, rfl, rfl, rfl, by omega, fun j hj => by omega⟩ Qs ?_
 rintro q s h' ms' ⟨k, rfl, rfl, rfl, rfl, hk, hno⟩
 refine RsQ (Qx (ox_lss rfl rfl rfl) rfl (RnQ (ws_seq ?_)))
 refine ws_if rfl (fun hlt => ?_) (fun hlt => ?_)
 ·have hkn : k < n := by omega
  have hkv : k < vs.length := by omega
  refine ws_skip (nx_then (ws_seq (ws_block (RsQ (Qm rfl (Qm rfl (RtQ (Qm rfl (Qm rfl (Qm rfl (Qx (ox_indexR _ hRn.any rfl underlying62 el24 rfl rfl rfl (by omega)) rfl (Qx (ox_load rfl underlying24 rfl rfl (hRv.any.cell0 hkv rfl)) rfl (Qx (ox_callv rfl rfl hc rfl (hp k _ hkn (hRs k hkv) _)) rfl (RnQ ?_))))))))))))))
  refine ws_cond rfl (fun hpk => ?_) (fun hpk => ?_)
  ·refine ws_seq (ws_region (Qm rfl (Qm rfl (RnQ (ws_ret (nx_block_ret (nx_then_ret (nx_then_ret (nx_block_ret (nx_then_ret ?_))))))))))
   exact nx_ret1 rfl rfl (by rw [idxN_some hkn hpk hno])
  ·refine ws_skip (nx_block (nx_then (ws_region (Qx (ox_add rfl rfl rfl (by omega)) rfl (Qm rfl (wl_nil ?_))))))
   refine nx_round (n - (k + 1)) _ (by omega) ⟨k + 1, rfl, rfl, rfl, rfl, by omega, fun j hj => ?_⟩ Qs
   rcases (by omega : j < k ∨ j = k) with h2 | rfl
   ·exact hno j h2
   ·exact hpk
 ·refine ws_exit (nx_then_exit (nx_then_exit (nx_block_exit (nx_then (RsQ (Qm rfl (RnQ (ws_ret ?_))))))))
  exact nx_ret1 rfl rfl (by rw [idxN_none fun j hj => hno j (by omega)])
def leads (r : Nat) (x : Nat → Int) (i : Nat) : Bool := decide (x i ≠ 0) && (List.range r).all fun j => decide (i < j → x j = 0)
theorem leads_iff {r i : Nat} {x : Nat → Int} : leads r x i = true ↔ x i ≠ 0 ∧ ∀ j, i < j → j < r → x j = 0 := by
 unfold leads
 rw [Bool.and_eq_true, decide_eq_true_iff, List.all_eq_true]
 exact ⟨fun ⟨h1, h2⟩ => ⟨h1, fun j h3 h4 => of_decide_eq_true (h2 j (List.mem_range.2 h4)) h3⟩, fun ⟨h1, h2⟩ => ⟨h1, fun j hj => decide_eq_true fun h3 => h2 j h3 (List.mem_range.1 hj)⟩⟩
theorem leads_v (r i : Nat) (x : Nat → Int) (v : Value) (g : Nat) (h : Hp) (hr : r ≤ 100000) (hi : i < r) (hR : RdL cI 1 h [] v (vec r x)) (hG : Seg h [] ⟨g, 0, none⟩ [.int .i64 i]) (ms : List Hp) :
  FnV Tryz.prog 111 ([] ++ [v] ++ [Value.pointer (some ⟨g, 0, none⟩)]).toArray h ms (.bool (leads r x i)) := by
 refine fnv ?_ ms
 show FnT _ _ #[v, .pointer (some ⟨g, 0, none⟩)] _ _ _
 have hRn : Rd h [] v 1 r ((vec r x).flatMap cI) := by have := hR.rd; rwa [vec_len] at this
 have hcell : ∀ ms, Cell h ms ((vbase v).add (i * 1)) (.int .i64 (x i)) := fun ms => (hR.any (ms := ms)).ev hi
 have hsub := hR.sub_ (i := i + 1) (j := r) (by omega) (by rw [vec_len]; omega)
 have hz : (∀ y ∈ ((vec r x).drop (i + 1)).take (r - (i + 1)), y = 0) ↔ ∀ j, i < j → j < r → x j = 0 := by
  have e : ((vec r x).drop (i + 1)).take (r - (i + 1)) = (vec r x).drop (i + 1) := List.take_of_length_le (by simp [vec])
  rw [e]
  constructor
  ·intro h j h1 h2
   have hm : x j ∈ (vec r x).drop (i + 1) := by
    refine List.mem_iff_getElem.2 ⟨j - (i + 1), by simp [vec]; omega, ?_⟩
    rw [List.getElem_drop]
    simp [vec, show i + 1 + (j - (i + 1)) = j by omega]
   exact h _ hm
  ·intro h y hy
   obtain ⟨j, hj, rfl⟩ := List.mem_iff_getElem.1 hy
   rw [List.getElem_drop]
   simp [vec] at hj ⊢
   exact h _ (by omega) (by omega)
 refine fn_enter func111 ntmps111 rfl rfl (fun w0 hw0 => ?_)
 simp only [argS]
 refine RsQ (Qm rfl (RtQ (Qm rfl (Qx (ox_load rfl underlying3 rfl rfl ((hG.at0 rfl).any)) rfl (Qx (ox_indexR (i) hRn.any rfl underlying24 el3 rfl rfl (by omega) (by omega)) rfl (Qx (ox_load rfl underlying3 rfl rfl (hcell _)) rfl (Qx (ox_nei rfl rfl rfl) rfl (Qm rfl ?_))))))))
 refine wl_split (t := 9) rfl (fun hs => ?_) (fun hs => ?_)
 ·refine Qg (ox_move rfl rfl) rfl (Qg (ox_load rfl underlying3 rfl rfl ((hG.at0 rfl).any)) rfl (Qg (ox_add rfl rfl rfl (by omega)) rfl (Qg (ox_sliceR_l (i + 1) hRn.any rfl underlying24 el3 rfl rfl (by omega) (by omega)) rfl (Qg (ox_call rfl call69 rfl (zero_v _ _ h hsub _)) rfl (Qx (ox_pick_t rfl rfl rfl) rfl (Qm rfl (RnQ (ws_ret ?_))))))))
  have e1 : ∀ l : List Int, l = ((vec r x).drop (i + 1)).take (r - (i + 1)) → decide (∀ y ∈ l, y = 0) = leads r x i := fun l hl => by
   subst hl
   rw [Bool.eq_iff_iff, decide_eq_true_iff, leads_iff, hz]
   exact ⟨fun h => ⟨hs, h⟩, fun h => h.2⟩
  exact nx_ret1 rfl rfl (by rw [e1 _ rfl])
 ·refine Qk rfl (Qk rfl (Qk rfl (Qk rfl (Qk rfl (Qx (ox_pick_f rfl rfl rfl) rfl (Qm rfl (RnQ (ws_ret ?_))))))))
  have e1 : leads r x i = false := by
   cases h : leads r x i with
   | false => rfl
   | true => exact absurd (leads_iff.1 h).1 hs
  exact nx_ret1 rfl rfl (by rw [e1])
end Go.Proofs.YtdnelknieikbaaaGreat
set_option maxHeartbeats 4000000
namespace Go.Proofs.YtdnelknieikbaaaGreat
open Tryz
open Go.Eng Go.RowKit Go.Lin
variable {i q r : Nat} {top : Nat → Nat} {al : List Nat} {X : Nat → Nat → Int}
def kI (n : Int) : Value := .int .i64 n
def vB (b : Bool) : Value := .bool b
theorem intKeys : Keys Tryz.prog 3 kI I64 where
 law := Maps.int_keyed underlying3
 inj := fun a b h => by unfold kI at h; cases h; rfl
 key := fun a h => ⟨_, Maps.keyOf_int_mk underlying3 (WalkArith.wf_i64 h)⟩
theorem zero4 (w : World) : (zeroValue 4).run Tryz.prog w = .ok (vB false) w := by rfl
theorem leads_top {p : Int} {c : Nat} {A L : Nat → Nat → Int} {U : Nat → Nat → Int} (htop : ∀ t, t < q → top t < r ∧ X t (top t) = 1 ∧ (∀ i, top t < i → i < r → X t i = 0) ∧ ∀ t', t' < q → t' ≠ t → X t' (top t) = 0) {t : Nat} (ht : t < q) (hi : i < r) : leads r (X t) i = true ↔ top t = i := by
 obtain ⟨h1, h2, h3, h4⟩ := htop t ht
 rw [leads_iff]
 constructor
 ·rintro ⟨h5, h6⟩
  rcases Nat.lt_trichotomy (top t) i with h | h | h
  ·exact absurd (h3 i h hi) h5
  ·exact h
  ·have := h6 (top t) h h1
   rw [h2] at this
   exact absurd this (by decide)
 ·rintro rfl
  exact ⟨by rw [h2]; decide, h3⟩
theorem top_inj (htop : ∀ t, t < q → top t < r ∧ X t (top t) = 1 ∧ (∀ i, top t < i → i < r → X t i = 0) ∧ ∀ t', t' < q → t' ≠ t → X t' (top t) = 0) (t t' : Nat) (h1 : t < q) (h2 : t' < q) (h : top t = top t') : t = t' := Classical.byContradiction fun hne => by
 have h3 := (htop t' h2).2.2.2 t h1 hne
 rw [← h, (htop t h1).2.1] at h3
 exact absurd h3 (by decide)
theorem idx_yes (htop : ∀ t, t < q → top t < r ∧ X t (top t) = 1 ∧ (∀ i, top t < i → i < r → X t i = 0) ∧ ∀ t', t' < q → t' ≠ t → X t' (top t) = 0) {t : Nat} (ht : t < q) (hi : i < r) (h : top t = i) : idxN q (fun t => leads r (X t) i) = t :=
 idxN_some ht ((leads_top (p := 0) (c := 0) (A := fun _ _ => 0) (L := fun _ _ => 0) (U := X) htop ht hi).2 h) fun j hj => by
  cases h2 : leads r (X j) i with
  | false => rfl
  | true =>
   have h3 := (leads_top (p := 0) (c := 0) (A := fun _ _ => 0) (L := fun _ _ => 0) (U := X) htop (show j < q by omega) hi).1 h2
   have := top_inj htop t j ht (by omega) (by omega)
   omega
theorem idx_no (htop : ∀ t, t < q → top t < r ∧ X t (top t) = 1 ∧ (∀ i, top t < i → i < r → X t i = 0) ∧ ∀ t', t' < q → t' ≠ t → X t' (top t) = 0) (hi : i < r) (h : ∀ t, t < q → top t ≠ i) : idxN q (fun t => leads r (X t) i) = -1 :=
 idxN_none fun j hj => by
  cases h2 : leads r (X j) i with
  | false => rfl
  | true => exact absurd ((leads_top (p := 0) (c := 0) (A := fun _ _ => 0) (L := fun _ _ => 0) (U := X) htop hj hi).1 h2) (h j hj)
theorem stB_up {j : Nat} (hn : al.Nodup) (ht : ∀ t, t < q → top t < al.length) (hi : i < al.length) (hj : j < al.length) (h : j ≠ i) : stB al q top (i + 1) (al.getD j 0) = stB al q top i (al.getD j 0) := by
 rw [Bool.eq_iff_iff, stB_iff, stB_iff]
 constructor
 ·rintro ⟨t, h1, h2, h3⟩; exact ⟨t, h1, by omega, h3⟩
 ·rintro ⟨t, h1, h2, h3⟩
  have := getD_inj hn (ht t h1) hj h3
  exact ⟨t, h1, by omega, h3⟩
theorem stB_skip {l : Nat} (hno : ∀ t, t < q → top t ≠ i) : stB al q top (i + 1) l = stB al q top i l := by
 rw [Bool.eq_iff_iff, stB_iff, stB_iff]
 constructor
 ·rintro ⟨t, h1, h2, h3⟩; exact ⟨t, h1, by omega, h3⟩
 ·rintro ⟨t, h1, h2, h3⟩
  have := hno t h1
  exact ⟨t, h1, by omega, h3⟩
theorem map_getD {S : Nat → SM} (h : i < al.length) : (al.map (ptrS S)).getD i undef = ptrS S (al.getD i 0) := by
 simp [List.getD, h]
theorem inj_le (q r : Nat) (f : Nat → Nat) (h : ∀ t, t < q → f t < r) (hj : ∀ t t', t < q → t' < q → f t = f t' → t = t') : q ≤ r := by
 have h1 : ((List.range q).map f).Nodup := List.pairwise_map.2 (List.nodup_range.imp_of_mem fun hx hy hne he => hne (hj _ _ (List.mem_range.1 hx) (List.mem_range.1 hy) he))
 have h2 := h1.length_le_of_subset (l₂ := List.range r) fun x hx => by
  obtain ⟨t, ht, rfl⟩ := List.mem_map.1 hx
  exact List.mem_range.2 (h t (List.mem_range.1 ht))
 simpa using h2
theorem take_ptr {S : Nat → SM} : ((al.map (ptrS S)).drop 0).take (i - 0) = (al.take i).map (ptrS S) := by
 rw [List.drop_zero, Nat.sub_zero, List.map_take]
theorem take_getD {j : Nat} (h : j < i) : (al.take i).getD j 0 = al.getD j 0 := by
 simp [List.getD, List.getElem?_take, h]
def JB (Z : Zg) (k N : Nat) (S0 : Nat → SM) (al : List Nat) (q : Nat) (top : Nat → Nat) (U : Nat → Nat → Int) (gT : Nat) (g : Hp) (me : Hp) (m : Nat) (ms : List Hp) : Prop :=
 ∃ (S : Nat → SM) (mB mT : Hp) (T : List (Int × Bool)) (bs : List Nat), ms = [mT, mB, g, me] ∧ Bw Z k N S0 S al q top U m ∧ BagS Z.d N (growB al q top U k m S) mB ∧ OwnM kI vB gT I64 mT T bs ∧ ∀ i, i < al.length → (getK T (i : Int)).getD false = stB al q top m (al.getD i 0)
theorem backward_ok (Z : Zg) (k N : Nat) (S0 : Nat → SM) (al en : List Nat) (gm : Nat) (va ve ev : Value) (me mB h : Hp) (hp : IsP Z.p) (hd : ∀ j, Z.d j ≤ 200) (hk : k ≤ 200) (hN : N ≤ 100000) (M : Mch Z k N S0 al en) (hb : Z.back k = true) (RA : RtM Z.p (Z.d k) (Z.d (k + 1)) (Z.mat k)) (hA : RdL cI 1 h [] ev (mat (Z.d k) (Z.d (k + 1)) (Z.mat k)))
  (ha : RdL cV 1 h [] va (al.map (ptrS S0))) (hE : OwnL cV 1 108 me ve (en.map (ptrS S0))) (B : BagS Z.d N S0 mB) :
  FnT Tryz.prog 90 #[.pointer (some ⟨gm, 0, none⟩), .agg #[.int .i64 Z.p, .int .i64 (Z.d k), .int .i64 (Z.d (k + 1)), ev]] h [mB, Blk gm 132 [.int .i64 Z.p, .int .i64 k, va, ve], me] (fun r h' ms' => h.le h' ∧ ∃ (nb : Nat) (S' : Nat → SM) (al' en' : List Nat) (va' ve' : Value) (me' mB' : Hp), ms' = [mB', Blk gm 132 [.int .i64 Z.p, .int .i64 ((k : Int) + 1), va', ve'], me'] ∧ nb ≤ 200 ∧ RdL cV 1 h' [] va' (al'.map (ptrS S')) ∧ OwnL cV 1 108 me' ve' (en'.map (ptrS S')) ∧ BagS Z.d (N + nb) S' mB' ∧ Mch Z (k + 1) (N + nb) S' al' en') := by
 have hbp := RA.bd
 have hFp := hp.fld
 have d1 := hd (k + 1)
 have d0 := hd k
 have hal := M.cnt_al
 have oev := hA.rd.one
 have oa := ha.rd.one
 refine fn_enterM func90 ntmps90 rfl rfl (fun w0 hw0 => ?_)
 simp only [argS]
 refine RsQ ?_
 refine wl_box [_] rfl rfl (by rfl) rfl rfl rfl (fun g2 => ?_)
 refine wl_box [_, _, _, _] rfl rfl (by rfl) rfl rfl rfl (fun g3 => ?_)
 refine RnQ (ws_freezeB fun h1 l1 hG3 => (ws_freezeB fun h2 l2 hG2 => ?_))
 have l02 := Hp.le_trans l1 l2
 have hG3 := hG3.le l2
 have hA := hA.up l02
 have ha := ha.up l02
 refine ws_apart fun hap => ?_
 have hdj : mB.disj (Blk gm 132 [.int .i64 Z.p, .int .i64 k, va, ve]) := (List.pairwise_cons.1 hap).1 _ (by simp)
 refine ws_join (ws_lend fun h4 l24 lm dM LM => (ws_emp ?_))
 have lB := Hp.le_trans Hp.le_joinl lm
 have lM := Hp.le_trans (Hp.le_joinr hdj) lm
 have hA0 := hA
 have ha0 := ha
 have hG20 := hG2
 have hG30 := hG3
 have hG2 := hG2.le l24
 have hG3 := hG3.le l24
 have hA := hA.up l24
 have ha := ha.up l24
 have hMA := Seg.all (Seg.ofLe lM)
 have hA2 := Seg.all hG2
 have hA3 := Seg.all hG3
 refine RsQ (Qm rfl (RnQ ?_))
 refine ws_cut (fun s hh ms' => ∃ (es : List Value) (v4 : Value) (m4 : Hp), s = [(2, .pointer (some ⟨g2, 0, none⟩)), (3, .pointer (some ⟨g3, 0, none⟩)), (4, v4)] ∧ h4 = hh ∧ ms' = [m4, me] ∧ OwnL cV 1 24 m4 v4 es ∧ ImV h4 (Z.d k) al.length es (fun i => (S0 (al.getD i 0)).v k)) ?_ (fun s h ms hI => ?_)
 ·refine ws_seq (ws_region (Qx (ox_load rfl underlying130 rfl rfl (hA2 0 _ rfl _)) rfl (Qx (ox_nilCheck rfl rfl) rfl (Qx (ox_fieldF fd132_2 rfl rfl) rfl (Qx (ox_load rfl underlying106 rfl rfl (hMA 2 _ rfl _)) rfl (Qx (ox_lenR (ptr_rd ha).any rfl underlying106 rfl) rfl (Qm rfl (RnQ (ws_block ?_)))))))))
  refine ws_loop (fun n s hh ms' => ∃ (i : Nat) (es : List Value) (v4 : Value) (m4 : Hp), n = al.length - i ∧ s = [(2, .pointer (some ⟨g2, 0, none⟩)), (3, .pointer (some ⟨g3, 0, none⟩)), (4, v4), (23, va), (24, .int .i64 al.length), (25, .int .i64 i)] ∧ h4 = hh ∧ ms' = [m4, me] ∧ i ≤ al.length ∧ OwnL cV 1 24 m4 v4 es ∧ ImV h4 (Z.d k) i es (fun i => (S0 (al.getD i 0)).v k))
   (al.length - 0) _ ⟨0, [], _, _, rfl, rfl, rfl, rfl, by omega, OwnL.nil cV_len, ⟨rfl, fun t ht => by simp at ht⟩⟩ Qs ?_
  rintro n s hh ms' ⟨i, es, v4, m4, rfl, rfl, rfl, rfl, hi, hO4, hI4⟩
  refine RsQ (Qx (ox_lss rfl rfl rfl) rfl (RnQ (ws_seq ?_)))
  refine ws_if rfl (fun hlt => ?_) (fun hlt => ?_)
  ·have hil : i < al.length := nat_lt_of hlt
   have hsN : al.getD i 0 < N := M.lt (getD_mem hil)
   have hsk : (S0 (al.getD i 0)).to = k := M.live _ (getD_mem hil)
   have hcs : ∀ ms, Cell h4 ms ((vbase va).add (i * 1)) (ptrS S0 (al.getD i 0)) := fun ms => ptr_cell ha.any hil
   obtain ⟨u, hu, hRu⟩ := last_r Z.d _ _ _ _ h4 (B.rd lB hsN) (by omega)
   rw [hsk] at hRu
   have ou := hRu.rd.one
   refine ws_skip (nx_then (ws_seq (ws_block (RsQ (Qx (ox_indexR _ (ptr_rd ha).any rfl underlying106 el108 rfl rfl rfl (by omega)) rfl (Qx (ox_load rfl underlying108 rfl rfl (hcs _)) rfl (Qm rfl (RrQ (Qm rfl (Qm rfl (Qx (ox_call rfl call107 rfl (hu _)) rfl (wl_buildSlice1 [_] rfl underlying62 el24 rfl ((hRu.rd).cells) rfl rfl (by omega) rfl rfl rfl (fun g32 => ?_)))))))))))))
   have hesl : es.length ≤ 200 := by rw [hI4.1]; omega
   refine wl_appendV 1 hO4 (RdL.one cV_len (List.Mem.head _) rfl) rfl underlying62 el24 rfl (by omega) rfl rfl rfl (one_of ou) (by simp only [List.length_singleton]; omega) (by simp only [List.length_singleton]; omega) rfl rfl rfl (fun v5 m5 hO5 => ?_)
   refine Qm rfl (wl_nil (nx_block (nx_then (ws_region (Qx (ox_add rfl rfl rfl (by omega)) rfl (Qm rfl (wl_nil (nx_drop ?_))))))))
   refine nx_round (al.length - (i + 1)) _ (by omega) ⟨i + 1, es ++ [u], v5, m5, rfl, rfl, rfl, rfl, by omega, hO5, ?_⟩ Qs
   have := hI4.snoc (u := (S0 (al.getD i 0)).v k) hRu
   rwa [show snocW i (fun i => (S0 (al.getD i 0)).v k) ((S0 (al.getD i 0)).v k) = fun i => (S0 (al.getD i 0)).v k from snocW_self i fun i => (S0 (al.getD i 0)).v k] at this
  ·obtain rfl : i = al.length := by omega
   refine ws_exit (nx_then_exit (nx_then_exit (nx_block_exit ?_)))
   exact nx_meet _ ⟨es, v4, m4, rfl, rfl, rfl, hO4, hI4⟩ Qs
 ·obtain ⟨es, v4, m4, rfl, rfl, rfl, hO4, hI4⟩ := hI
  refine ws_freezeL hO4 fun h5 l5 hR4 => ?_
  have hG2 := hG2.le l5
  have hG3 := hG3.le l5
  have hA := hA.up l5
  have ha := ha.up l5
  have hRV : RdV h5 v4 al.length (Z.d k) (fun i => (S0 (al.getD i 0)).v k) := (hI4.up l5).rd hR4
  have lB := Hp.le_trans lB l5
  have lM := Hp.le_trans lM l5
  have hMA := Seg.all (Seg.ofLe lM)
  have hA2 := Seg.all hG2
  have hA3 := Seg.all hG3
  have hLb : ∀ i, i < al.length → ∀ a, a < Z.d k → 0 ≤ (S0 (al.getD i 0)).v k a ∧ (S0 (al.getD i 0)).v k a < Z.p := fun i hi a ha => by
   have h1 := M.lt (getD_mem hi)
   exact M.bd _ h1 k (by have := B.fr_to h1; rw [M.live _ (getD_mem hi)] at this; omega) (by rw [M.live _ (getD_mem hi)]; omega) a ha
  have RL : RtM Z.p (Z.d k) (Z.d k) (fun a j => (S0 (al.getD j 0)).v k a) := ⟨hp, by omega, by omega, fun a ha j hj => hLb j (by omega) a ha⟩
  have hIL : Ind Z.p (Z.d k) tt (Z.d k) (fun j a => (S0 (al.getD j 0)).v k a) := by
   have h1 := M.val.ind k (show k < k + 1 by omega)
   have hps : al.Perm (sel N ((dcOf N S0).on k)) := sel_perm M.nodup fun l => by
    constructor
    ·intro hl
     have h1 := M.lt hl
     have h2 := M.live l hl
     have h3 := B.fr_to h1
     exact ⟨h1, Dc.on_iff.2 ⟨by show (S0 l).fr ≤ k; omega, by show k ≤ (S0 l).to; omega⟩⟩
    ·rintro ⟨h1, h2⟩
     have h3 := (M.val.ends l h1).2
     have h4 := (Dc.on_iff.1 h2).2
     exact M.in_ h1 (by have h5 : (S0 l).to < k + 1 := h3; have h6 : k ≤ (S0 l).to := h4; omega)
   have h2 := list_of_ind hps h1
   rw [hal] at h2
   exact h2
  have hRV' : RdV h5 v4 (Z.d k) (Z.d k) (fun i => (S0 (al.getD i 0)).v k) := by have := hRV; rw [hal] at this; exact this
  refine ws_cut (fun s hh ms' => ∃ (q : Nat) (X U : Nat → Nat → Int) (vc vl : Value) (g7 g8 : Nat) (hx : Hp), s = [(2, .pointer (some ⟨g2, 0, none⟩)), (3, .pointer (some ⟨g3, 0, none⟩)), (7, .pointer (some ⟨g7, 0, none⟩)), (8, .pointer (some ⟨g8, 0, none⟩))] ∧ h5.le hh ∧ ms' = [Blk g8 62 [vl], Blk g7 62 [vc], me] ∧ hx.le hh ∧ hx.disj (mB.join (Blk gm 132 [.int .i64 Z.p, .int .i64 k, va, ve])) ∧ LeadP Z.p (Z.d k) (Z.d (k + 1)) (Z.mat k) (fun a j => (S0 (al.getD j 0)).v k a) q X U ∧ RdV hx vc q (Z.d k) X ∧ RdV hx vl q (Z.d (k + 1)) U) ?_ (fun s h ms hI => ?_)
  ·refine ws_stab (n := 17) (bs := [true, true, true, true, true, true, true, true, false, false, false, false, false, false, false, false, false]) [true, true, true, true, true, true, true, true] fol (by kernel_rfl) (by kernel_rfl) rfl rfl (Qp rfl (ox_loadG rfl underlying42 rfl el42 rfl rfl (Seg.any hG3)) (Qp rfl (ox_load rfl underlying130 rfl rfl ((hG2.at0 rfl).any)) (Qp rfl (ox_nilCheck rfl rfl) (Qp rfl (ox_fieldF fd132_0 rfl rfl) (Qp rfl (ox_load rfl underlying3 rfl rfl (hMA 0 _ rfl _)) (Qp rfl (ox_fieldF fd42_1 rfl rfl) (Qp rfl (ox_load rfl underlying3 rfl rfl (hA3 1 _ rfl _)) (Qp rfl (ox_move rfl rfl) ?_))))))))
   unfold PZs
   simp only [List.cons_append, List.nil_append]
   refine wb_step [8, 13, 14] (by kernel_rfl) rfl ?_
   refine wbl_cons rfl ?_ ?_
   ·refine wl_call rfl call97 rfl (columns_ok Z.p (Z.d k) (Z.d k) (fun i => (S0 (al.getD i 0)).v k) v4 _ RA.i64 RA.rl RA.rl hRV') rfl rfl rfl (fun x6 h6 ms6 l6 hF => ?_)
    obtain ⟨rfl, ec, mc, rfl, rfl, hOc⟩ := hF
    refine wl_lend fun h7 l7 lc dc _ => ?_
    have hdc := Hp.disj_symm (Hp.disj_le dc (Hp.le_trans lm l5))
    refine Qa (wb_step [9, 13, 14] (by kernel_rfl) rfl ?_)
    refine wbl_cons rfl ?_ ?_
    ·refine wl_call rfl call108 rfl (fnt_aside (Hp.le_trans lm (Hp.le_trans l5 l7)) (leading_ok Z.p (Z.d k) (Z.d (k + 1)) (Z.mat k) (fun a j => (S0 (al.getD j 0)).v k a) ev ec _ RA RL d0 d1 hIL (hA0.up (Hp.le_minus (Hp.le_trans l24 (Hp.le_trans l5 l7)) dM)) (hOc.rdh (Hp.le_minus lc hdc)))) rfl rfl rfl (fun x8 h8 ms8 l8 hF => ?_)
     obtain ⟨l8', hx, lx, dx, _, _, q, X, U, vc, vl, rfl, hLP, hRX, hRU, rfl⟩ := hF
     have ovc : vc.oneCell' = true := hRX.rdn.elim fun _ h => h.2.one
     have ovl : vl.oneCell' = true := hRU.rdn.elim fun _ h => h.2.one
     have lcur := Hp.le_trans l7 l8
     refine Qa (wb_float 10 35 (by kernel_rfl) rfl (by assumption) rfl (ox_move rfl rfl) (wb_float 11 46 (by kernel_rfl) rfl (by assumption) rfl (ox_extract rfl rfl rfl) (wb_float 12 47 (by kernel_rfl) rfl (by assumption) rfl (ox_extract rfl rfl rfl) (wb_step [13, 14] (by kernel_rfl) rfl ?_))))
     refine wbl_cons rfl ?_ ?_
     ·refine AlQ [.slice none 0 0] rfl el62 rfl rfl (fun g7 => Qa (Qo 14 rfl (AlQ [.slice none 0 0] rfl el62 rfl rfl (fun g8 => Qa (Qo 15 rfl (wl_storeAt 1 0 rfl el62 rfl rfl (by assumption) rfl rfl (by decide) rfl rfl (Qa (Qo 16 rfl (wl_storeAt 0 0 rfl el62 rfl rfl (by assumption) rfl rfl (by decide) rfl rfl (Qa (Qe ?_)))))))))))
      exact nx_meet _ ⟨q, X, U, vc, vl, g7, g8, hx, rfl, lcur, rfl, lx, dx, hLP, hRX, hRU⟩ Qs
     refine wbl_cons rfl ?_ ?_
     ·refine AlQ [.slice none 0 0] rfl el62 rfl rfl (fun g8 => Qa (Qo 13 rfl (AlQ [.slice none 0 0] rfl el62 rfl rfl (fun g7 => Qa (Qo 15 rfl (wl_storeAt 0 0 rfl el62 rfl rfl (by assumption) rfl rfl (by decide) rfl rfl (Qa (Qo 16 rfl (wl_storeAt 1 0 rfl el62 rfl rfl (by assumption) rfl rfl (by decide) rfl rfl (Qa (Qe ?_)))))))))))
      exact nx_swap (nx_meet _ ⟨q, X, U, vc, vl, g7, g8, hx, rfl, lcur, rfl, lx, dx, hLP, hRX, hRU⟩ Qs)
     exact wbl_nil
    refine wbl_cons rfl ?_ ?_
    ·refine AlQ [.slice none 0 0] rfl el62 rfl rfl (fun g7 => Qa (wb_step [9, 14] (by kernel_rfl) rfl ?_))
     refine wbl_cons rfl ?_ ?_
     ·refine wl_call rfl call108 rfl (fnt_aside (Hp.le_trans lm (Hp.le_trans l5 l7)) (leading_ok Z.p (Z.d k) (Z.d (k + 1)) (Z.mat k) (fun a j => (S0 (al.getD j 0)).v k a) ev ec _ RA RL d0 d1 hIL (hA0.up (Hp.le_minus (Hp.le_trans l24 (Hp.le_trans l5 l7)) dM)) (hOc.rdh (Hp.le_minus lc hdc)))) rfl rfl rfl (fun x8 h8 ms8 l8 hF => ?_)
      obtain ⟨l8', hx, lx, dx, _, _, q, X, U, vc, vl, rfl, hLP, hRX, hRU, rfl⟩ := hF
      have ovc : vc.oneCell' = true := hRX.rdn.elim fun _ h => h.2.one
      have ovl : vl.oneCell' = true := hRU.rdn.elim fun _ h => h.2.one
      have lcur := Hp.le_trans l7 l8
      refine Qa (wb_float 10 35 (by kernel_rfl) rfl (by assumption) rfl (ox_move rfl rfl) (wb_float 11 46 (by kernel_rfl) rfl (by assumption) rfl (ox_extract rfl rfl rfl) (wb_float 12 47 (by kernel_rfl) rfl (by assumption) rfl (ox_extract rfl rfl rfl) (Qo 14 rfl (AlQ [.slice none 0 0] rfl el62 rfl rfl (fun g8 => Qa (Qo 15 rfl (wl_storeAt 1 0 rfl el62 rfl rfl (by assumption) rfl rfl (by decide) rfl rfl (Qa (Qo 16 rfl (wl_storeAt 0 0 rfl el62 rfl rfl (by assumption) rfl rfl (by decide) rfl rfl (Qa (Qe ?_)))))))))))))
      exact nx_meet _ ⟨q, X, U, vc, vl, g7, g8, hx, rfl, lcur, rfl, lx, dx, hLP, hRX, hRU⟩ Qs
     refine wbl_cons rfl ?_ ?_
     ·refine AlQ [.slice none 0 0] rfl el62 rfl rfl (fun g8 => Qa (Qo 9 rfl (wl_call rfl call108 rfl (fnt_aside (Hp.le_trans lm (Hp.le_trans l5 l7)) (leading_ok Z.p (Z.d k) (Z.d (k + 1)) (Z.mat k) (fun a j => (S0 (al.getD j 0)).v k a) ev ec _ RA RL d0 d1 hIL (hA0.up (Hp.le_minus (Hp.le_trans l24 (Hp.le_trans l5 l7)) dM)) (hOc.rdh (Hp.le_minus lc hdc)))) rfl rfl rfl (fun x8 h8 ms8 l8 hF => ?_))))
      obtain ⟨l8', hx, lx, dx, _, _, q, X, U, vc, vl, rfl, hLP, hRX, hRU, rfl⟩ := hF
      have ovc : vc.oneCell' = true := hRX.rdn.elim fun _ h => h.2.one
      have ovl : vl.oneCell' = true := hRU.rdn.elim fun _ h => h.2.one
      have lcur := Hp.le_trans l7 l8
      refine Qa (wb_float 10 35 (by kernel_rfl) rfl (by assumption) rfl (ox_move rfl rfl) (wb_float 11 46 (by kernel_rfl) rfl (by assumption) rfl (ox_extract rfl rfl rfl) (wb_float 12 47 (by kernel_rfl) rfl (by assumption) rfl (ox_extract rfl rfl rfl) (Qo 15 rfl (wl_storeAt 1 0 rfl el62 rfl rfl (by assumption) rfl rfl (by decide) rfl rfl (Qa (Qo 16 rfl (wl_storeAt 0 0 rfl el62 rfl rfl (by assumption) rfl rfl (by decide) rfl rfl (Qa (Qe ?_))))))))))
      exact nx_meet _ ⟨q, X, U, vc, vl, g7, g8, hx, rfl, lcur, rfl, lx, dx, hLP, hRX, hRU⟩ Qs
     exact wbl_nil
    refine wbl_cons rfl ?_ ?_
    ·refine AlQ [.slice none 0 0] rfl el62 rfl rfl (fun g8 => Qa (wb_step [9, 13] (by kernel_rfl) rfl ?_))
     refine wbl_cons rfl ?_ ?_
     ·refine wl_call rfl call108 rfl (fnt_aside (Hp.le_trans lm (Hp.le_trans l5 l7)) (leading_ok Z.p (Z.d k) (Z.d (k + 1)) (Z.mat k) (fun a j => (S0 (al.getD j 0)).v k a) ev ec _ RA RL d0 d1 hIL (hA0.up (Hp.le_minus (Hp.le_trans l24 (Hp.le_trans l5 l7)) dM)) (hOc.rdh (Hp.le_minus lc hdc)))) rfl rfl rfl (fun x8 h8 ms8 l8 hF => ?_)
      obtain ⟨l8', hx, lx, dx, _, _, q, X, U, vc, vl, rfl, hLP, hRX, hRU, rfl⟩ := hF
      have ovc : vc.oneCell' = true := hRX.rdn.elim fun _ h => h.2.one
      have ovl : vl.oneCell' = true := hRU.rdn.elim fun _ h => h.2.one
      have lcur := Hp.le_trans l7 l8
      refine Qa (wb_float 10 35 (by kernel_rfl) rfl (by assumption) rfl (ox_move rfl rfl) (wb_float 11 46 (by kernel_rfl) rfl (by assumption) rfl (ox_extract rfl rfl rfl) (wb_float 12 47 (by kernel_rfl) rfl (by assumption) rfl (ox_extract rfl rfl rfl) (Qo 13 rfl (AlQ [.slice none 0 0] rfl el62 rfl rfl (fun g7 => Qa (Qo 15 rfl (wl_storeAt 0 0 rfl el62 rfl rfl (by assumption) rfl rfl (by decide) rfl rfl (Qa (Qo 16 rfl (wl_storeAt 1 0 rfl el62 rfl rfl (by assumption) rfl rfl (by decide) rfl rfl (Qa (Qe ?_)))))))))))))
      exact nx_swap (nx_meet _ ⟨q, X, U, vc, vl, g7, g8, hx, rfl, lcur, rfl, lx, dx, hLP, hRX, hRU⟩ Qs)
     refine wbl_cons rfl ?_ ?_
     ·refine AlQ [.slice none 0 0] rfl el62 rfl rfl (fun g7 => Qa (Qo 9 rfl (wl_call rfl call108 rfl (fnt_aside (Hp.le_trans lm (Hp.le_trans l5 l7)) (leading_ok Z.p (Z.d k) (Z.d (k + 1)) (Z.mat k) (fun a j => (S0 (al.getD j 0)).v k a) ev ec _ RA RL d0 d1 hIL (hA0.up (Hp.le_minus (Hp.le_trans l24 (Hp.le_trans l5 l7)) dM)) (hOc.rdh (Hp.le_minus lc hdc)))) rfl rfl rfl (fun x8 h8 ms8 l8 hF => ?_))))
      obtain ⟨l8', hx, lx, dx, _, _, q, X, U, vc, vl, rfl, hLP, hRX, hRU, rfl⟩ := hF
      have ovc : vc.oneCell' = true := hRX.rdn.elim fun _ h => h.2.one
      have ovl : vl.oneCell' = true := hRU.rdn.elim fun _ h => h.2.one
      have lcur := Hp.le_trans l7 l8
      refine Qa (wb_float 10 35 (by kernel_rfl) rfl (by assumption) rfl (ox_move rfl rfl) (wb_float 11 46 (by kernel_rfl) rfl (by assumption) rfl (ox_extract rfl rfl rfl) (wb_float 12 47 (by kernel_rfl) rfl (by assumption) rfl (ox_extract rfl rfl rfl) (Qo 15 rfl (wl_storeAt 0 0 rfl el62 rfl rfl (by assumption) rfl rfl (by decide) rfl rfl (Qa (Qo 16 rfl (wl_storeAt 1 0 rfl el62 rfl rfl (by assumption) rfl rfl (by decide) rfl rfl (Qa (Qe ?_))))))))))
      exact nx_swap (nx_meet _ ⟨q, X, U, vc, vl, g7, g8, hx, rfl, lcur, rfl, lx, dx, hLP, hRX, hRU⟩ Qs)
     exact wbl_nil
    exact wbl_nil
   refine wbl_cons rfl ?_ ?_
   ·refine AlQ [.slice none 0 0] rfl el62 rfl rfl (fun g7 => Qw (wb_step [8, 14] (by kernel_rfl) rfl ?_))
    refine wbl_cons rfl ?_ ?_
    ·refine wl_call rfl call97 rfl (columns_ok Z.p (Z.d k) (Z.d k) (fun i => (S0 (al.getD i 0)).v k) v4 _ RA.i64 RA.rl RA.rl hRV') rfl rfl rfl (fun x6 h6 ms6 l6 hF => ?_)
     obtain ⟨rfl, ec, mc, rfl, rfl, hOc⟩ := hF
     refine wl_lend fun h7 l7 lc dc _ => ?_
     have hdc := Hp.disj_symm (Hp.disj_le dc (Hp.le_trans lm l5))
     refine Qa (wb_step [9, 14] (by kernel_rfl) rfl ?_)
     refine wbl_cons rfl ?_ ?_
     ·refine wl_call rfl call108 rfl (fnt_aside (Hp.le_trans lm (Hp.le_trans l5 l7)) (leading_ok Z.p (Z.d k) (Z.d (k + 1)) (Z.mat k) (fun a j => (S0 (al.getD j 0)).v k a) ev ec _ RA RL d0 d1 hIL (hA0.up (Hp.le_minus (Hp.le_trans l24 (Hp.le_trans l5 l7)) dM)) (hOc.rdh (Hp.le_minus lc hdc)))) rfl rfl rfl (fun x8 h8 ms8 l8 hF => ?_)
      obtain ⟨l8', hx, lx, dx, _, _, q, X, U, vc, vl, rfl, hLP, hRX, hRU, rfl⟩ := hF
      have ovc : vc.oneCell' = true := hRX.rdn.elim fun _ h => h.2.one
      have ovl : vl.oneCell' = true := hRU.rdn.elim fun _ h => h.2.one
      have lcur := Hp.le_trans l7 l8
      refine Qa (wb_float 10 35 (by kernel_rfl) rfl (by assumption) rfl (ox_move rfl rfl) (wb_float 11 46 (by kernel_rfl) rfl (by assumption) rfl (ox_extract rfl rfl rfl) (wb_float 12 47 (by kernel_rfl) rfl (by assumption) rfl (ox_extract rfl rfl rfl) (Qo 14 rfl (AlQ [.slice none 0 0] rfl el62 rfl rfl (fun g8 => Qa (Qo 15 rfl (wl_storeAt 1 0 rfl el62 rfl rfl (by assumption) rfl rfl (by decide) rfl rfl (Qa (Qo 16 rfl (wl_storeAt 0 0 rfl el62 rfl rfl (by assumption) rfl rfl (by decide) rfl rfl (Qa (Qe ?_)))))))))))))
      exact nx_meet _ ⟨q, X, U, vc, vl, g7, g8, hx, rfl, lcur, rfl, lx, dx, hLP, hRX, hRU⟩ Qs
     refine wbl_cons rfl ?_ ?_
     ·refine AlQ [.slice none 0 0] rfl el62 rfl rfl (fun g8 => Qa (Qo 9 rfl (wl_call rfl call108 rfl (fnt_aside (Hp.le_trans lm (Hp.le_trans l5 l7)) (leading_ok Z.p (Z.d k) (Z.d (k + 1)) (Z.mat k) (fun a j => (S0 (al.getD j 0)).v k a) ev ec _ RA RL d0 d1 hIL (hA0.up (Hp.le_minus (Hp.le_trans l24 (Hp.le_trans l5 l7)) dM)) (hOc.rdh (Hp.le_minus lc hdc)))) rfl rfl rfl (fun x8 h8 ms8 l8 hF => ?_))))
      obtain ⟨l8', hx, lx, dx, _, _, q, X, U, vc, vl, rfl, hLP, hRX, hRU, rfl⟩ := hF
      have ovc : vc.oneCell' = true := hRX.rdn.elim fun _ h => h.2.one
      have ovl : vl.oneCell' = true := hRU.rdn.elim fun _ h => h.2.one
      have lcur := Hp.le_trans l7 l8
      refine Qa (wb_float 10 35 (by kernel_rfl) rfl (by assumption) rfl (ox_move rfl rfl) (wb_float 11 46 (by kernel_rfl) rfl (by assumption) rfl (ox_extract rfl rfl rfl) (wb_float 12 47 (by kernel_rfl) rfl (by assumption) rfl (ox_extract rfl rfl rfl) (Qo 15 rfl (wl_storeAt 1 0 rfl el62 rfl rfl (by assumption) rfl rfl (by decide) rfl rfl (Qa (Qo 16 rfl (wl_storeAt 0 0 rfl el62 rfl rfl (by assumption) rfl rfl (by decide) rfl rfl (Qa (Qe ?_))))))))))
      exact nx_meet _ ⟨q, X, U, vc, vl, g7, g8, hx, rfl, lcur, rfl, lx, dx, hLP, hRX, hRU⟩ Qs
     exact wbl_nil
    refine wbl_cons rfl ?_ ?_
    ·refine AlQ [.slice none 0 0] rfl el62 rfl rfl (fun g8 => Qw (Qo 8 rfl (wl_call rfl call97 rfl (columns_ok Z.p (Z.d k) (Z.d k) (fun i => (S0 (al.getD i 0)).v k) v4 _ RA.i64 RA.rl RA.rl hRV') rfl rfl rfl (fun x6 h6 ms6 l6 hF => ?_))))
     obtain ⟨rfl, ec, mc, rfl, rfl, hOc⟩ := hF
     refine wl_lend fun h7 l7 lc dc _ => ?_
     have hdc := Hp.disj_symm (Hp.disj_le dc (Hp.le_trans lm l5))
     refine Qa (Qo 9 rfl (wl_call rfl call108 rfl (fnt_aside (Hp.le_trans lm (Hp.le_trans l5 l7)) (leading_ok Z.p (Z.d k) (Z.d (k + 1)) (Z.mat k) (fun a j => (S0 (al.getD j 0)).v k a) ev ec _ RA RL d0 d1 hIL (hA0.up (Hp.le_minus (Hp.le_trans l24 (Hp.le_trans l5 l7)) dM)) (hOc.rdh (Hp.le_minus lc hdc)))) rfl rfl rfl (fun x8 h8 ms8 l8 hF => ?_)))
     obtain ⟨l8', hx, lx, dx, _, _, q, X, U, vc, vl, rfl, hLP, hRX, hRU, rfl⟩ := hF
     have ovc : vc.oneCell' = true := hRX.rdn.elim fun _ h => h.2.one
     have ovl : vl.oneCell' = true := hRU.rdn.elim fun _ h => h.2.one
     have lcur := Hp.le_trans l7 l8
     refine Qa (wb_float 10 35 (by kernel_rfl) rfl (by assumption) rfl (ox_move rfl rfl) (wb_float 11 46 (by kernel_rfl) rfl (by assumption) rfl (ox_extract rfl rfl rfl) (wb_float 12 47 (by kernel_rfl) rfl (by assumption) rfl (ox_extract rfl rfl rfl) (Qo 15 rfl (wl_storeAt 1 0 rfl el62 rfl rfl (by assumption) rfl rfl (by decide) rfl rfl (Qa (Qo 16 rfl (wl_storeAt 0 0 rfl el62 rfl rfl (by assumption) rfl rfl (by decide) rfl rfl (Qa (Qe ?_))))))))))
     exact nx_meet _ ⟨q, X, U, vc, vl, g7, g8, hx, rfl, lcur, rfl, lx, dx, hLP, hRX, hRU⟩ Qs
    exact wbl_nil
   refine wbl_cons rfl ?_ ?_
   ·refine AlQ [.slice none 0 0] rfl el62 rfl rfl (fun g8 => Qw (wb_step [8, 13] (by kernel_rfl) rfl ?_))
    refine wbl_cons rfl ?_ ?_
    ·refine wl_call rfl call97 rfl (columns_ok Z.p (Z.d k) (Z.d k) (fun i => (S0 (al.getD i 0)).v k) v4 _ RA.i64 RA.rl RA.rl hRV') rfl rfl rfl (fun x6 h6 ms6 l6 hF => ?_)
     obtain ⟨rfl, ec, mc, rfl, rfl, hOc⟩ := hF
     refine wl_lend fun h7 l7 lc dc _ => ?_
     have hdc := Hp.disj_symm (Hp.disj_le dc (Hp.le_trans lm l5))
     refine Qa (wb_step [9, 13] (by kernel_rfl) rfl ?_)
     refine wbl_cons rfl ?_ ?_
     ·refine wl_call rfl call108 rfl (fnt_aside (Hp.le_trans lm (Hp.le_trans l5 l7)) (leading_ok Z.p (Z.d k) (Z.d (k + 1)) (Z.mat k) (fun a j => (S0 (al.getD j 0)).v k a) ev ec _ RA RL d0 d1 hIL (hA0.up (Hp.le_minus (Hp.le_trans l24 (Hp.le_trans l5 l7)) dM)) (hOc.rdh (Hp.le_minus lc hdc)))) rfl rfl rfl (fun x8 h8 ms8 l8 hF => ?_)
      obtain ⟨l8', hx, lx, dx, _, _, q, X, U, vc, vl, rfl, hLP, hRX, hRU, rfl⟩ := hF
      have ovc : vc.oneCell' = true := hRX.rdn.elim fun _ h => h.2.one
      have ovl : vl.oneCell' = true := hRU.rdn.elim fun _ h => h.2.one
      have lcur := Hp.le_trans l7 l8
      refine Qa (wb_float 10 35 (by kernel_rfl) rfl (by assumption) rfl (ox_move rfl rfl) (wb_float 11 46 (by kernel_rfl) rfl (by assumption) rfl (ox_extract rfl rfl rfl) (wb_float 12 47 (by kernel_rfl) rfl (by assumption) rfl (ox_extract rfl rfl rfl) (Qo 13 rfl (AlQ [.slice none 0 0] rfl el62 rfl rfl (fun g7 => Qa (Qo 15 rfl (wl_storeAt 0 0 rfl el62 rfl rfl (by assumption) rfl rfl (by decide) rfl rfl (Qa (Qo 16 rfl (wl_storeAt 1 0 rfl el62 rfl rfl (by assumption) rfl rfl (by decide) rfl rfl (Qa (Qe ?_)))))))))))))
      exact nx_swap (nx_meet _ ⟨q, X, U, vc, vl, g7, g8, hx, rfl, lcur, rfl, lx, dx, hLP, hRX, hRU⟩ Qs)
     refine wbl_cons rfl ?_ ?_
     ·refine AlQ [.slice none 0 0] rfl el62 rfl rfl (fun g7 => Qa (Qo 9 rfl (wl_call rfl call108 rfl (fnt_aside (Hp.le_trans lm (Hp.le_trans l5 l7)) (leading_ok Z.p (Z.d k) (Z.d (k + 1)) (Z.mat k) (fun a j => (S0 (al.getD j 0)).v k a) ev ec _ RA RL d0 d1 hIL (hA0.up (Hp.le_minus (Hp.le_trans l24 (Hp.le_trans l5 l7)) dM)) (hOc.rdh (Hp.le_minus lc hdc)))) rfl rfl rfl (fun x8 h8 ms8 l8 hF => ?_))))
      obtain ⟨l8', hx, lx, dx, _, _, q, X, U, vc, vl, rfl, hLP, hRX, hRU, rfl⟩ := hF
      have ovc : vc.oneCell' = true := hRX.rdn.elim fun _ h => h.2.one
      have ovl : vl.oneCell' = true := hRU.rdn.elim fun _ h => h.2.one
      have lcur := Hp.le_trans l7 l8
      refine Qa (wb_float 10 35 (by kernel_rfl) rfl (by assumption) rfl (ox_move rfl rfl) (wb_float 11 46 (by kernel_rfl) rfl (by assumption) rfl (ox_extract rfl rfl rfl) (wb_float 12 47 (by kernel_rfl) rfl (by assumption) rfl (ox_extract rfl rfl rfl) (Qo 15 rfl (wl_storeAt 0 0 rfl el62 rfl rfl (by assumption) rfl rfl (by decide) rfl rfl (Qa (Qo 16 rfl (wl_storeAt 1 0 rfl el62 rfl rfl (by assumption) rfl rfl (by decide) rfl rfl (Qa (Qe ?_))))))))))
      exact nx_swap (nx_meet _ ⟨q, X, U, vc, vl, g7, g8, hx, rfl, lcur, rfl, lx, dx, hLP, hRX, hRU⟩ Qs)
     exact wbl_nil
    refine wbl_cons rfl ?_ ?_
    ·refine AlQ [.slice none 0 0] rfl el62 rfl rfl (fun g7 => Qw (Qo 8 rfl (wl_call rfl call97 rfl (columns_ok Z.p (Z.d k) (Z.d k) (fun i => (S0 (al.getD i 0)).v k) v4 _ RA.i64 RA.rl RA.rl hRV') rfl rfl rfl (fun x6 h6 ms6 l6 hF => ?_))))
     obtain ⟨rfl, ec, mc, rfl, rfl, hOc⟩ := hF
     refine wl_lend fun h7 l7 lc dc _ => ?_
     have hdc := Hp.disj_symm (Hp.disj_le dc (Hp.le_trans lm l5))
     refine Qa (Qo 9 rfl (wl_call rfl call108 rfl (fnt_aside (Hp.le_trans lm (Hp.le_trans l5 l7)) (leading_ok Z.p (Z.d k) (Z.d (k + 1)) (Z.mat k) (fun a j => (S0 (al.getD j 0)).v k a) ev ec _ RA RL d0 d1 hIL (hA0.up (Hp.le_minus (Hp.le_trans l24 (Hp.le_trans l5 l7)) dM)) (hOc.rdh (Hp.le_minus lc hdc)))) rfl rfl rfl (fun x8 h8 ms8 l8 hF => ?_)))
     obtain ⟨l8', hx, lx, dx, _, _, q, X, U, vc, vl, rfl, hLP, hRX, hRU, rfl⟩ := hF
     have ovc : vc.oneCell' = true := hRX.rdn.elim fun _ h => h.2.one
     have ovl : vl.oneCell' = true := hRU.rdn.elim fun _ h => h.2.one
     have lcur := Hp.le_trans l7 l8
     refine Qa (wb_float 10 35 (by kernel_rfl) rfl (by assumption) rfl (ox_move rfl rfl) (wb_float 11 46 (by kernel_rfl) rfl (by assumption) rfl (ox_extract rfl rfl rfl) (wb_float 12 47 (by kernel_rfl) rfl (by assumption) rfl (ox_extract rfl rfl rfl) (Qo 15 rfl (wl_storeAt 0 0 rfl el62 rfl rfl (by assumption) rfl rfl (by decide) rfl rfl (Qa (Qo 16 rfl (wl_storeAt 1 0 rfl el62 rfl rfl (by assumption) rfl rfl (by decide) rfl rfl (Qa (Qe ?_))))))))))
     exact nx_swap (nx_meet _ ⟨q, X, U, vc, vl, g7, g8, hx, rfl, lcur, rfl, lx, dx, hLP, hRX, hRU⟩ Qs)
    exact wbl_nil
   exact wbl_nil
  ·obtain ⟨q, X, U, vc, vl, g7, g8, hx, rfl, l6, rfl, lx, dx, hLP, hRX, hRU⟩ := hI
   obtain ⟨top, htop⟩ := hLP.top
   have htl : ∀ t, t < q → top t < al.length := fun t ht => by rw [hal]; exact (htop t ht).1
   have hti : ∀ t t', t < q → t' < q → top t = top t' → t = t' := fun t t' h1 h2 h3 => top_inj htop t t' h1 h2 h3
   have hq : q ≤ al.length := inj_le q _ top htl hti
   refine ws_back LM (Hp.le_trans lm (Hp.le_trans l5 l6)) fun h6 q6 b6 => ?_
   have hRX := hRX.up (b6 _ lx dx)
   have hRU := hRU.up (b6 _ lx dx)
   have l26 := b6 _ (Hp.le_trans l24 (Hp.le_trans l5 l6)) dM
   refine ws_part hdj (ws_top 2 rfl (ws_freezeB fun h7 l7 hG8 => (ws_top 2 rfl (ws_freezeB fun h8 l8 hG7 => ?_))))
   have hG8 := hG8.le l8
   have l78 := Hp.le_trans l7 l8
   have hRX := hRX.up l78
   have hRU := hRU.up l78
   have l28 := Hp.le_trans l26 l78
   have hG2 := hG20.le l28
   have hG3 := hG30.le l28
   have hA := hA0.up l28
   have ha := ha0.up l28
   refine RsQ (wl_makeMap (K := kI) (V := vB) (Ok := I64) rfl rfl rfl rfl (fun gT mT0 OT0 => AlQ [.map none] rfl el147 rfl rfl (fun g9 => ?_)))
   refine wl_storeAt 0 0 rfl el147 rfl rfl (by rfl) rfl rfl (by decide) rfl rfl ?_
   refine RnQ (ws_freezeB fun h9 l9 hG9 => ?_)
   have hRX := hRX.up l9
   have hRU := hRU.up l9
   have l29 := Hp.le_trans l28 l9
   have hG2 := hG2.le l9
   have hG7 := hG7.le l9
   have hG8 := hG8.le l9
   have ha := ha.up l9
   refine ws_seq (RsQ (Qx (ox_load rfl underlying130 rfl rfl ((hG2.at0 rfl).any)) rfl (Qx (ox_nilCheck rfl rfl) rfl (Qx (ox_fieldF fd132_2 rfl rfl) rfl (Qx (ox_load rfl underlying106 rfl rfl (Cell.blk 2 (k := 2) rfl rfl)) rfl (wl_call rfl call109 rfl (backward_v va al.length _ h9 (ptr_rd ha)) rfl rfl rfl (fun vf h10 ms10 l10 hF => ?_)))))))
   obtain ⟨rfl, gb, rfl, rfl⟩ := hF
   refine RnQ (ws_block (ws_freezeB fun h10 l10 hGb => ?_))
   have hRX := hRX.up l10
   have hRU := hRU.up l10
   have l210 := Hp.le_trans l29 l10
   have hG2 := hG2.le l10
   have hG7 := hG7.le l10
   have hG8 := hG8.le l10
   have hG9 := hG9.le l10
   have ha := ha.up l10
   have hI := back_itr gb al.length va (al.map (ptrS S0)) h10 hGb ha ptr_len (by omega)
   generalize hgb : Blk gm 132 [.int .i64 Z.p, .int .i64 k, va, ve] = bg
   refine ws_rangeFunc (fun kk hh ms => JB Z k N S0 al q top U gT bg me (al.length - kk) ms) (fun kk s1 hh ms => ∃ (g10 : Nat) (ms0 : List Hp), s1 = [(2, .pointer (some ⟨g2, 0, none⟩)), (3, .pointer (some ⟨g3, 0, none⟩)), (7, .pointer (some ⟨g7, 0, none⟩)), (8, .pointer (some ⟨g8, 0, none⟩)), (9, .pointer (some ⟨g9, 0, none⟩)), (10, .pointer (some ⟨g10, 0, none⟩)), (11, ptrS S0 (al.getD (al.length - 1 - kk) 0))] ∧ ms = Blk g10 3 [.int .i64 ((al.length - 1 - kk : Nat) : Int)] :: ms0 ∧ JB Z k N S0 al q top U gT bg me (al.length - kk) ms0) rfl call134 hI (fun k => rfl) rfl ?_ ?_ ?_ ?_
   ·refine ⟨S0, mB, mT0, [], [], rfl, Bw.start M htl, ?_, OT0, fun i hi => ?_⟩
    ·rw [growB_start htl (by omega)]; exact B
    ·rw [stB_low M.nodup htl (by omega) hi]; rfl
   ·rintro w1 kk hh ms1 hkk lh hJ
    refine rs_seq (rs_region_ (by kernel_rfl) (AlQ [.int .i64 0] rfl el3 rfl rfl (fun g10 => ?_)))
    refine wl_storeAt 0 0 rfl el3 rfl rfl (by rfl) rfl rfl (by decide) rfl rfl ?_
    refine wl_nil (nx_thenR (rs_region_ (by kernel_rfl) (Qm rfl (wl_nil ?_))))
    refine nx_meet _ ⟨g10, ms1, rfl, ?_, hJ⟩ ⟨rfl, rfl, rfl, rfl, rfl, rfl, ?_, trivial⟩
    ·show Blk g10 3 [.int .i64 ((al.length : Int) - 1 - kk)] :: ms1 = _
     rw [show ((al.length : Int) - 1 - kk) = ((al.length - 1 - kk : Nat) : Int) by omega]
    ·show some ((al.map (ptrS S0)).getD (al.length - 1 - kk) undef) = some (ptrS S0 (al.getD (al.length - 1 - kk) 0))
     rw [map_getD (by omega)]
   ·rintro w1 kk s1 hh ms1 hkk lh ⟨g10, ms0, rfl, rfl, S, mB, mT, T, bs, rfl, W, B, OT, hT⟩
    obtain ⟨i, hi⟩ : ∃ i, i = al.length - 1 - kk := ⟨_, rfl⟩
    have e1 : al.length - kk = i + 1 := by omega
    have e2 : al.length - (kk + 1) = i := by omega
    have hil : i < al.length := by omega
    rw [← hi]
    rw [e1] at W B hT
    rw [e2]
    refine rs_lend fun h11 l11 lg10 _ _ => (rs_top 2 rfl (rs_lend fun h12 l12 lG dG LG => ?_))
    have lh12 := Hp.le_trans lh (Hp.le_trans l11 l12)
    have hRX := hRX.up lh12
    have hRU := hRU.up lh12
    have hG2 := hG2.le lh12
    have hG7 := hG7.le lh12
    have hG8 := hG8.le lh12
    have hG9 := hG9.le lh12
    have ha := ha.up lh12
    have hG10 := Seg.ofLe (Hp.le_trans lg10 l12)
    have hA2 := Seg.all hG2
    have hA10 := Seg.all hG10
    have hAg := Seg.all (Seg.ofLe (h := h12) (by rw [hgb]; exact lG))
    refine rs_block (rs_seq (rs_region_ (by kernel_rfl) (Qx (ox_load rfl underlying62 rfl rfl ((hG7.at0 rfl).any)) rfl (Qx (ox_makeFunc rfl rfl rfl) rfl (Qx (ox_call rfl call110 rfl (fnv (indexV_ok q (Z.d k) X vc 111 [.pointer (some ⟨g10, 0, none⟩)] (fun t => leads (Z.d k) (X t) i) h12 hRX (by omega) call111 fun t v ht hv ms => leads_v (Z.d k) i (X t) v g10 h12 (by omega) (by omega) hv hG10 ms) _)) rfl (Qm rfl (wl_nil (nx_thenR (rs_seq (rs_seq (rs_region_ (by kernel_rfl) (Qm rfl (Qx (ox_lss rfl rfl rfl) rfl (wl_nil (nx_thenR ?_)))))))))))))))
    refine rs_if rfl (fun hneg => ?_) (fun hneg => ?_)
    ·have hno : ∀ t, t < q → top t ≠ i := fun t ht he => by
      rw [idx_yes htop ht (by omega) he] at hneg
      omega
     refine rs_exit (nx_then_exit (nx_block_exit (nx_back LG lG fun h13 l13 b13 => (nx_perm (ms' := [mT, mB, bg, me]) ((List.Perm.swap mT bg [mB, me]).trans (List.Perm.cons mT (List.Perm.swap mB bg [me]))) ?_))))
     refine nx_meet [] ⟨S, mB, mT, T, bs, rfl, W.skip hno, ?_, OT, fun j hj => ?_⟩ trivial
     ·rw [← growB_skip hno]; exact B
     ·rw [← stB_skip hno]; exact hT j hj
    ·obtain ⟨t, ht, hti'⟩ : ∃ t, t < q ∧ top t = i := Classical.byContradiction fun hno => hneg (by
      rw [idx_no htop (by omega) fun t ht he => hno ⟨t, ht, he⟩]; decide)
     rw [idx_yes htop ht (by omega) hti']
     refine rs_skip (nx_thenR ?_)
     have hsub := ha.sub_ (i := 0) (j := i) (by omega) (by rw [ptr_len]; omega)
     rw [take_ptr] at hsub
     have hsl : (al.take i).length = i := by rw [List.length_take]; omega
     have hsR : ∀ h', h12.le h' → Rd h' [] (vsub 1 va 0 i) 1 i (((al.take i).map (ptrS S0)).flatMap cV) := fun h' l => by
      have := ptr_rd (hsub.up l)
      rwa [hsl] at this
     obtain ⟨vs, hvs, hRv, hRs⟩ := hRX
     have htv : t < vs.length := by omega
     have hRvn : Rd h12 [] vc 1 q (vs.flatMap cV) := by have := hRv.rd; rwa [hvs] at this
     have hRt := hRs t htv
     have hRtn : Rd h12 [] vs[t] 1 (Z.d k) ((vec (Z.d k) (X t)).flatMap cI) := by have := hRt.rd; rwa [vec_len] at this
     obtain ⟨us, hus, hRw, hRus⟩ := hRU
     have htu : t < us.length := by omega
     have hRwn : Rd h12 [] vl 1 q (us.flatMap cV) := by have := hRw.rd; rwa [hus] at this
     have hsN : al.getD i 0 < N := M.lt (getD_mem hil)
     refine rs_seq (rs_seq (rs_stab (n := 8) (bs := [true, true, true, true, true, true, true, true]) [true, true, true, true, true, true, true, true] fol (by kernel_rfl) (by kernel_rfl) rfl rfl (by kernel_rfl) (Qp rfl (ox_load rfl underlying130 rfl rfl (hA2 0 _ rfl _)) (Qp rfl (ox_nilCheck rfl rfl) (Qp rfl (ox_fieldF fd132_2 rfl rfl) (Qp rfl (ox_load rfl underlying106 rfl rfl (hAg 2 _ rfl _)) (Qp rfl (ox_load rfl underlying3 rfl rfl (hA10 0 _ rfl _)) (Qp rfl (ox_sliceR_h (i) (ptr_rd ha).any rfl underlying106 el108 rfl rfl (by omega) (by omega)) (Qp rfl (ox_lenR (hsR _ (Hp.le_refl _)).any rfl underlying106 rfl) (Qp rfl (ox_move rfl rfl) ?_))))))))))
     unfold PZs
     simp only [List.cons_append, List.nil_append]
     refine Qe (nx_thenR (rs_block (rs_top 1 rfl ?_)))
     refine rs_loop (fun n s hh ms => ∃ (j : Nat) (S' : Nat → SM) (mB : Hp), n = i - j ∧ s = [(2, .pointer (some ⟨g2, 0, none⟩)), (3, .pointer (some ⟨g3, 0, none⟩)), (7, .pointer (some ⟨g7, 0, none⟩)), (8, .pointer (some ⟨g8, 0, none⟩)), (9, .pointer (some ⟨g9, 0, none⟩)), (10, .pointer (some ⟨g10, 0, none⟩)), (11, ptrS S0 (al.getD i 0)), (12, .int .i64 t), (66, vsub 1 va 0 i), (67, .int .i64 i), (68, .int .i64 j)] ∧ h12 = hh ∧ ms = [mB, mT, me] ∧ j ≤ i ∧ FwI Z k N S S' al (al.getD i 0) (fun j => Z.p - X t j) j ∧ BagS Z.d N (growB al q top U k (i + 1) S') mB)
      (i - 0) _ ⟨0, S, mB, rfl, rfl, rfl, rfl, by omega, FwI.start W.val W.bd, B⟩ Qs ?_
     rintro n s hh2 ms' ⟨j, S', mB, rfl, rfl, rfl, rfl, hj, I, B⟩
     have hgi := growB_not (U := U) (k := k) (S := S') (stB_low M.nodup htl (Nat.lt_succ_self i) hil)
     have hki : (S' (al.getD i 0)).to = k := by rw [(I.same _).2.2, (W.same _).2.2]; exact M.live _ (getD_mem hil)
     have hgs : ptrS S0 (al.getD i 0) = .pointer (some ⟨(growB al q top U k (i + 1) S' (al.getD i 0)).g, 0, none⟩) := by unfold ptrS; rw [hgi, (I.same _).1, (W.same _).1]
     refine rs_seq (rs_region_ (by kernel_rfl) (Qx (ox_lss rfl rfl rfl) rfl (wl_nil (nx_thenR (rs_seq ?_)))))
     refine rs_if rfl (fun hltj => ?_) (fun hltj => ?_)
     ·have hji : j < i := nat_lt_of hltj
      have hjl : j < al.length := by omega
      have hcs : ∀ ms, Cell h12 ms ((vbase (vsub 1 va 0 i)).add (j * 1)) (ptrS S0 (al.getD j 0)) := fun ms => by
       have := ptr_cell (hsub.any (ms := ms)) (i := j) (by omega)
       rwa [take_getD hji] at this
      have hgj := growB_not (U := U) (k := k) (S := S') (stB_low M.nodup htl (show j < i + 1 by omega) hjl)
      have hgt : ptrS S0 (al.getD j 0) = .pointer (some ⟨(growB al q top U k (i + 1) S' (al.getD j 0)).g, 0, none⟩) := by unfold ptrS; rw [hgj, (I.same _).1, (W.same _).1]
      have htN : al.getD j 0 < N := M.lt (getD_mem hjl)
      have hne : al.getD j 0 ≠ al.getD i 0 := fun he => by have := getD_inj M.nodup hjl hil he; omega
      have hkj : (S' (al.getD j 0)).to = k := by rw [(I.same _).2.2, (W.same _).2.2]; exact M.live _ (getD_mem hjl)
      have hmay : (dcOf N S).may Z (al.getD j 0) (al.getD i 0) := by
       have h1 := List.pairwise_iff_getElem.1 M.ord j i hjl hil hji
       have e1 : al[j] = al.getD j 0 := by simp [List.getD, hjl]
       have e2 : al[i] = al.getD i 0 := by simp [List.getD, hil]
       rw [e1, e2] at h1
       unfold Dc.may at h1 ⊢
       show (S (al.getD j 0)).fr = (S (al.getD i 0)).fr ∨ ((S (al.getD i 0)).fr < (S (al.getD j 0)).fr ∧ Z.back ((S (al.getD j 0)).fr - 1) = true) ∨ ((S (al.getD j 0)).fr < (S (al.getD i 0)).fr ∧ Z.back ((S (al.getD i 0)).fr - 1) = false)
       rw [(W.same (al.getD j 0)).2.1, (W.same (al.getD i 0)).2.1]
       exact h1
      have hxb := hLP.bdX t ht j (by omega)
      have hcx : ∀ ms, Cell h12 ms ((vbase vs[t]).add (j * 1)) (.int .i64 (X t j)) := fun ms => by
       exact (hRt.any (ms := ms)).ev (show j < Z.d k by omega)
      refine rs_skip (nx_thenR (rs_seq (rs_block (rs_seq (rs_region_ (by kernel_rfl) (Qm rfl (Qx (ox_indexR _ (hsR _ (Hp.le_refl _)).any rfl underlying106 el108 rfl rfl rfl (by omega)) rfl (Qx (ox_load rfl underlying108 rfl rfl (hcs _)) rfl (Qm rfl (Qm rfl (wl_nil (nx_thenR ?_))))))))))))
      rw [hgs, hgt]
      refine rs_stab (n := 14) (bs := [true, true, true, true, true, true, true, true, true, true, true, true, true, false]) [true, true, true, true, true, true, true, true, true, true, true, true, true] fol (by kernel_rfl) (by kernel_rfl) rfl rfl (by kernel_rfl) (Qp rfl (ox_move rfl rfl) (Qp rfl (ox_load rfl underlying130 rfl rfl (hA2 0 _ rfl _)) (Qp rfl (ox_nilCheck rfl rfl) (Qp rfl (ox_fieldF fd132_0 rfl rfl) (Qp rfl (ox_load rfl underlying3 rfl rfl (hAg 0 _ rfl _)) (Qp rfl (ox_load rfl underlying62 rfl rfl ((hG7.at0 rfl).any)) (Qp rfl (ox_move rfl rfl) (Qp rfl (ox_indexR (t) hRvn.any rfl underlying62 el24 rfl rfl (by omega) (by omega)) (Qp rfl (ox_load rfl underlying24 rfl rfl (hRv.any.cell0 htv rfl)) (Qp rfl (ox_move rfl rfl) (Qp rfl (ox_indexR (j) hRtn.any rfl underlying24 el3 rfl rfl (by omega) (by omega)) (Qp rfl (ox_load rfl underlying3 rfl rfl (hcx _)) (Qp rfl (ox_move rfl rfl) ?_)))))))))))))
      unfold PZs
      simp only [List.cons_append, List.nil_append]
      refine Qo 13 rfl ?_
      refine wl_call_ (pre := [mB]) rfl call112 rfl (addB_ok Z.p (X t j) Z.d N (al.getD i 0) (al.getD j 0) (growB al q top U k (i + 1) S') mB h12 hbp (by omega) (fun j => Nat.le_trans (hd j) (by omega)) hsN htN (Ne.symm hne) (by rw [hgi, hgj, hki, hkj]) (by rw [hgi, hki]; omega) (by rw [hgi]; exact I.bd _ hsN) (by rw [hgj]; exact I.bd _ htN) B) rfl rfl rfl rfl (fun x h16 ms16 l16 hF => ?_)
      obtain ⟨rfl, mB', rfl, B'⟩ := hF
      refine Qw (Qe (nx_block (nx_thenR (rs_region_ (by kernel_rfl) (Qx (ox_add rfl rfl rfl (by omega)) rfl (Qm rfl (wl_nil ?_)))))))
      rw [← hgs]
      refine nx_round (i - (j + 1)) _ (by omega) ⟨j + 1, adds Z.p (X t j) (al.getD i 0) (al.getD j 0) S', mB', rfl, rfl, rfl, rfl, by omega, ?_, ?_⟩ Qs
      ·have := I.step (by omega) hsN htN hne (by rw [(W.same _).2.2]; exact M.live _ (getD_mem hil)) (by rw [(W.same _).2.2]; exact M.live _ (getD_mem hjl)) hmay
       rwa [show Z.p - (Z.p - X t j) = X t j by omega] at this
      ·rw [← growB_adds (stB_low M.nodup htl (Nat.lt_succ_self i) hil) (stB_low M.nodup htl (show j < i + 1 by omega) hjl)]
       exact B'
     ·obtain rfl : j = i := by omega
      refine rs_exit (nx_then_exit (nx_then_exit (nx_block_exit (nx_thenR ?_))))
      rw [hgs]
      refine rs_seq (rs_region_ (by kernel_rfl) (Qm rfl (Qx (ox_load rfl underlying62 rfl rfl ((hG8.at0 rfl).any)) rfl (Qm rfl (Qx (ox_indexR (t) hRwn.any rfl underlying62 el24 rfl rfl (by omega) (by omega)) rfl (Qx (ox_load rfl underlying24 rfl rfl (hRw.any.cell0 htu rfl)) rfl ?_))))))
      refine wl_call_ (pre := [mB]) rfl call113 rfl (growB_ok Z.d N (al.getD j 0) (growB al q top U k (j + 1) S') (U t) us[t] mB h12 hsN (by rw [hgi, hki]; exact hRus t htu) (by rw [hgi, hki]; omega) (by rw [hgi]; omega) B) rfl rfl rfl rfl (fun x h16 ms16 l16 hF => ?_)
      obtain ⟨rfl, mB', rfl, B'⟩ := hF
      rw [growB_top M.nodup htl hti ht hti' hki] at B'
      refine wl_nil (nx_thenR (rs_region_ (by kernel_rfl) (Qx (ox_load rfl underlying147 rfl rfl ((hG9.at0 rfl).any)) rfl (Qx (ox_load rfl underlying3 rfl rfl (hA10 0 _ rfl _)) rfl ?_))))
      refine wl_mapUpdate (z := undef) 1 (j : Int) true intKeys OT rfl rfl underlying147 rfl rfl rfl (by unfold I64; omega) rfl rfl (fun mT' bs' OT' => ?_)
      refine wl_nil (nx_block (nx_back LG lG fun h13 l13 b13 => (nx_perm (ms' := [mT', mB', bg, me]) ((List.Perm.swap mB' bg [mT', me]).trans ((List.Perm.cons mB' (List.Perm.swap mT' bg [me])).trans (List.Perm.swap mT' mB' [bg, me]))) ?_)))
      refine nx_meet [] ⟨S', mB', mT', _, bs', rfl, ?_, B', OT', fun b hb => ?_⟩ trivial
      ·refine W.step M.nodup hil ht hti' htl hti ?_ (fun b h1 h2 => ?_) I fun a ha => ?_
       ·have := (htop t ht).2.1
        rwa [hti'] at this
       ·exact (htop t ht).2.2.1 b (by omega) (by omega)
       ·have := hLP.lift t ht a ha
        rwa [← hal] at this
      ·rw [getK_setT]
       by_cases hbj : b = j
       ·subst hbj
        rw [if_pos rfl]
        exact (stB_iff.2 ⟨t, ht, by omega, by rw [hti']⟩).symm
       ·rw [if_neg (by omega), hT b hb]
        exact stB_up M.nodup htl hil hb hbj
   ·intro D hh ms1 lh hJ
    obtain ⟨S, mB, mT, T, bs, rfl, W, B, OT, hT⟩ := hJ
    rw [Nat.sub_self] at W B hT
    rw [← hgb] at *
    have l2h := Hp.le_trans l210 lh
    have hG2 := hG2.le lh
    have hG9 := hG9.le lh
    have ha := ha.up lh
    have hA := hA0.up l2h
    have hG3 := hG30.le l2h
    refine nx_perm (ms' := [mB, Blk gm 132 [.int .i64 Z.p, .int .i64 k, va, ve], me, mT, Mk D]) (List.perm_append_comm (l₁ := [mT]) (l₂ := [mB, Blk gm 132 [.int .i64 Z.p, .int .i64 k, va, ve], me]) |>.append_right [Mk D]) (nx_block (nx_then (RsQ (Qx (ox_load rfl underlying130 rfl rfl ((hG2.at0 rfl).any)) rfl (Qx (ox_nilCheck rfl rfl) rfl (Qx (ox_fieldF fd132_1 rfl rfl) rfl (Qx (ox_load rfl underlying3 rfl rfl (Cell.blk 1 (k := 1) rfl rfl)) rfl (Qx (ox_add rfl rfl rfl (by omega)) rfl (Qx (ox_nilCheck rfl rfl) rfl (Qx (ox_fieldF fd132_1 rfl rfl) rfl ?_))))))))))
    refine wl_storeAt 1 _ rfl el3 rfl rfl (by rfl) rfl rfl (by (simp; done)) rfl rfl ?_
    refine RtQ (Qm rfl (RtQ (Qx (ox_loadG rfl underlying42 rfl el42 rfl rfl (Seg.any hG3)) rfl (wl_call rfl call114 rfl (kernel_ok Z.p (Z.d k) (Z.d (k + 1)) (Z.mat k) ev hh RA hA) rfl rfl rfl (fun xk h11 ms11 l11 hF => ?_)))))
    obtain ⟨l11', F, pv, nb, hEch, hnb, xe, mk, rfl, rfl, hOk⟩ := hF
    have ox : xe.oneCell' = true := (hOk.rd (h := h) (ms := [mk]) (List.Mem.head _)).rd.one
    refine AlQ [.int .i64 0, .int .i64 0, .int .i64 0, .slice none 0 0] rfl el42 rfl rfl (fun g16 => ?_)
    refine wl_storeAll 0 [_, _, _, _] rfl el42 rfl rfl rfl (by (simp [ox]; done)) rfl rfl rfl rfl rfl ?_
    refine RnQ (ws_freezeB fun h12 l12 hG16 => (ws_freezeL hOk fun h13 l13 hRk => ?_))
    have hK := kerf_ok hbp.1 hEch.red hnb
    have hrk := hLP.rank F pv hEch
    have lh13 := Hp.le_trans l11 (Hp.le_trans l12 l13)
    have hG2 := hG2.le lh13
    have hG9 := hG9.le lh13
    have ha := ha.up lh13
    have hG16 := hG16.le l13
    have lh := Hp.le_trans l2h lh13
    refine ws_emp (ws_top 1 rfl (ws_top 2 rfl (ws_swap ?_)))
    have hA16 := Seg.all hG16
    generalize hu : kerf pv Z.p F (Z.d (k + 1)) = K at *
    generalize hSB : growB al q top U k 0 S = SB at *
    have hSBg : ∀ l, (SB l).g = (S0 l).g := fun l => by rw [← hSB, (growB_g l).1, (W.same l).1]
    refine ws_cut (fun s hh ms' => ∃ (gb : Nat → Nat) (vst : Value) (mB mst : Hp), s = [(2, .pointer (some ⟨g2, 0, none⟩)), (9, .pointer (some ⟨g9, 0, none⟩)), (15, vst)] ∧ h13.le hh ∧ ms' = [mB, Blk gm 132 [.int .i64 Z.p, .int .i64 ((k : Int) + 1), va, ve], mst, me, mT, Mk D] ∧ BagS Z.d (N + nb) (bornN N k gb (fun s a => K a s) SB) mB ∧ OwnL cV 1 108 mst vst ((List.range' N nb).map (ptrS (bornN N k gb (fun s a => K a s) SB)))) ?_ (fun s h ms hI => ?_)
    ·refine ws_seq (ws_region (Qx (ox_fieldF fd42_2 rfl rfl) rfl (Qx (ox_load rfl underlying3 rfl rfl (hA16 2 _ rfl _)) rfl (Qm rfl (RnQ (ws_block ?_))))))
     have hnbl : nb ≤ 200 := by omega
     refine ws_loop (fun n s hh ms' => ∃ (b : Nat) (gb : Nat → Nat) (vst : Value) (mB mst : Hp), n = nb - b ∧ s = [(2, .pointer (some ⟨g2, 0, none⟩)), (9, .pointer (some ⟨g9, 0, none⟩)), (15, vst), (16, .pointer (some ⟨g16, 0, none⟩)), (106, .int .i64 nb), (107, .int .i64 b)] ∧ h13.le hh ∧ ms' = [mB, Blk gm 132 [.int .i64 Z.p, .int .i64 ((k : Int) + 1), va, ve], mst, me, mT, Mk D] ∧ b ≤ nb ∧ BagS Z.d (N + b) (bornN N k gb (fun s a => K a s) SB) mB ∧ OwnL cV 1 108 mst vst ((List.range' N b).map (ptrS (bornN N k gb (fun s a => K a s) SB))))
      (nb - 0) _ ⟨0, fun _ => 0, _, mB, _, rfl, rfl, Hp.le_refl _, rfl, by omega, ?_, OwnL.nil cV_len⟩ Qs ?_
     ·exact B.mono fun l hl x O => by rw [bornN_lt hl]; exact O
     rintro n s hh2 ms' ⟨b, gb, vst, mB, mst, rfl, rfl, lb, rfl, hb2, B, hst⟩
     refine RsQ (Qx (ox_lss rfl rfl rfl) rfl (RnQ (ws_seq ?_)))
     refine ws_if rfl (fun hltb => ?_) (fun hltb => ?_)
     ·have hbl : b < nb := nat_lt_of hltb
      refine ws_skip (nx_then (ws_seq (ws_block (RsQ (Qm rfl (Qm rfl (RnQ (ws_swap (ws_lend fun h14 l14 lM2 dM2 LM2 => ?_)))))))))
      have hG2 := hG2.le (Hp.le_trans lb l14)
      have hG16 := hG16.le (Hp.le_trans lb l14)
      have hRk := hRk.up (Hp.le_trans lb l14)
      have hstl2 : ((List.range' N b).map (ptrS (bornN N k gb (fun s a => K a s) SB))).length ≤ 1000 := by simp; omega
      refine ws_stab (n := 9) (bs := [true, true, true, true, false, false, false, false, false]) [true, true, true, true] fol (by kernel_rfl) (by kernel_rfl) rfl rfl (Qp rfl (ox_move rfl rfl) (Qp rfl (ox_load rfl underlying130 rfl rfl ((hG2.at0 rfl).any)) (Qp rfl (ox_loadG rfl underlying42 rfl el42 rfl rfl (Seg.any hG16)) (Qp rfl (ox_move rfl rfl) ?_))))
      unfold PZs
      simp only [List.cons_append, List.nil_append]
      refine Qo 4 rfl (wl_call rfl call89 rfl (column_ok Z.p (Z.d (k + 1)) nb K xe b h14 (by omega) (by omega) hbl hRk) rfl rfl rfl (fun v h15 ms15 l15 hF => ?_))
      obtain ⟨rfl, mv, rfl, hOv⟩ := hF
      refine wl_freezeL hOv fun h15 l15 hRv => ?_
      have ov := hRv.rd.one
      refine Qa (Qo 5 rfl (wl_call rfl call88 rfl (born_ok Z.d gm (k + 1) (fun a => K a b) v _ _ _ h15 (Seg.ofLe (Hp.le_trans lM2 l15)) hRv (by omega)) rfl rfl rfl (fun x h16 ms16 l16 hF => ?_)))
      obtain ⟨rfl, g, m, rfl, rfl, hS⟩ := hF
      refine Qa (Qo 6 rfl ?_)
      refine wl_buildSlice1 [_] rfl underlying106 el108 rfl (by rfl) rfl rfl (by omega) rfl rfl rfl (fun g116 => ?_)
      refine Qa (Qo 7 rfl ?_)
      refine wl_appendV 3 hst (RdL.one cV_len (List.Mem.head _) rfl) rfl underlying106 el108 rfl (by omega) rfl rfl rfl (one_of rfl) (by simp only [List.length_singleton]; omega) (by simp only [List.length_singleton]; omega) rfl rfl rfl (fun vst2 mst2 hst2 => ?_)
      refine Qa (Qo 8 rfl (Qm rfl (Qa (Qe (nx_drop (nx_back LM2 (Hp.le_trans lM2 l15) fun h17 q17 b17 => (nx_apart fun hap => ?_)))))))
      have hdj2 : mB.disj m := by
       have h1 := (List.pairwise_cons.1 hap).2
       exact Hp.disj_symm ((List.pairwise_cons.1 h1).1 _ (by simp))
      refine nx_top 1 rfl (nx_top 2 rfl (nx_join (nx_block (nx_then (ws_region (Qx (ox_add rfl rfl rfl (by omega)) rfl (Qm rfl (wl_nil ?_))))))))
      refine nx_round (nb - (b + 1)) _ (by omega) ⟨b + 1, gbS gb (N + b) g, vst2, mB.join m, mst2, rfl, rfl, Hp.le_trans lb (b17 _ (Hp.le_trans l14 l15) dM2), rfl, by omega, ?_, ?_⟩ Qs
      ·refine Bag.snoc (N := N + b) (B.mono fun l hl x O => ?_) ?_ hdj2
       ·rw [bornN_other (by omega)]; exact O
       ·rw [bornN_ge (Nat.le_add_right N b)]
        show StO Z.d (if N + b = N + b then g else gb (N + b)) (k + 1) (k + 1) (fun _ a => K a (N + b - N)) m
        rw [if_pos rfl, Nat.add_sub_cancel_left]
        exact hS
      ·have e1 : (List.range' N (b + 1)).map (ptrS (bornN N k (gbS gb (N + b) g) (fun s a => K a s) SB)) = (List.range' N b).map (ptrS (bornN N k gb (fun s a => K a s) SB)) ++ [.pointer (some ⟨g, 0, none⟩)] := by
        rw [List.range'_1_concat, List.map_append]
        congr 1
        ·refine List.map_congr_left fun l hl => ?_
         unfold ptrS
         rw [bornN_other]
         have := List.mem_range'_1.1 hl; omega
        ·show [ptrS _ (N + b)] = _
         unfold ptrS
         rw [bornN_ge (Nat.le_add_right N b)]
         show [Value.pointer (some ⟨(if N + b = N + b then g else gb (N + b)), 0, none⟩)] = _
         rw [if_pos rfl]
       rw [e1]
       exact hst2
     ·obtain rfl : b = nb := by omega
      refine ws_exit (nx_then_exit (nx_then_exit (nx_block_exit ?_)))
      exact nx_meet _ ⟨gb, vst, mB, mst, rfl, lb, rfl, B, hst⟩ Qs
    ·obtain ⟨gb, vst, mB, mst, rfl, lb, rfl, B, hst⟩ := hI
     have hG2 := hG2.le lb
     have hG9 := hG9.le lb
     have ha := ha.up lb
     have hptr : ∀ l, l < N → ptrS (bornN N k gb (fun s a => K a s) SB) l = ptrS S0 l := fun l hl => by unfold ptrS; rw [bornN_lt hl, hSBg]
     generalize hSf : bornN N k gb (fun s a => K a s) SB = Sf at *
     have hnbl : nb ≤ 200 := by omega
     have hall := List.Perm.length_eq M.perm
     rw [List.length_append, List.length_range] at hall
     refine ws_seq (RsQ (Qx (ox_load rfl underlying130 rfl rfl ((hG2.at0 rfl).any)) rfl (Qx (ox_nilCheck rfl rfl) rfl (Qx (ox_fieldF fd132_2 rfl rfl) rfl (Qx (ox_load rfl underlying106 rfl rfl (Cell.blk 1 (k := 2) rfl rfl)) rfl (Qx (ox_lenR (ptr_rd ha).any rfl underlying106 rfl) rfl (Qm rfl (RnQ (ws_block ?_)))))))))
     refine ws_loop (fun n s hh2 ms' => ∃ (i : Nat) (vst ve' : Value) (mst me' : Hp), n = al.length - i ∧ s = [(2, .pointer (some ⟨g2, 0, none⟩)), (9, .pointer (some ⟨g9, 0, none⟩)), (15, vst), (122, va), (123, .int .i64 al.length), (124, .int .i64 i)] ∧ h = hh2 ∧ ms' = [mB, Blk gm 132 [.int .i64 Z.p, .int .i64 ((k : Int) + 1), va, ve'], mst, me', mT, Mk D] ∧ i ≤ al.length ∧ OwnL cV 1 108 mst vst ((List.range' N nb ++ (al.take i).filter (stB al q top 0)).map (ptrS Sf)) ∧ OwnL cV 1 108 me' ve' ((en ++ (al.take i).filter fun l => !stB al q top 0 l).map (ptrS S0)))
      (al.length - 0) _ ⟨0, vst, ve, mst, me, rfl, rfl, rfl, rfl, by omega, by simpa using hst, by simpa using hE⟩ Qs ?_
     rintro n s hh2 ms' ⟨i, vst, ve', mst, me', rfl, rfl, rfl, rfl, hi, hst, hE⟩
     refine RsQ (Qx (ox_lss rfl rfl rfl) rfl (RnQ (ws_seq ?_)))
     refine ws_if rfl (fun hlt => ?_) (fun hlt => ?_)
     ·have hil : i < al.length := nat_lt_of hlt
      have hiN : al.getD i 0 < N := M.lt (getD_mem hil)
      have hcs : ∀ ms, Cell h ms ((vbase va).add (i * 1)) (ptrS S0 (al.getD i 0)) := fun ms => ptr_cell ha.any hil
      have hlf : ∀ f : Nat → Bool, ((al.take i).filter f).length ≤ al.length := fun f => Nat.le_trans (List.length_filter_le _ _) (by rw [List.length_take]; omega)
      have hl1 : ((List.range' N nb ++ (al.take i).filter (stB al q top 0)).map (ptrS Sf)).length ≤ 400 := by
       have := hlf (stB al q top 0)
       simp only [List.length_map, List.length_append, List.length_range']
       omega
      have hl2 : ((en ++ (al.take i).filter fun l => !stB al q top 0 l).map (ptrS S0)).length ≤ 200000 := by
       have := hlf fun l => !stB al q top 0 l
       simp only [List.length_map, List.length_append]
       omega
      refine ws_skip (nx_then ?_)
      refine ws_cut (fun s hh ms' => ∃ (vst2 ve2 : Value) (mst2 me2 : Hp), s = [(2, .pointer (some ⟨g2, 0, none⟩)), (9, .pointer (some ⟨g9, 0, none⟩)), (15, vst2), (122, va), (123, .int .i64 al.length), (124, .int .i64 i)] ∧ h = hh ∧ ms' = [mB, Blk gm 132 [.int .i64 Z.p, .int .i64 ((k : Int) + 1), va, ve2], mst2, me2, mT, Mk D] ∧ OwnL cV 1 108 mst2 vst2 ((List.range' N nb ++ (al.take (i + 1)).filter (stB al q top 0)).map (ptrS Sf)) ∧ OwnL cV 1 108 me2 ve2 ((en ++ (al.take (i + 1)).filter fun l => !stB al q top 0 l).map (ptrS S0))) ?_ (fun s h ms hI => ?_)
      ·refine ws_block (RsQ (Qm rfl (Qx (ox_indexR _ (ptr_rd ha).any rfl underlying106 el108 rfl rfl rfl (by omega)) rfl (Qx (ox_load rfl underlying108 rfl rfl (hcs _)) rfl (Qm rfl (Qm rfl (RtQ (Qx (ox_load rfl underlying147 rfl rfl ((hG9.at0 rfl).any)) rfl (Qm rfl ?_)))))))))
       refine Qx (ox_lookup (V := vB) (z := false) (i : Int) intKeys OT (by simp) rfl underlying147 zero4 rfl rfl (by unfold I64; omega)) rfl ?_
       rw [hT i hil]
       refine RnQ ?_
       refine ws_cond rfl (fun hsb => ?_) (fun hsb => ?_)
       ·refine ws_region (Qm rfl (Qm rfl ?_))
        refine wl_buildSlice1 [_] rfl underlying106 el108 rfl (by rfl) rfl rfl (by omega) rfl rfl rfl (fun g134 => ?_)
        refine wl_appendV 3 hst (RdL.one cV_len (List.Mem.head _) rfl) rfl underlying106 el108 rfl (by omega) rfl rfl rfl (one_of rfl) (by simp only [List.length_singleton]; omega) (by simp only [List.length_singleton]; omega) rfl rfl rfl (fun vst2 mst2 hst2 => ?_)
        refine Qm rfl (wl_nil (nx_block (nx_drop ?_)))
        refine nx_meet _ ⟨vst2, ve', mst2, me', rfl, rfl, rfl, ?_, ?_⟩ Qs
        ·rw [take_succ' hil, List.filter_append, List.filter_cons_of_pos hsb, List.filter_nil, ← List.append_assoc, List.map_append]
         show OwnL _ _ _ _ _ (_ ++ [ptrS Sf (al.getD i 0)])
         rw [hptr _ hiN]
         exact hst2
        ·rw [take_succ' hil, List.filter_append, List.filter_cons_of_neg (by rw [hsb]; decide), List.filter_nil, List.append_nil]
         exact hE
       ·have hst3 : OwnL cV 1 108 mst vst ((List.range' N nb ++ (al.take (i + 1)).filter (stB al q top 0)).map (ptrS Sf)) := by
         rw [take_succ' hil, List.filter_append, List.filter_cons_of_neg (by rw [hsb]; decide), List.filter_nil, List.append_nil]
         exact hst
        have e3 : ((en ++ (al.take (i + 1)).filter fun l => !stB al q top 0 l).map (ptrS S0)) = ((en ++ (al.take i).filter fun l => !stB al q top 0 l).map (ptrS S0)) ++ [ptrS S0 (al.getD i 0)] := by
         rw [take_succ' hil, List.filter_append, List.filter_cons_of_pos (by rw [hsb]; rfl), List.filter_nil, ← List.append_assoc, List.map_append]
         rfl
        rw [e3]
        refine ws_stab (n := 11) (bs := [true, true, true, true, false, true, false, false, true, true, false]) [true, true, true, true, false, true, false, false, true, true] fol (by kernel_rfl) (by kernel_rfl) rfl rfl (Qp rfl (ox_load rfl underlying130 rfl rfl ((hG2.at0 rfl).any)) (Qp rfl (ox_load rfl underlying130 rfl rfl ((hG2.at0 rfl).any)) (Qp rfl (ox_nilCheck rfl rfl) (Qp rfl (ox_fieldF fd132_3 rfl rfl) (Qp rfl (ox_move rfl rfl) (Qp rfl (ox_nilCheck rfl rfl) (Qp rfl (ox_fieldF fd132_3 rfl rfl) ?_)))))))
        unfold PZs
        simp only [List.cons_append, List.nil_append]
        refine wb_step [4, 6] (by kernel_rfl) rfl ?_
        refine wbl_cons rfl ?_ ?_
        ·refine Qx (ox_load rfl underlying106 rfl rfl (Cell.blk 1 (k := 3) rfl rfl)) rfl (Qw (Qo 6 rfl ?_))
         refine wl_buildSlice1 [_] rfl underlying106 el108 rfl (by rfl) rfl rfl (by omega) rfl rfl rfl (fun g142 => ?_)
         refine Qw (Qo 7 rfl ?_)
         refine wl_appendV 4 hE (RdL.one cV_len (List.Mem.head _) rfl) rfl underlying106 el108 rfl (by omega) rfl rfl rfl (one_of rfl) (by simp only [List.length_singleton]; omega) (by simp only [List.length_singleton]; omega) rfl rfl rfl (fun ve2 me2 hE2 => ?_)
         have oe2 : ve2.oneCell' = true := (hE2.rd (h := h) (ms := [me2]) (List.Mem.head _)).rd.one
         refine Qw (Qo 10 rfl ?_)
         refine wl_storeAt 2 _ rfl el106 rfl rfl (by assumption) rfl rfl (by (simp; done)) rfl rfl ?_
         refine Qw (Qe (nx_block (nx_drop ?_)))
         exact nx_meet _ ⟨vst, ve2, mst, me2, rfl, rfl, rfl, hst3, hE2⟩ Qs
        refine wbl_cons rfl ?_ ?_
        ·refine wl_buildSlice1 [_] rfl underlying106 el108 rfl (by rfl) rfl rfl (by omega) rfl rfl rfl (fun g142 => ?_)
         refine Qw (Qo 4 rfl (Qx (ox_load rfl underlying106 rfl rfl (Cell.blk 2 (k := 3) rfl rfl)) rfl (Qw (Qo 7 rfl ?_))))
         refine wl_appendV 4 hE (RdL.one cV_len (List.Mem.head _) rfl) rfl underlying106 el108 rfl (by omega) rfl rfl rfl (one_of rfl) (by simp only [List.length_singleton]; omega) (by simp only [List.length_singleton]; omega) rfl rfl rfl (fun ve2 me2 hE2 => ?_)
         have oe2 : ve2.oneCell' = true := (hE2.rd (h := h) (ms := [me2]) (List.Mem.head _)).rd.one
         refine Qw (Qo 10 rfl ?_)
         refine wl_storeAt 2 _ rfl el106 rfl rfl (by assumption) rfl rfl (by (simp; done)) rfl rfl ?_
         refine Qw (Qe (nx_block (nx_drop ?_)))
         exact nx_meet _ ⟨vst, ve2, mst, me2, rfl, rfl, rfl, hst3, hE2⟩ Qs
        exact wbl_nil
      ·obtain ⟨vst2, ve2, mst2, me2, rfl, rfl, rfl, hst2, hE2⟩ := hI
       refine ws_region (Qx (ox_add rfl rfl rfl (by omega)) rfl (Qm rfl (wl_nil ?_)))
       exact nx_round (al.length - (i + 1)) _ (by omega) ⟨i + 1, vst2, ve2, mst2, me2, rfl, rfl, rfl, rfl, by omega, hst2, hE2⟩ Qs
     ·obtain rfl : i = al.length := by omega
      have ost : vst.oneCell' = true := (hst.rd (h := h) (ms := [mst]) (List.Mem.head _)).rd.one
      refine ws_exit (nx_then_exit (nx_then_exit (nx_block_exit (nx_then (ws_region (Qx (ox_load rfl underlying130 rfl rfl ((hG2.at0 rfl).any)) rfl (Qm rfl (Qx (ox_nilCheck rfl rfl) rfl (Qx (ox_fieldF fd132_2 rfl rfl) rfl ?_)))))))))
      refine wl_storeAt 1 _ rfl el106 rfl rfl (by assumption) rfl rfl (by (simp; done)) rfl rfl ?_
      refine wl_nil ?_
      rw [List.take_length] at hst hE
      refine nx_top 2 rfl (nx_freezeL hst fun h9 l9 hRst => (nx_top 3 rfl (nx_drop (nx_mark 3 (.inl rfl) rfl ?_))))
      have Mn := Bw.done (gb := gb) hFp hbp.1 M W hb htl hti hK (by omega) hLP.bdU
      rw [hSB, hSf] at Mn
      have e1 : (en ++ al.filter fun l => !stB al q top 0 l).map (ptrS Sf) = (en ++ al.filter fun l => !stB al q top 0 l).map (ptrS S0) := List.map_congr_left fun l hl => by
       have hlN : l < N := by
        rcases List.mem_append.1 hl with h1 | h1
        ·exact List.mem_range.1 (M.perm.mem_iff.1 (List.mem_append_left _ h1))
        ·exact M.lt (List.mem_filter.1 h1).1
       exact hptr l hlN
      exact nx_end0 rfl (⟨Hp.le_trans l02 (Hp.le_trans lh (Hp.le_trans lb l9)), nb, Sf, _, _, vst, ve', me', mB, rfl, hnbl, hRst, by rw [e1]; exact hE, B, Mn⟩)
end Go.Proofs.YtdnelknieikbaaaGreat
namespace Go.Proofs.YtdnelknieikbaaaGreat
open Tryz
open Go.Eng Go.RowKit Go.Lin
variable {k : Nat}
def Zz.zg (Z : Zz) : Zg where
 p := Z.p
 n := Z.dims.length
 d k := (Z.dim k).toNat
 back k := match Z.ars[k]? with | some a => a.b | none => false
 mat k := match Z.ars[k]? with | some a => at2 a.M.cols.toNat a.M.e | none => fun _ _ => 0
theorem Zz.dim_lt {Z : Zz} (hR : Z.Rt) (k : Nat) : 0 ≤ Z.dim k ∧ Z.dim k ≤ 200 := by
 unfold Zz.dim
 rcases Nat.lt_or_ge k Z.dims.length with h | h
 ·have e : Z.dims.getD k 0 = Z.dims[k] := by simp [List.getD, h]
  rw [e]
  exact hR.2.2.2.2.1 _ (List.getElem_mem h)
 ·have e : Z.dims.getD k 0 = 0 := by simp [List.getD, h]
  rw [e]; omega
theorem Zz.zg_d {Z : Zz} (hR : Z.Rt) (k : Nat) : (Z.zg.d k : Int) = Z.dim k := by
 show ((Z.dim k).toNat : Int) = _
 have := Z.dim_lt hR k
 omega
theorem Zz.d_le {Z : Zz} (hR : Z.Rt) (k : Nat) : Z.zg.d k ≤ 200 := by
 have := Z.zg_d hR k
 have := Z.dim_lt hR k
 omega
theorem Zz.nars {Z : Zz} (hR : Z.Rt) : Z.ars.length + 1 = Z.dims.length := by
 have h1 := hR.2.2.1
 have h2 := hR.1
 omega
theorem Zz.zg_back {Z : Zz} (hk : k < Z.ars.length) : Z.zg.back k = Z.ars[k].b := by
 show (match Z.ars[k]? with | some a => a.b | none => false) = _
 rw [List.getElem?_eq_getElem hk]
theorem Zz.zg_mat {Z : Zz} (hk : k < Z.ars.length) : Z.zg.mat k = at2 Z.ars[k].M.cols.toNat Z.ars[k].M.e := by
 show (match Z.ars[k]? with | some a => at2 a.M.cols.toNat a.M.e | none => fun _ _ => 0) = _
 rw [List.getElem?_eq_getElem hk]
theorem Zz.zg_src {Z : Zz} (hk : k < Z.ars.length) : Z.zg.src k = Z.ars[k].src k ∧ Z.zg.tgt k = Z.ars[k].tgt k := by
 unfold Zg.src Zg.tgt Ar.src Ar.tgt
 rw [Z.zg_back hk]
 exact ⟨rfl, rfl⟩
theorem Zz.arrow {Z : Zz} (hR : Z.Rt) (hk : k < Z.ars.length) : Z.ars[k].M.p = Z.p ∧ Z.ars[k].M.rows = Z.zg.d (Z.zg.tgt k) ∧ Z.ars[k].M.cols = Z.zg.d (Z.zg.src k) ∧ Z.ars[k].M.e = mat (Z.zg.d (Z.zg.tgt k)) (Z.zg.d (Z.zg.src k)) (Z.zg.mat k) ∧ RtM Z.p (Z.zg.d (Z.zg.tgt k)) (Z.zg.d (Z.zg.src k)) (Z.zg.mat k) := by
 obtain ⟨⟨h1, h2, h3, h4⟩, h5, h6, h7⟩ := hR.2.2.2.2.2 k hk
 obtain ⟨e1, e2⟩ := Z.zg_src hk
 have hd1 := Z.zg_d hR (Z.zg.tgt k)
 have hd2 := Z.zg_d hR (Z.zg.src k)
 have l1 := Z.d_le hR (Z.zg.tgt k)
 have l2 := Z.d_le hR (Z.zg.src k)
 rw [← e2, ← hd1] at h7
 rw [← e1, ← hd2] at h6
 have hl : Z.ars[k].M.e.length = Z.zg.d (Z.zg.tgt k) * Z.zg.d (Z.zg.src k) := by
  rw [h6, h7] at h3
  exact_mod_cast h3
 have hc : Z.ars[k].M.cols.toNat = Z.zg.d (Z.zg.src k) := by omega
 have hm : Z.ars[k].M.e = mat (Z.zg.d (Z.zg.tgt k)) (Z.zg.d (Z.zg.src k)) (Z.zg.mat k) := by
  rw [Z.zg_mat hk, hc]
  exact mat_of hl
 refine ⟨h5, h7, h6, hm, ⟨h5 ▸ h1, by omega, by omega, fun i hi j hj => ?_⟩⟩
 have hlt := ix_lt hi hj
 have e : Z.zg.mat k i j = Z.ars[k].M.e[i * Z.zg.d (Z.zg.src k) + j] := by
  rw [Z.zg_mat hk, hc]
  unfold at2
  simp [List.getD, show i * Z.zg.d (Z.zg.src k) + j < Z.ars[k].M.e.length by omega]
 rw [e, ← h5]
 exact h4 _ (List.getElem_mem _)
def firstS (gb : Nat → Nat) (l : Nat) : SM := ⟨gb l, 0, 0, fun _ i => eye i l⟩
theorem cnt_all (n : Nat) : cnt n tt = n := by
 induction n with
 | zero => rfl
 | succ n ih => rw [cnt_succ, ih]; rfl
theorem mch_first {Z : Zg} (hp : 2 ≤ Z.p) (gb : Nat → Nat) : Mch Z 0 (Z.d 0) (firstS gb) (List.range (Z.d 0)) [] := by
 have hon : (dcOf (Z.d 0) (firstS gb)).on 0 = tt := funext fun l => rfl
 refine ⟨⟨fun l hl => ⟨Nat.le_refl _, Nat.zero_lt_succ 0⟩, fun k hk => ?_, fun k hk => ?_, fun k hk => ?_⟩, by simp, fun _ _ => rfl, by simp, List.pairwise_of_forall fun _ _ => .inl rfl, fun l hl k h1 h2 i hi => ?_⟩
 ·have hk : k < 1 := hk
  obtain rfl : k = 0 := by omega
  rw [hon]
  exact eye_ind hp (Z.d 0)
 ·have hk : k < 1 := hk
  obtain rfl : k = 0 := by omega
  rw [hon]
  exact cnt_all _
 ·have hk : k + 1 < 1 := hk
  omega
 ·show 0 ≤ eye i l ∧ eye i l < Z.p
  unfold eye
  split <;> omega
theorem ones_ptr {S : Nat → SM} {L : List Nat} : ∀ a ∈ L.map (ptrS S), ∀ c ∈ cV a, c.oneCell' = true := fun a ha c hc => by
 obtain ⟨l, _, rfl⟩ := List.mem_map.1 ha
 simp only [cV, List.mem_singleton] at hc
 subst hc
 rfl
theorem range_snoc (n : Nat) : List.range (n + 1) = List.range n ++ [n] := List.range_succ
theorem firstS_ne {gb : Nat → Nat} {b g l : Nat} (h : l ≠ b) : firstS (gbS gb b g) l = firstS gb l := by
 unfold firstS gbS
 rw [if_neg h]
theorem firstS_eq {gb : Nat → Nat} {b g : Nat} : firstS (gbS gb b g) b = ⟨g, 0, 0, fun _ i => eye i b⟩ := by
 unfold firstS gbS
 rw [if_pos rfl]
theorem decompose_ok (Z : Zz) (vd va : Value) (h : Hp) (hRt : Z.Rt) (hR : RdZ h vd va Z) :
  FnT Tryz.prog 57 #[.agg #[.int .i64 Z.p, vd, va]] h [] (fun r h' ms' => h.le h' ∧ ∃ (N : Nat) (S : Nat → SM) (L : List Nat) (me mB : Hp), ms' = [mB, me] ∧ N ≤ 20400 ∧ OwnL cV 1 108 me r (L.map (ptrS S)) ∧ BagS Z.zg.d N S mB ∧ L.Perm (List.range N) ∧ Valid Z.zg (dcOf N S) ∧ ∀ l, l < N → (S l).Bd Z.p Z.zg.d) := by
 have o1 := hR.d.rd.one
 have o2 := hR.a.rd.one
 have hp := hRt.2.2.2.1
 have hn1 := hRt.1
 have hn2 := hRt.2.1
 have hna := Z.nars hRt
 have hd := Z.d_le hRt
 have hbp := hp.1
 have hbp2 := hp.2.1
 refine fn_enter func57 ntmps57 rfl rfl (fun w0 hw0 => ?_)
 simp only [argS]
 refine RsQ ?_
 refine wl_box [_, _, _] rfl rfl (by rfl) rfl rfl rfl (fun g1 => ?_)
 refine Qm rfl (RnQ (ws_freezeB fun h1 l1 hG1 => ?_))
 have hR := hR.up l1
 have hA := Seg.all hG1
 have hc0 : ∀ ms, Cell h1 ms ((vbase vd).add (0 * 1)) (.int .i64 (Z.zg.d 0)) := fun ms => by
  rw [Z.zg_d hRt 0]
  exact zdim hR (by omega)
 refine RsQ (Qx (ox_fieldF fd30_0 rfl rfl) rfl (Qx (ox_load rfl underlying3 rfl rfl ((hG1.at0 rfl).any)) rfl ?_))
 refine Qx (ox_buildS st132 [.int .i64 0, .int .i64 0, .slice none 0 0, .slice none 0 0] [(0, _)] [_, _, _, _] rfl el132 rfl rfl (by repeat (first | exact trivial | refine ⟨⟨rfl, rfl, rfl⟩, ?_⟩)) rfl) rfl ?_
 refine wl_box [_, _, _, _] rfl rfl (by rfl) rfl rfl rfl (fun g11 => ?_)
 refine Qm rfl (RnQ ?_)
 refine ws_cut (fun s hh ms' => ∃ (g4 : Nat) (xe : Value) (mx : Hp), s = [(1, .pointer (some ⟨g1, 0, none⟩)), (3, .pointer (some ⟨g11, 0, none⟩)), (4, .pointer (some ⟨g4, 0, none⟩))] ∧ h1 = hh ∧ ms' = [Blk g4 42 [.int .i64 Z.p, .int .i64 (Z.zg.d 0), .int .i64 (Z.zg.d 0), xe], mx, Blk g11 132 [.int .i64 Z.p, .int .i64 0, .slice none 0 0, .slice none 0 0]] ∧ OwnL cI 1 3 mx xe (mat (Z.zg.d 0) (Z.zg.d 0) eye)) ?_ (fun s h ms hI => ?_)
 ·refine ws_stab (n := 9) (bs := [true, true, true, true, true, true, false, false, false]) [true, true, true, true, true, true] fol (by kernel_rfl) (by kernel_rfl) rfl rfl (Qp rfl (ox_fieldF fd30_0 rfl rfl) (Qp rfl (ox_load rfl underlying3 rfl rfl ((hG1.at0 rfl).any)) (Qp rfl (ox_fieldF fd30_1 rfl rfl) (Qp rfl (ox_load rfl underlying24 rfl rfl (hA 1 _ rfl _)) (Qp rfl (ox_indexR 0 hR.d.rd.any rfl underlying24 el3 rfl rfl rfl (by omega)) (Qp rfl (ox_load rfl underlying3 rfl rfl (hc0 _)) ?_))))))
  unfold PZs
  simp only [List.cons_append, List.nil_append]
  refine wb_step [6, 7] (by kernel_rfl) rfl ?_
  refine wbl_cons rfl ?_ ?_
  ·refine wl_call rfl call87 rfl (one_ok Z.p (Z.zg.d 0) h1 hp (Nat.le_trans (hd 0) (by omega))) rfl rfl rfl (fun x7 h7 ms7 l7 hF => ?_)
   obtain ⟨rfl, xe, mx, rfl, rfl, hOx⟩ := hF
   have ox : xe.oneCell' = true := (hOx.rd (h := h) (ms := [mx]) (List.Mem.head _)).rd.one
   refine Qw (Qo 7 rfl (AlQ [.int .i64 0, .int .i64 0, .int .i64 0, .slice none 0 0] rfl el42 rfl rfl (fun g4 => Qw (Qo 8 rfl ?_))))
   refine wl_storeAll 0 [_, _, _, _] rfl el42 rfl rfl rfl (by (simp [ox]; done)) rfl rfl rfl rfl rfl ?_
   refine Qw (Qe ?_)
   exact nx_meet _ ⟨g4, xe, mx, rfl, rfl, rfl, hOx⟩ Qs
  refine wbl_cons rfl ?_ ?_
  ·refine AlQ [.int .i64 0, .int .i64 0, .int .i64 0, .slice none 0 0] rfl el42 rfl rfl (fun g4 => Qw (Qo 6 rfl (wl_call rfl call87 rfl (one_ok Z.p (Z.zg.d 0) h1 hp (Nat.le_trans (hd 0) (by omega))) rfl rfl rfl (fun x7 h7 ms7 l7 hF => ?_))))
   obtain ⟨rfl, xe, mx, rfl, rfl, hOx⟩ := hF
   have ox : xe.oneCell' = true := (hOx.rd (h := h) (ms := [mx]) (List.Mem.head _)).rd.one
   refine Qw (Qo 8 rfl ?_)
   refine wl_storeAll 1 [_, _, _, _] rfl el42 rfl rfl rfl (by (simp [ox]; done)) rfl rfl rfl rfl rfl ?_
   refine Qw (Qe ?_)
   exact nx_swap (nx_meet _ ⟨g4, xe, mx, rfl, rfl, rfl, hOx⟩ Qs)
  exact wbl_nil
 ·obtain ⟨g4, xe, mx, rfl, rfl, rfl, hOx⟩ := hI
  refine ws_freezeB fun h2 l2 hG4 => (ws_freezeL hOx fun h3 l3 hRx => ?_)
  have hG4 := hG4.le l3
  have hA4 := Seg.all hG4
  have hR := hR.up (Hp.le_trans l2 l3)
  have hG1 := hG1.le (Hp.le_trans l2 l3)
  have hA := Seg.all hG1
  refine ws_emp (ws_emp (ws_top 2 rfl (ws_seq (RsQ (Qx (ox_fieldF fd42_2 rfl rfl) rfl (Qx (ox_load rfl underlying3 rfl rfl (hA4 2 _ rfl _)) rfl (Qm rfl (RnQ (ws_block ?_)))))))))
  refine ws_loop (fun q s hh ms' => ∃ (b : Nat) (gb : Nat → Nat) (va : Value) (mB ml : Hp), q = Z.zg.d 0 - b ∧ s = [(1, .pointer (some ⟨g1, 0, none⟩)), (3, .pointer (some ⟨g11, 0, none⟩)), (4, .pointer (some ⟨g4, 0, none⟩)), (20, .int .i64 (Z.zg.d 0)), (21, .int .i64 b)] ∧ h3.le hh ∧ ms' = [Blk g11 132 [.int .i64 Z.p, .int .i64 0, va, .slice none 0 0], mB, ml] ∧ b ≤ Z.zg.d 0 ∧ BagS Z.zg.d b (firstS gb) mB ∧ OwnL cV 1 108 ml va ((List.range b).map (ptrS (firstS gb))))
   (Z.zg.d 0 - 0) _ ⟨0, fun _ => 0, _, _, _, rfl, rfl, Hp.le_refl _, rfl, by omega, Bag.zero _, OwnL.nil cV_len⟩ Qs ?_
  rintro q s hh ms' ⟨b, gb, val, mB, ml, rfl, rfl, lb, rfl, hb, B, hO⟩
  have hd0 := hd 0
  refine RsQ (Qx (ox_lss rfl rfl rfl) rfl (RnQ (ws_seq ?_)))
  refine ws_if rfl (fun hlt => ?_) (fun hlt => ?_)
  ·have hbl : b < Z.zg.d 0 := nat_lt_of hlt
   have hRx := hRx.up lb
   have hA4 := Seg.all (hG4.le lb)
   have hG4 := hG4.le lb
   have hll : ((List.range b).map (ptrS (firstS gb))).length ≤ 400 := by simp; omega
   refine ws_skip (nx_then ?_)
   refine ws_cut (fun s hh ms' => ∃ (gb : Nat → Nat) (va : Value) (mB ml : Hp), s = [(1, .pointer (some ⟨g1, 0, none⟩)), (3, .pointer (some ⟨g11, 0, none⟩)), (4, .pointer (some ⟨g4, 0, none⟩)), (20, .int .i64 (Z.zg.d 0)), (21, .int .i64 b)] ∧ h3.le hh ∧ ms' = [Blk g11 132 [.int .i64 Z.p, .int .i64 0, va, .slice none 0 0], mB, ml] ∧ BagS Z.zg.d (b + 1) (firstS gb) mB ∧ OwnL cV 1 108 ml va ((List.range (b + 1)).map (ptrS (firstS gb)))) ?_ (fun s h ms hI => ?_)
   ·refine ws_block (RsQ (Qm rfl (Qm rfl (RnQ (ws_stab (n := 15) (bs := [true, true, true, true, false, true, true, true, false, false, false, false, true, true, false]) [true, true, true, true, false, true, true, true, false, false, false, false, true, true] fol (by kernel_rfl) (by kernel_rfl) rfl rfl (Qp rfl (ox_move rfl rfl) (Qp rfl (ox_move rfl rfl) (Qp rfl (ox_nilCheck rfl rfl) (Qp rfl (ox_fieldF fd132_2 rfl rfl) (Qp rfl (ox_move rfl rfl) (Qp rfl (ox_loadG rfl underlying42 rfl el42 rfl rfl (Seg.any hG4)) (Qp rfl (ox_move rfl rfl) (Qp rfl (ox_nilCheck rfl rfl) (Qp rfl (ox_fieldF fd132_2 rfl rfl) ?_))))))))))))))
    unfold PZs
    simp only [List.cons_append, List.nil_append]
    refine wb_step [4, 8] (by kernel_rfl) rfl ?_
    refine wbl_cons rfl ?_ ?_
    ·refine Qx (ox_load rfl underlying106 rfl rfl (Cell.blk 0 (k := 2) rfl rfl)) rfl (Qw (Qo 8 rfl (wl_call rfl call89 rfl (column_ok Z.p (Z.zg.d 0) (Z.zg.d 0) eye xe b hh (by omega) (by omega) hbl hRx) rfl rfl rfl (fun v h7 ms7 l7 hF => ?_))))
     obtain ⟨rfl, mv, rfl, hOv⟩ := hF
     refine wl_freezeL hOv fun h7 l7 hRv => ?_
     have ov := hRv.rd.one
     refine Qa (Qo 9 rfl (wl_lend fun h8 l8 lM dM LM => (wl_call rfl call88 rfl (born_ok Z.zg.d g11 0 (fun i => eye i b) v _ _ _ h8 (Seg.ofLe lM) (hRv.up l8) (by omega)) rfl rfl rfl (fun x h9 ms9 l9 hF => ?_))))
     obtain ⟨rfl, g, m, rfl, rfl, hS⟩ := hF
     refine wl_back LM lM fun h9 q9 b9 => ?_
     have l9 := Hp.le_trans l7 (b9 _ l8 dM)
     refine Qa (Qo 10 rfl ?_)
     refine wl_buildSlice1 [_] rfl underlying106 el108 rfl (by rfl) rfl rfl (by omega) rfl rfl rfl (fun g34 => ?_)
     refine Qa (Qo 11 rfl ?_)
     refine wl_appendV 4 hO (RdL.one cV_len (List.Mem.head _) rfl) rfl underlying106 el108 rfl (by omega) rfl rfl rfl (one_of rfl) (by simp only [List.length_singleton]; omega) (by simp only [List.length_singleton]; omega) rfl rfl rfl (fun vl2 ml2 hO2 => ?_)
     have ol2 : vl2.oneCell' = true := (hO2.rd (h := h) (ms := [ml2]) (List.Mem.head _)).rd.one
     refine Qa (Qo 14 rfl ?_)
     refine wl_storeAt 1 _ rfl el106 rfl rfl (by assumption) rfl rfl (by (simp; done)) rfl rfl ?_
     refine Qa (Qe (nx_block (nx_drop (nx_apart fun hap => ?_))))
     have hdj : mB.disj m := Hp.disj_symm ((List.pairwise_cons.1 (List.pairwise_cons.1 hap).2).1 _ (by simp))
     refine nx_top 1 rfl (nx_top 2 rfl ?_)
     refine nx_join (nx_swap (nx_meet _ ⟨gbS gb b g, vl2, mB.join m, ml2, rfl, Hp.le_trans lb l9, rfl, Bag.snoc (N := b) (B.mono fun l hl x O => by rw [firstS_ne (by omega)]; exact O) (by rw [firstS_eq]; exact hS) hdj, ?_⟩ Qs))
     rw [range_snoc, List.map_append, List.map_congr_left fun l hl => show ptrS (firstS (gbS gb b g)) l = ptrS (firstS gb) l by unfold ptrS; rw [firstS_ne (by have := List.mem_range.1 hl; omega)]]
     have e1 : [b].map (ptrS (firstS (gbS gb b g))) = [.pointer (some ⟨g, 0, none⟩)] := by show [ptrS _ b] = _; unfold ptrS; rw [firstS_eq]
     rw [e1]
     exact hO2
    refine wbl_cons rfl ?_ ?_
    ·refine wl_call rfl call89 rfl (column_ok Z.p (Z.zg.d 0) (Z.zg.d 0) eye xe b hh (by omega) (by omega) hbl hRx) rfl rfl rfl (fun v h7 ms7 l7 hF => ?_)
     obtain ⟨rfl, mv, rfl, hOv⟩ := hF
     refine wl_freezeL hOv fun h7 l7 hRv => ?_
     have ov := hRv.rd.one
     refine Qa (wb_step [4, 9] (by kernel_rfl) rfl ?_)
     refine wbl_cons rfl ?_ ?_
     ·refine Qx (ox_load rfl underlying106 rfl rfl (Cell.blk 0 (k := 2) rfl rfl)) rfl (Qa (Qo 9 rfl (wl_lend fun h8 l8 lM dM LM => (wl_call rfl call88 rfl (born_ok Z.zg.d g11 0 (fun i => eye i b) v _ _ _ h8 (Seg.ofLe lM) (hRv.up l8) (by omega)) rfl rfl rfl (fun x h9 ms9 l9 hF => ?_)))))
      obtain ⟨rfl, g, m, rfl, rfl, hS⟩ := hF
      refine wl_back LM lM fun h9 q9 b9 => ?_
      have l9 := Hp.le_trans l7 (b9 _ l8 dM)
      refine Qa (Qo 10 rfl ?_)
      refine wl_buildSlice1 [_] rfl underlying106 el108 rfl (by rfl) rfl rfl (by omega) rfl rfl rfl (fun g34 => ?_)
      refine Qa (Qo 11 rfl ?_)
      refine wl_appendV 4 hO (RdL.one cV_len (List.Mem.head _) rfl) rfl underlying106 el108 rfl (by omega) rfl rfl rfl (one_of rfl) (by simp only [List.length_singleton]; omega) (by simp only [List.length_singleton]; omega) rfl rfl rfl (fun vl2 ml2 hO2 => ?_)
      have ol2 : vl2.oneCell' = true := (hO2.rd (h := h) (ms := [ml2]) (List.Mem.head _)).rd.one
      refine Qa (Qo 14 rfl ?_)
      refine wl_storeAt 1 _ rfl el106 rfl rfl (by assumption) rfl rfl (by (simp; done)) rfl rfl ?_
      refine Qa (Qe (nx_block (nx_drop (nx_apart fun hap => ?_))))
      have hdj : mB.disj m := Hp.disj_symm ((List.pairwise_cons.1 (List.pairwise_cons.1 hap).2).1 _ (by simp))
      refine nx_top 1 rfl (nx_top 2 rfl ?_)
      refine nx_join (nx_swap (nx_meet _ ⟨gbS gb b g, vl2, mB.join m, ml2, rfl, Hp.le_trans lb l9, rfl, Bag.snoc (N := b) (B.mono fun l hl x O => by rw [firstS_ne (by omega)]; exact O) (by rw [firstS_eq]; exact hS) hdj, ?_⟩ Qs))
      rw [range_snoc, List.map_append, List.map_congr_left fun l hl => show ptrS (firstS (gbS gb b g)) l = ptrS (firstS gb) l by unfold ptrS; rw [firstS_ne (by have := List.mem_range.1 hl; omega)]]
      have e1 : [b].map (ptrS (firstS (gbS gb b g))) = [.pointer (some ⟨g, 0, none⟩)] := by show [ptrS _ b] = _; unfold ptrS; rw [firstS_eq]
      rw [e1]
      exact hO2
     refine wbl_cons rfl ?_ ?_
     ·refine wl_lend fun h8 l8 lM dM LM => (wl_call rfl call88 rfl (born_ok Z.zg.d g11 0 (fun i => eye i b) v _ _ _ h8 (Seg.ofLe lM) (hRv.up l8) (by omega)) rfl rfl rfl (fun x h9 ms9 l9 hF => ?_))
      obtain ⟨rfl, g, m, rfl, rfl, hS⟩ := hF
      refine wl_back LM lM fun h9 q9 b9 => ?_
      have l9 := Hp.le_trans l7 (b9 _ l8 dM)
      refine Qa (wb_step [4, 10] (by kernel_rfl) rfl ?_)
      refine wbl_cons rfl ?_ ?_
      ·refine Qx (ox_load rfl underlying106 rfl rfl (Cell.blk 0 (k := 2) rfl rfl)) rfl (Qa (Qo 10 rfl ?_))
       refine wl_buildSlice1 [_] rfl underlying106 el108 rfl (by rfl) rfl rfl (by omega) rfl rfl rfl (fun g34 => ?_)
       refine Qa (Qo 11 rfl ?_)
       refine wl_appendV 4 hO (RdL.one cV_len (List.Mem.head _) rfl) rfl underlying106 el108 rfl (by omega) rfl rfl rfl (one_of rfl) (by simp only [List.length_singleton]; omega) (by simp only [List.length_singleton]; omega) rfl rfl rfl (fun vl2 ml2 hO2 => ?_)
       have ol2 : vl2.oneCell' = true := (hO2.rd (h := h) (ms := [ml2]) (List.Mem.head _)).rd.one
       refine Qa (Qo 14 rfl ?_)
       refine wl_storeAt 1 _ rfl el106 rfl rfl (by assumption) rfl rfl (by (simp; done)) rfl rfl ?_
       refine Qa (Qe (nx_block (nx_drop (nx_apart fun hap => ?_))))
       have hdj : mB.disj m := Hp.disj_symm ((List.pairwise_cons.1 (List.pairwise_cons.1 hap).2).1 _ (by simp))
       refine nx_top 1 rfl (nx_top 2 rfl ?_)
       refine nx_join (nx_swap (nx_meet _ ⟨gbS gb b g, vl2, mB.join m, ml2, rfl, Hp.le_trans lb l9, rfl, Bag.snoc (N := b) (B.mono fun l hl x O => by rw [firstS_ne (by omega)]; exact O) (by rw [firstS_eq]; exact hS) hdj, ?_⟩ Qs))
       rw [range_snoc, List.map_append, List.map_congr_left fun l hl => show ptrS (firstS (gbS gb b g)) l = ptrS (firstS gb) l by unfold ptrS; rw [firstS_ne (by have := List.mem_range.1 hl; omega)]]
       have e1 : [b].map (ptrS (firstS (gbS gb b g))) = [.pointer (some ⟨g, 0, none⟩)] := by show [ptrS _ b] = _; unfold ptrS; rw [firstS_eq]
       rw [e1]
       exact hO2
      refine wbl_cons rfl ?_ ?_
      ·refine wl_buildSlice1 [_] rfl underlying106 el108 rfl (by rfl) rfl rfl (by omega) rfl rfl rfl (fun g34 => ?_)
       refine Qa (Qo 4 rfl (Qx (ox_load rfl underlying106 rfl rfl (Cell.blk 1 (k := 2) rfl rfl)) rfl (Qa (Qo 11 rfl ?_))))
       refine wl_appendV 4 hO (RdL.one cV_len (List.Mem.head _) rfl) rfl underlying106 el108 rfl (by omega) rfl rfl rfl (one_of rfl) (by simp only [List.length_singleton]; omega) (by simp only [List.length_singleton]; omega) rfl rfl rfl (fun vl2 ml2 hO2 => ?_)
       have ol2 : vl2.oneCell' = true := (hO2.rd (h := h) (ms := [ml2]) (List.Mem.head _)).rd.one
       refine Qa (Qo 14 rfl ?_)
       refine wl_storeAt 1 _ rfl el106 rfl rfl (by assumption) rfl rfl (by (simp; done)) rfl rfl ?_
       refine Qa (Qe (nx_block (nx_drop (nx_apart fun hap => ?_))))
       have hdj : mB.disj m := Hp.disj_symm ((List.pairwise_cons.1 (List.pairwise_cons.1 hap).2).1 _ (by simp))
       refine nx_top 1 rfl (nx_top 2 rfl ?_)
       refine nx_join (nx_swap (nx_meet _ ⟨gbS gb b g, vl2, mB.join m, ml2, rfl, Hp.le_trans lb l9, rfl, Bag.snoc (N := b) (B.mono fun l hl x O => by rw [firstS_ne (by omega)]; exact O) (by rw [firstS_eq]; exact hS) hdj, ?_⟩ Qs))
       rw [range_snoc, List.map_append, List.map_congr_left fun l hl => show ptrS (firstS (gbS gb b g)) l = ptrS (firstS gb) l by unfold ptrS; rw [firstS_ne (by have := List.mem_range.1 hl; omega)]]
       have e1 : [b].map (ptrS (firstS (gbS gb b g))) = [.pointer (some ⟨g, 0, none⟩)] := by show [ptrS _ b] = _; unfold ptrS; rw [firstS_eq]
       rw [e1]
       exact hO2
      exact wbl_nil
     exact wbl_nil
    exact wbl_nil
   ·obtain ⟨gb, va, mB, ml, rfl, lb, rfl, B, hO⟩ := hI
    refine ws_region (Qx (ox_add rfl rfl rfl (by omega)) rfl (Qm rfl (wl_nil ?_)))
    exact nx_round (Z.zg.d 0 - (b + 1)) _ (by omega) ⟨b + 1, gb, va, mB, ml, rfl, rfl, lb, rfl, by omega, B, hO⟩ Qs
  ·obtain rfl : b = Z.zg.d 0 := by omega
   have hR := hR.up lb
   have hG1 := hG1.le lb
   have hAb := Seg.all hG1
   refine ws_exit (nx_then_exit (nx_then_exit (nx_block_exit (nx_then (ws_top 2 rfl (ws_freezeL hO fun h4 l4 hRal => (ws_swap (ws_emp (ws_top 1 rfl (ws_top 2 rfl (ws_swap ?_)))))))))))
   have hR := hR.up l4
   have hG1 := hG1.le l4
   have hAb := Seg.all hG1
   refine ws_seq (RsQ (Qx (ox_fieldF fd30_2 rfl rfl) rfl (Qx (ox_load rfl underlying28 rfl rfl (hAb 2 _ rfl _)) rfl (Qx (ox_lenR hR.a.rd.any rfl underlying28 rfl) rfl (Qm rfl (RnQ (ws_block ?_)))))))
   refine ws_loop (fun q s hh ms' => ∃ (k N : Nat) (S : Nat → SM) (al en : List Nat) (val ve : Value) (mB me : Hp), q = Z.ars.length - k ∧ s = [(3, .pointer (some ⟨g11, 0, none⟩)), (40, va), (41, .int .i64 Z.ars.length), (42, .int .i64 k)] ∧ h4.le hh ∧ ms' = [mB, Blk g11 132 [.int .i64 Z.p, .int .i64 k, val, ve], me] ∧ k ≤ Z.ars.length ∧ N ≤ 200 * (k + 1) ∧ RdL cV 1 hh [] val (al.map (ptrS S)) ∧ OwnL cV 1 108 me ve (en.map (ptrS S)) ∧ BagS Z.zg.d N S mB ∧ Mch Z.zg k N S al en)
    (Z.ars.length - 0) _ ⟨0, Z.zg.d 0, firstS gb, List.range (Z.zg.d 0), [], _, _, mB, _, rfl, rfl, Hp.le_refl _, rfl, by omega, by omega, hRal, OwnL.nil cV_len, B, mch_first hbp gb⟩ Qs ?_
   rintro q s hh ms' ⟨k, N, S, al, en, val, ve, mB, me, rfl, rfl, lk, rfl, hk, hN, hal, hen, B, M⟩
   have hR := hR.up lk
   refine RsQ (Qx (ox_lss rfl rfl rfl) rfl (RnQ (ws_seq ?_)))
   refine ws_if rfl (fun hlt => ?_) (fun hlt => ?_)
   ·have hk' : k < Z.ars.length := nat_lt_of hlt
    obtain ⟨e1, e2, e3, e4, RA⟩ := Z.arrow hRt hk'
    have hRe := hR.e _ (List.getElem_mem hk')
    have oa := hRe.rd.one
    have hbk := Z.zg_back hk'
    refine ws_skip (nx_then ?_)
    refine ws_cut (fun s hh2 ms' => ∃ (N : Nat) (S : Nat → SM) (al en : List Nat) (val ve : Value) (mB me : Hp), s = [(3, .pointer (some ⟨g11, 0, none⟩)), (40, va), (41, .int .i64 Z.ars.length), (42, .int .i64 k)] ∧ hh.le hh2 ∧ ms' = [mB, Blk g11 132 [.int .i64 Z.p, .int .i64 ((k : Int) + 1), val, ve], me] ∧ N ≤ 200 * (k + 2) ∧ RdL cV 1 hh2 [] val (al.map (ptrS S)) ∧ OwnL cV 1 108 me ve (en.map (ptrS S)) ∧ BagS Z.zg.d N S mB ∧ Mch Z.zg (k + 1) N S al en) ?_ (fun s h ms hI => ?_)
    ·refine ws_block (RsQ (Qx (ox_indexR _ hR.a.rd.any rfl underlying28 el45 rfl rfl rfl (by omega)) rfl (Qx (ox_loadG rfl underlying45 rfl el45 rfl rfl (hR.a.any.seg hk')) rfl (AlQ [.bool false, .int .i64 0, .int .i64 0, .int .i64 0, .slice none 0 0] rfl el45 rfl rfl (fun g7 => ?_)))))
     refine wl_storeAll 0 [_, _, _, _, _] rfl el45 rfl rfl rfl (by (simp [oa]; done)) rfl rfl rfl rfl rfl ?_
     refine RnQ (ws_freezeB fun h5 l5 hG7 => ?_)
     have hA7 := Seg.all hG7
     have hal := hal.up l5
     have hRe := hRe.up l5
     rw [e4] at hRe
     have hS7 : ∀ ms, Seg h5 ms ((⟨g7, 0, none⟩ : Addr).add 1) [.int .i64 Z.p, .int .i64 (Z.zg.d (Z.zg.tgt k)), .int .i64 (Z.zg.d (Z.zg.src k)), Z.ars[k].v] := fun ms i u hu => by
      rw [addr_add_add]
      rw [← e1, ← e2, ← e3] at hu
      exact hA7 (1 + i) u (by rw [Nat.add_comm]; exact hu) ms
     have hval := hal.rd.one
     refine RsQ (Qx (ox_fieldF fd45_0 rfl rfl) rfl (Qx (ox_load rfl underlying4 rfl rfl (hA7 0 _ rfl _)) rfl (RnQ ?_)))
     refine ws_cond rfl (fun hb => ?_) (fun hb => ?_)
     ·have ht : Z.zg.tgt k = k := by unfold Zg.tgt; rw [hbk, hb]; rfl
      have hs : Z.zg.src k = k + 1 := by unfold Zg.src; rw [hbk, hb]; rfl
      rw [ht, hs] at hS7 hRe RA
      refine ws_region (Qm rfl (Qx (ox_fieldF fd45_1 rfl rfl) rfl (Qx (ox_loadG rfl underlying42 rfl el42 rfl rfl (hS7 _)) rfl (wl_call_ (pre := [mB, Blk g11 132 [.int .i64 Z.p, .int .i64 k, val, ve], me]) rfl call90 rfl (backward_ok Z.zg k N S al en g11 val ve Z.ars[k].v me mB h5 hp hd (by omega) (by omega) M (hbk.trans hb) RA hRe hal hen B) rfl rfl rfl rfl (fun x h6 ms6 l6 hF => ?_)))))
      obtain ⟨l6', nb, S', al', en', val', ve', me', mB', rfl, hnb, hal', hen', B', M'⟩ := hF
      refine wl_nil (nx_block ?_)
      exact nx_meet _ ⟨N + nb, S', al', en', val', ve', mB', me', rfl, Hp.le_trans l5 l6, rfl, by omega, hal', hen', B', M'⟩ Qs
     ·have ht : Z.zg.tgt k = k + 1 := by unfold Zg.tgt; rw [hbk, hb]; rfl
      have hs : Z.zg.src k = k := by unfold Zg.src; rw [hbk, hb]; rfl
      rw [ht, hs] at hS7 hRe RA
      refine ws_region (Qm rfl (Qx (ox_fieldF fd45_1 rfl rfl) rfl (Qx (ox_loadG rfl underlying42 rfl el42 rfl rfl (hS7 _)) rfl (wl_call_ (pre := [mB, Blk g11 132 [.int .i64 Z.p, .int .i64 k, val, ve], me]) rfl call91 rfl (forward_ok Z.zg k N S al en g11 val ve Z.ars[k].v me mB h5 hp hd (by omega) (by omega) M (hbk.trans hb) RA hRe hal hen B) rfl rfl rfl rfl (fun x h6 ms6 l6 hF => ?_)))))
      obtain ⟨l6', nb, S', al', en', val', ve', me', mB', rfl, hnb, hal', hen', B', M'⟩ := hF
      refine wl_nil (nx_block ?_)
      exact nx_meet _ ⟨N + nb, S', al', en', val', ve', mB', me', rfl, Hp.le_trans l5 l6, rfl, by omega, hal', hen', B', M'⟩ Qs
    ·obtain ⟨N', S', al', en', val', ve', mB', me', rfl, l6, rfl, hN', hal', hen', B', M'⟩ := hI
     refine ws_region (Qx (ox_add rfl rfl rfl (by omega)) rfl (Qm rfl (wl_nil ?_)))
     exact nx_round (Z.ars.length - (k + 1)) _ (by omega) ⟨k + 1, N', S', al', en', val', ve', mB', me', rfl, rfl, Hp.le_trans lk l6, rfl, by omega, by omega, hal', hen', B', M'⟩ Qs
   ·obtain rfl : k = Z.ars.length := by omega
    refine ws_exit (nx_then_exit (nx_then_exit (nx_block_exit (nx_then (ws_top 1 rfl (ws_freezeB fun h5 l5 hGm => ?_))))))
    have hAm := Seg.all hGm
    have hal := hal.up l5
    have hperm := M.perm
    have hlen := hperm.length_eq
    rw [List.length_append, List.length_range] at hlen
    have oal := hal.rd.one
    have oen : ve.oneCell' = true := (hen.rd (h := h) (ms := [me]) (List.Mem.head _)).rd.one
    refine ws_cut (fun s hh ms' => ∃ (ve2 : Value) (me2 : Hp), s = [(2, ve2)] ∧ h5 = hh ∧ ms' = [mB, me2] ∧ OwnL cV 1 108 me2 ve2 (en.map (ptrS S) ++ al.map (ptrS S))) ?_ (fun s h ms hI => ?_)
    ·refine ws_stab (n := 10) (bs := [true, true, true, true, true, true, true, true, false, false]) [true, true, true, true, true, true, true, true] fol (by kernel_rfl) (by kernel_rfl) rfl rfl (Qp rfl (ox_move rfl rfl) (Qp rfl (ox_nilCheck rfl rfl) (Qp rfl (ox_fieldF fd132_3 rfl rfl) (Qp rfl (ox_load rfl underlying106 rfl rfl (hAm 3 _ rfl _)) (Qp rfl (ox_move rfl rfl) (Qp rfl (ox_nilCheck rfl rfl) (Qp rfl (ox_fieldF fd132_2 rfl rfl) (Qp rfl (ox_load rfl underlying106 rfl rfl (hAm 2 _ rfl _)) ?_))))))))
     unfold PZs
     simp only [List.cons_append, List.nil_append]
     refine Qo 8 rfl ?_
     refine wl_appendV 1 hen hal.any rfl underlying106 el108 rfl (by omega) rfl rfl rfl ones_ptr (by simp only [List.length_map]; omega) (by simp only [List.length_map]; omega) rfl rfl rfl (fun ve2 me2 hen2 => ?_)
     refine Qw (Qo 9 rfl (Qm rfl (Qw (Qe ?_))))
     exact nx_meet _ ⟨ve2, me2, rfl, rfl, rfl, hen2⟩ Qs
    ·obtain ⟨ve2, me2, rfl, rfl, rfl, hen2⟩ := hI
     rw [← List.map_append] at hen2
     have e : Z.zg.tr Z.ars.length = Z.zg := by
      show ({ Z.zg with n := Z.ars.length + 1 } : Zg) = Z.zg
      rw [hna]; rfl
     have hV := M.val
     rw [e] at hV
     refine ws_ret ?_
     exact nx_ret1 rfl rfl (⟨Hp.le_trans l1 (Hp.le_trans (Hp.le_trans l2 l3) (Hp.le_trans lb (Hp.le_trans l4 (Hp.le_trans lk l5)))), N, S, en ++ al, me2, mB, rfl, by omega, hen2, B, hperm, hV, M.bd⟩)
end Go.Proofs.YtdnelknieikbaaaGreat
namespace Go.Proofs.YtdnelknieikbaaaGreat
open Tryz
open Go.Eng Go.RowKit Go.Lin
def c3 (x y : Int) : Int := if x < y then -1 else if y < x then 1 else 0
def cmp2 (a b : Int × Int) : Int := if c3 a.1 b.1 ≠ 0 then c3 a.1 b.1 else c3 a.2 b.2
theorem cmp2_lt (a b : Int × Int) : cmp2 a b < 0 ↔ a.1 < b.1 ∨ (a.1 = b.1 ∧ a.2 < b.2) := by
 unfold cmp2 c3
 repeat' split
 all_goals omega
theorem isnan_v (x : Int) (h : Hp) (ms : List Hp) : FnV Tryz.prog 105 #[.int .i64 x] h ms (.bool false) := by
 refine fnv ?_ ms
 refine fn_enter func105 ntmps105 rfl rfl (fun w0 hw0 => ?_)
 simp only [argS]
 refine RsQ (Qm rfl (RtQ (Qm rfl (Qm rfl (Qx (ox_nei rfl rfl rfl) rfl (Qm rfl (RnQ (ws_ret ?_))))))))
 exact nx_ret1 rfl rfl (by simp)
theorem compare_v (x y : Int) (h : Hp) (ms : List Hp) : FnV Tryz.prog 79 #[.int .i64 x, .int .i64 y] h ms (.int .i64 (c3 x y)) := by
 refine fnv ?_ ms
 refine fn_enter func79 ntmps79 rfl rfl (fun w0 hw0 => ?_)
 simp only [argS]
 refine RsQ (Qm rfl (RtQ (Qm rfl (Qx (ox_call rfl call105 rfl (isnan_v _ _ _)) rfl (Qm rfl (RtQ (Qm rfl (Qx (ox_call rfl call105 rfl (isnan_v _ _ _)) rfl (Qm rfl (RnQ (ws_seq (RsQ (Qm rfl (RnQ (ws_cond_f rfl (ws_skip (nx_then (ws_seq (RsQ (Qm rfl (RnQ (ws_cond_f rfl (ws_skip (nx_then (ws_seq (RsQ (Qm rfl (Qm rfl (Qx (ox_lss rfl rfl rfl) rfl (RnQ ?_))))))))))))))))))))))))))))))
 refine ws_if rfl (fun h1 => ?_) (fun h1 => ?_)
 ·refine ws_seq (ws_region (Qm rfl (RnQ (ws_ret (nx_then_ret ?_)))))
  exact nx_ret1 rfl rfl (by unfold c3; rw [if_pos h1])
 ·refine ws_skip (nx_then (ws_seq (RsQ (Qm rfl (Qm rfl (Qx (ox_gtr rfl rfl rfl) rfl (RnQ ?_)))))))
  refine ws_if rfl (fun h2 => ?_) (fun h2 => ?_)
  ·refine ws_seq (ws_region (Qm rfl (RnQ (ws_ret (nx_then_ret ?_)))))
   exact nx_ret1 rfl rfl (by unfold c3; rw [if_neg h1, if_pos h2])
  ·refine ws_skip (nx_then (RsQ (Qm rfl (RnQ (ws_ret ?_)))))
   exact nx_ret1 rfl rfl (by unfold c3; rw [if_neg h1, if_neg h2])
def orL : List Int → Int
 | [] => 0
 | x :: l => if x ≠ 0 then x else orL l
theorem orL_drop {l : List Int} {k : Nat} (hk : k < l.length) : orL (l.drop k) = if l[k] ≠ 0 then l[k] else orL (l.drop (k + 1)) := by
 rw [List.drop_eq_getElem_cons hk]; rfl
theorem or_v (l : List Int) (v : Value) (h : Hp) (hR : RdL cI 1 h [] v l) : FnV Tryz.prog 78 #[v] h [] (.int .i64 (orL l)) := by
 refine fnv ?_ []
 have hl := hR.len_le
 refine fn_enter func78 ntmps78 rfl rfl (fun w0 hw0 => ?_)
 simp only [argS]
 refine RsQ (Qm rfl (RtQ (Qm rfl (RnQ (ws_seq (RsQ (Qm rfl (Qx (ox_lenR hR.rd.any rfl underlying24 rfl) rfl (Qm rfl (RnQ (ws_block ?_)))))))))))
 refine ws_loop (fun q s h' ms' => ∃ (k : Nat), q = l.length - k ∧ s = [(3, .int .i64 0), (6, v), (7, .int .i64 l.length), (8, .int .i64 k)] ∧ h = h' ∧ ms' = [] ∧ k ≤ l.length ∧ orL (l.drop k) = orL l)
  (l.length - 0) _ ⟨0, rfl, rfl, rfl, rfl, by omega, rfl⟩ Qs ?_
 rintro q s h' ms' ⟨k, rfl, rfl, rfl, rfl, hk, ho⟩
 refine RsQ (Qx (ox_lss rfl rfl rfl) rfl (RnQ (ws_seq ?_)))
 refine ws_if rfl (fun hlt => ?_) (fun hlt => ?_)
 ·have hkl : k < l.length := nat_lt_of hlt
  rw [orL_drop hkl] at ho
  refine ws_skip (nx_then (ws_seq (ws_block (RsQ (Qx (ox_indexR _ hR.rd.any rfl underlying24 el3 rfl rfl rfl (by omega)) rfl (Qx (ox_load rfl underlying3 rfl rfl (hR.any.cell0 hkl rfl)) rfl (Qm rfl (RtQ (Qm rfl (Qm rfl (Qx (ox_nei rfl rfl rfl) rfl (RnQ ?_))))))))))))
  refine ws_if rfl (fun h1 => ?_) (fun h1 => ?_)
  ·refine ws_seq (ws_region (Qm rfl (Qm rfl (RnQ (ws_ret (nx_block_ret (nx_then_ret (nx_then_ret (nx_block_ret (nx_then_ret ?_))))))))))
   exact nx_ret1 rfl rfl (by rw [← ho, if_pos h1])
  ·refine ws_skip (nx_block (nx_then (ws_region (Qx (ox_add rfl rfl rfl (by omega)) rfl (Qm rfl (wl_nil ?_))))))
   refine nx_round (l.length - (k + 1)) _ (by omega) ⟨k + 1, rfl, rfl, rfl, rfl, by omega, ?_⟩ Qs
   rw [if_neg h1] at ho
   exact ho
 ·obtain rfl : k = l.length := by omega
  refine ws_exit (nx_then_exit (nx_then_exit (nx_block_exit (nx_then (RsQ (Qm rfl (Qm rfl (RnQ (ws_ret ?_)))))))))
  exact nx_ret1 rfl rfl (by rw [← ho, List.drop_length]; rfl)
theorem rdl_seg2 {h : Hp} {g : Nat} {x y : Int} (hS : Seg h [] ⟨g, 0, none⟩ [.int .i64 x, .int .i64 y]) : RdL cI 1 h [] (.slice (some ⟨g, 0, none⟩) 2 2) [x, y] :=
 ⟨⟨_, 2, rfl, Nat.le_refl _, by omega, rfl, fun _ => ⟨_, rfl, hS⟩⟩, fun _ => rfl⟩
theorem orL2 (a b : Int × Int) : orL [c3 a.1 b.1, c3 a.2 b.2] = cmp2 a b := by
 unfold cmp2
 show (if _ then _ else if _ then _ else (0 : Int)) = _
 split
 ·rfl
 ·split
  ·rfl
  ·rename_i h; omega
theorem cmp_v (a b : Int × Int) (h : Hp) : FnT Tryz.prog 43 #[.agg #[.int .i64 a.1, .int .i64 a.2], .agg #[.int .i64 b.1, .int .i64 b.2]] h [] (fun r h' ms' => r = .int .i64 (cmp2 a b)) := by
 refine fn_enter func43 ntmps43 rfl rfl (fun w0 hw0 => ?_)
 simp only [argS]
 refine RsQ ?_
 refine wl_box [_, _] rfl rfl (by rfl) rfl rfl rfl (fun g2 => ?_)
 refine wl_box [_, _] rfl rfl (by rfl) rfl rfl rfl (fun g3 => ?_)
 refine Qm rfl (RnQ (ws_freezeB fun h1 l1 hG3 => (ws_freezeB fun h2 l2 hG2 => ?_)))
 have hG3 := hG3.le l2
 have hA2 := Seg.all hG2
 have hA3 := Seg.all hG3
 refine ws_cut (fun s hh ms' => s = [(4, .int .i64 (cmp2 a b))] ∧ ms' = [] ∧ h2.le hh) ?_ (fun s h ms hI => ?_)
 ·refine ws_stab (n := 13) (bs := [true, true, true, true, true, true, true, true, true, true, false, false, false]) [true, true, true, true, true, true, true, true, true, true] fol (by kernel_rfl) (by kernel_rfl) rfl rfl (Qp rfl (ox_indexA 0 rfl underlying53 el3 rfl rfl rfl (by omega)) (Qp rfl (ox_load rfl underlying3 rfl rfl (hA2 0 _ rfl _)) (Qp rfl (ox_indexA 0 rfl underlying53 el3 rfl rfl rfl (by omega)) (Qp rfl (ox_load rfl underlying3 rfl rfl (hA3 0 _ rfl _)) (Qp rfl (ox_call rfl call79 rfl (compare_v _ _ _ _)) (Qp rfl (ox_indexA 1 rfl underlying53 el3 rfl rfl rfl (by omega)) (Qp rfl (ox_load rfl underlying3 rfl rfl (hA2 1 _ rfl _)) (Qp rfl (ox_indexA 1 rfl underlying53 el3 rfl rfl rfl (by omega)) (Qp rfl (ox_load rfl underlying3 rfl rfl (hA3 1 _ rfl _)) (Qp rfl (ox_call rfl call79 rfl (compare_v _ _ _ _)) ?_))))))))))
  unfold PZs
  simp only [List.cons_append, List.nil_append]
  refine Qo 10 rfl ?_
  refine wl_buildSlice [(0, _), (1, _)] [.int .i64 0, .int .i64 0] [_, _] rfl underlying24 el3 rfl (by omega) (by kernel_rfl) (by repeat (first | exact trivial | refine ⟨⟨by rfl, rfl, rfl⟩, ?_⟩)) rfl rfl rfl rfl (fun g15 => ?_)
  refine Qw (Qo 11 rfl (wl_freezeB fun h3 l3 hS => (Qx (ox_call rfl call78 rfl (or_v [c3 a.1 b.1, c3 a.2 b.2] _ h3 (rdl_seg2 hS))) rfl (Qa (Qo 12 rfl (Qm rfl (Qa (Qe ?_))))))))
  rw [orL2]
  exact nx_meet _ ⟨rfl, rfl, l3⟩ Qs
 ·obtain ⟨rfl, rfl, hle⟩ := hI
  refine ws_ret ?_
  exact nx_ret1 rfl rfl (rfl)
end Go.Proofs.YtdnelknieikbaaaGreat
namespace Go.Srt
open Go.Sort
variable {a m b i : Nat}
variable {α : Type} [Inhabited α]
def SwR (d0 d : Array α) (a b n : Nat) : Prop := d.size = d0.size ∧ ∀ k, d[k]! = if a ≤ k ∧ k < a + n then d0[k - a + b]! else if b ≤ k ∧ k < b + n then d0[k - b + a]! else d0[k]!
theorem SwR.start (d0 : Array α) (a b : Nat) : SwR d0 d0 a b 0 := ⟨rfl, fun k => by rw [if_neg (by omega), if_neg (by omega)]⟩
theorem SwR.step {d0 d : Array α} {n : Nat} (S : SwR d0 d a b n) (hab : a + n < b) (hb : b + n < d0.size) : SwR d0 (swp d (a + n) (b + n)) a b (n + 1) := by
  refine ⟨by rw [swp_size, S.1], fun k => ?_⟩
  rw [swp_get d (by rw [S.1]; omega) (by rw [S.1]; omega)]
  rw [S.2 (a + n), S.2 (b + n), S.2 k]
  by_cases h1 : k = b + n
  · subst h1
    rw [if_pos rfl, if_neg (by omega), if_neg (by omega), if_neg (by omega), if_pos (by omega)]
    congr 1; omega
  · by_cases h2 : k = a + n
    · subst h2
      rw [if_neg h1, if_pos rfl, if_neg (by omega), if_neg (by omega), if_pos (by omega)]
      congr 1; omega
    · rw [if_neg h1, if_neg h2]
      by_cases h3 : a ≤ k ∧ k < a + n
      · rw [if_pos h3, if_pos (by omega)]
      · rw [if_neg h3]
        by_cases h4 : b ≤ k ∧ k < b + n
        · rw [if_pos h4, if_neg (by omega), if_pos (by omega)]
        · rw [if_neg h4, if_neg (by omega), if_neg (by omega)]
def rotv (d : Array α) (a m b k : Nat) : α := if a ≤ k ∧ k < b then if k < a + (b - m) then d[k + (m - a)]! else d[k - (b - m)]! else d[k]!
theorem rotv_big {d d' : Array α} {j : Nat} (hi : i ≤ m) (hj : j < i) (S : SwR d d' (m - i) m j) (k : Nat) : rotv d' (m - (i - j)) m (m + j) k = rotv d (m - i) m (m + j) k := by
  unfold rotv
  rw [S.2 (k + (m - (m - (i - j)))), S.2 (k - (m + j - m)), S.2 k]
  repeat' split
  all_goals first | omega | (congr 1 <;> omega)
theorem rotv_small {d d' : Array α} {j : Nat} (hi : i ≤ m) (hj : i < j) (S : SwR d d' (m - i) (m + j - i) i) (k : Nat) : rotv d' (m - i) m (m + (j - i)) k = rotv d (m - i) m (m + j) k := by
  unfold rotv
  rw [S.2 (k + (m - (m - i))), S.2 (k - (m + (j - i) - m)), S.2 k]
  repeat' split
  all_goals first | omega | (congr 1 <;> omega)
theorem rotv_end {d d' : Array α} (hi : i ≤ m) (S : SwR d d' (m - i) m i) (k : Nat) : d'[k]! = rotv d (m - i) m (m + i) k := by
  unfold rotv
  rw [S.2 k]
  repeat' split
  all_goals first | omega | (congr 1 <;> omega)
theorem rotv_none {d : Array α} (h : m = a ∨ b = m) (k : Nat) : rotv d a m b k = d[k]! := by
  unfold rotv
  repeat' split
  all_goals first | omega | (congr 1 <;> omega)
variable {lt : α → α → Bool}
def InsR (d0 d : Array α) (a t : Nat) : Prop := d.size = d0.size ∧ ∀ k, d[k]! = if a ≤ k ∧ k < t then d0[k + 1]! else if k = t then d0[a]! else d0[k]!
theorem InsR.start (d0 : Array α) (a : Nat) : InsR d0 d0 a a := ⟨rfl, fun k => by
  rw [if_neg (by omega)]; split
  · rename_i h; rw [h]
  · rfl⟩
theorem InsR.step {d0 d : Array α} {t : Nat} (S : InsR d0 d a t) (hat : a ≤ t) (ht : t + 1 < d0.size) : InsR d0 (swp d t (t + 1)) a (t + 1) := by
  refine ⟨by rw [swp_size, S.1], fun k => ?_⟩
  rw [swp_get d (by rw [S.1]; omega) (by rw [S.1]; omega), S.2 t, S.2 (t + 1), S.2 k]
  by_cases h1 : k = t + 1
  · subst h1
    rw [if_pos rfl, if_neg (by omega), if_pos rfl, if_neg (by omega), if_pos rfl]
  · by_cases h2 : k = t
    · subst h2
      rw [if_neg h1, if_pos rfl, if_neg (by omega), if_neg (by omega), if_pos (by omega)]
    · rw [if_neg h1, if_neg h2]
      by_cases h3 : a ≤ k ∧ k < t
      · rw [if_pos h3, if_pos (by omega)]
      · rw [if_neg h3, if_neg h2, if_neg (by omega), if_neg h1]
theorem ins_sorted (hO : SWO lt) {d0 d : Array α} (hS : SortedIn lt (a + 1) b d0) (hi : a + 1 ≤ i ∧ i ≤ b) (h1 : i = a + 1 ∨ lt d0[i - 1]! d0[a]! = true) (h2 : i = b ∨ lt d0[i]! d0[a]! = false) (R : InsR d0 d a (i - 1)) : SortedIn lt a b d := by
  have lo : ∀ k, a + 1 ≤ k → k < i → lt d0[a]! d0[k]! = false := fun k h3 h4 => by
    rcases h1 with h1 | h1
    · omega
    · have h5 := hO.asymmA h1
      rcases (by omega : k = i - 1 ∨ k < i - 1) with rfl | h6
      · exact h5
      · exact hO.ntrans _ _ _ h5 (hS k (i - 1) h3 h6 (by omega))
  have hi' : ∀ k, i ≤ k → k < b → lt d0[k]! d0[a]! = false := fun k h3 h4 => by
    rcases h2 with h2 | h2
    · omega
    · rcases (by omega : k = i ∨ i < k) with rfl | h6
      · exact h2
      · exact hO.ntrans _ _ _ (hS i k (by omega) h6 h4) h2
  intro x y hx hxy hy
  rw [R.2 x, R.2 y]
  by_cases hy1 : y < i - 1
  · rw [if_pos (by omega), if_pos (by omega)]
    exact hS _ _ (by omega) (by omega) (by omega)
  · by_cases hy2 : y = i - 1
    · rw [if_neg (by omega), if_pos hy2, if_pos (by omega)]
      exact lo _ (by omega) (by omega)
    · rw [if_neg (by omega), if_neg hy2]
      by_cases hx1 : x < i - 1
      · rw [if_pos (by omega)]
        exact hS _ _ (by omega) (by omega) (by omega)
      · by_cases hx2 : x = i - 1
        · rw [if_neg (by omega), if_pos hx2]
          exact hi' _ (by omega) hy
        · rw [if_neg (by omega), if_neg hx2]
          exact hS _ _ (by omega) (by omega) (by omega)
def ShR (d0 d : Array α) (m t : Nat) : Prop := d.size = d0.size ∧ ∀ k, d[k]! = if t < k ∧ k ≤ m then d0[k - 1]! else if k = t then d0[m]! else d0[k]!
theorem ShR.start (d0 : Array α) (m : Nat) : ShR d0 d0 m m := ⟨rfl, fun k => by
  rw [if_neg (by omega)]; split
  · rename_i h; rw [h]
  · rfl⟩
theorem ShR.step {d0 d : Array α} {t : Nat} (S : ShR d0 d m (t + 1)) (ht : t + 1 ≤ m) (hm : m < d0.size) : ShR d0 (swp d (t + 1) t) m t := by
  refine ⟨by rw [swp_size, S.1], fun k => ?_⟩
  rw [swp_get d (by rw [S.1]; omega) (by rw [S.1]; omega), S.2 t, S.2 (t + 1), S.2 k]
  by_cases h1 : k = t
  · subst h1
    rw [if_pos rfl, if_neg (by omega), if_pos rfl, if_neg (by omega), if_pos rfl]
  · by_cases h2 : k = t + 1
    · subst h2
      rw [if_neg h1, if_pos rfl, if_neg (by omega), if_neg (by omega), if_pos (by omega)]
      rfl
    · rw [if_neg h1, if_neg h2]
      by_cases h3 : t + 1 < k ∧ k ≤ m
      · rw [if_pos h3, if_pos (by omega)]
      · rw [if_neg h3, if_neg h2, if_neg (by omega), if_neg h1]
theorem sh_sorted (hO : SWO lt) {d0 d : Array α} (hS : SortedIn lt a m d0) (hi : a ≤ i ∧ i ≤ m) (h1 : i = a ∨ lt d0[m]! d0[i - 1]! = false) (h2 : i = m ∨ lt d0[m]! d0[i]! = true) (R : ShR d0 d m i) : SortedIn lt a (m + 1) d := by
  have lo : ∀ k, a ≤ k → k < i → lt d0[m]! d0[k]! = false := fun k h3 h4 => by
    rcases h1 with h1 | h1
    · omega
    · rcases (by omega : k = i - 1 ∨ k < i - 1) with rfl | h6
      · exact h1
      · exact hO.ntrans _ _ _ h1 (hS k (i - 1) h3 h6 (by omega))
  have hi' : ∀ k, i ≤ k → k < m → lt d0[k]! d0[m]! = false := fun k h3 h4 => by
    rcases h2 with h2 | h2
    · omega
    · have h5 := hO.asymmA h2
      rcases (by omega : k = i ∨ i < k) with rfl | h6
      · exact h5
      · exact hO.ntrans _ _ _ (hS i k (by omega) h6 h4) h5
  intro x y hx hxy hy
  rw [R.2 x, R.2 y]
  by_cases hy1 : i < y
  · rw [if_pos (by omega)]
    by_cases hx1 : i < x
    · rw [if_pos (by omega)]
      exact hS _ _ (by omega) (by omega) (by omega)
    · by_cases hx2 : x = i
      · rw [if_neg (by omega), if_pos hx2]
        exact hi' _ (by omega) (by omega)
      · rw [if_neg (by omega), if_neg hx2]
        rcases (by omega : x < y - 1 ∨ x = y - 1) with h | h
        · exact hS _ _ (by omega) h (by omega)
        · omega
  · by_cases hy2 : y = i
    · rw [if_neg (by omega), if_pos hy2, if_neg (by omega), if_neg (by omega)]
      exact lo _ hx (by omega)
    · rw [if_neg (by omega), if_neg hy2, if_neg (by omega), if_neg (by omega)]
      exact hS _ _ hx hxy (by omega)
structure Cut (lt : α → α → Bool) (d0 d : Array α) (a start mid e m b : Nat) : Prop where
  lo : SortedIn lt a start d
  lo2 : SortedIn lt start mid d
  hi : SortedIn lt mid e d
  hi2 : SortedIn lt e b d
  cross : ∀ x y, a ≤ x → x < mid → mid ≤ y → y < b → lt d[y]! d[x]! = false
theorem cut_ok (hO : SWO lt) {d0 d : Array α} {start mid e : Nat} (hA : SortedIn lt a m d0) (hB : SortedIn lt m b d0) (h1 : a ≤ start ∧ start ≤ m ∧ start ≤ mid ∧ m ≤ e ∧ e ≤ b) (h2 : start + e = mid + m)
    (hR : ∀ k, d[k]! = rotv d0 start m e k)
    (c1 : start = a ∨ e = b ∨ lt d0[e]! d0[start - 1]! = false) (c2 : start = m ∨ e = m ∨ lt d0[e - 1]! d0[start]! = true) : Cut lt d0 d a start mid e m b := by
  have g1 : ∀ k, k < start → d[k]! = d0[k]! := fun k h => by rw [hR]; unfold rotv; rw [if_neg (by omega)]
  have g2 : ∀ k, start ≤ k → k < mid → d[k]! = d0[k + (m - start)]! := fun k h h' => by rw [hR]; unfold rotv; rw [if_pos (by omega), if_pos (by omega)]
  have g3 : ∀ k, mid ≤ k → k < e → d[k]! = d0[k - (e - m)]! := fun k h h' => by rw [hR]; unfold rotv; rw [if_pos (by omega), if_neg (by omega)]
  have g4 : ∀ k, e ≤ k → d[k]! = d0[k]! := fun k h => by rw [hR]; unfold rotv; rw [if_neg (by omega)]
  -- the four pieces, of the former
  have ab2 : ∀ x y, a ≤ x → x < start → e ≤ y → y < b → lt d0[y]! d0[x]! = false := fun x y hx hx' hy hy' => by
    rcases c1 with c | c | c
    · omega
    · omega
    · have k1 : lt d0[y]! d0[e]! = false := by
        rcases (by omega : y = e ∨ e < y) with rfl | h
        · exact hO.irrefl _
        · exact hB _ _ (by omega) h hy'
      have k2 : lt d0[start - 1]! d0[x]! = false := by
        rcases (by omega : x = start - 1 ∨ x < start - 1) with rfl | h
        · exact hO.irrefl _
        · exact hA _ _ hx h (by omega)
      exact hO.ntrans _ _ _ (hO.ntrans _ _ _ k1 c) k2
  have ba2 : ∀ x y, m ≤ x → x < e → start ≤ y → y < m → lt d0[y]! d0[x]! = false := fun x y hx hx' hy hy' => by
    rcases c2 with c | c | c
    · omega
    · omega
    · have k0 := hO.asymmA c
      have k1 : lt d0[y]! d0[start]! = false := by
        rcases (by omega : y = start ∨ start < y) with rfl | h
        · exact hO.irrefl _
        · exact hA _ _ (by omega) h hy'
      have k2 : lt d0[e - 1]! d0[x]! = false := by
        rcases (by omega : x = e - 1 ∨ x < e - 1) with rfl | h
        · exact hO.irrefl _
        · exact hB _ _ hx h (by omega)
      exact hO.ntrans _ _ _ (hO.ntrans _ _ _ k1 k0) k2
  refine ⟨fun x y hx hxy hy => ?_, fun x y hx hxy hy => ?_, fun x y hx hxy hy => ?_, fun x y hx hxy hy => ?_, fun x y hx hxm hy hyb => ?_⟩
  · rw [g1 x (by omega), g1 y (by omega)]; exact hA _ _ hx hxy (by omega)
  · rw [g2 x hx (by omega), g2 y (by omega) hy]; exact hB _ _ (by omega) (by omega) (by omega)
  · rw [g3 x hx (by omega), g3 y (by omega) hy]; exact hA _ _ (by omega) (by omega) (by omega)
  · rw [g4 x hx, g4 y (by omega)]; exact hB _ _ (by omega) hxy hy
  · rcases Nat.lt_or_ge x start with h3 | h3 <;> rcases Nat.lt_or_ge y e with h4 | h4
    · rw [g1 x h3, g3 y hy h4]; exact hA _ _ hx (by omega) (by omega)
    · rw [g1 x h3, g4 y h4]; exact ab2 _ _ hx h3 h4 hyb
    · rw [g2 x h3 hxm, g3 y hy h4]; exact ba2 _ _ (by omega) (by omega) (by omega) (by omega)
    · rw [g2 x h3 hxm, g4 y h4]; exact hB _ _ (by omega) (by omega) hyb
theorem cut_done {d0 d d2 d3 : Array α} {start mid e : Nat} (C : Cut lt d0 d a start mid e m b) (hb : b ≤ d.size) (hm : a ≤ mid ∧ mid ≤ b) (p1 : PermIn a mid d d2) (s1 : SortedIn lt a mid d2) (p2 : PermIn mid b d2 d3) (s2 : SortedIn lt mid b d3) : SortedIn lt a b d3 := by
  have q1 : ∀ x, a ≤ x → x < mid → ∀ y, mid ≤ y → y < b → lt d[y]! d2[x]! = false := fun x hx hx' y hy hy' =>
    permIn_all d d2 a mid (fun v => lt d[y]! v = false) (by omega) p1 (fun i h1 h2 => C.cross i y h1 h2 hy hy') x hx hx'
  have q2 : ∀ y, mid ≤ y → y < b → ∀ x, a ≤ x → x < mid → lt d3[y]! d2[x]! = false := fun y hy hy' x hx hx' =>
    permIn_all d2 d3 mid b (fun v => lt v d2[x]! = false) (by rw [p1.1]; exact hb) p2 (fun i h1 h2 => by rw [p1.2.1 i (.inr h1)]; exact q1 x hx hx' i h1 h2) y hy hy'
  intro x y hx hxy hy
  rcases Nat.lt_or_ge y mid with h1 | h1
  · rw [p2.2.1 x (.inl (by omega)), p2.2.1 y (.inl h1)]; exact s1 _ _ hx hxy h1
  · rcases Nat.lt_or_ge x mid with h2 | h2
    · rw [p2.2.1 x (.inl h2)]; exact q2 y h1 hy x hx h2
    · exact s2 _ _ h2 hxy hy
theorem sorted_congr {d d' : Array α} (h : SortedIn lt a b d) (e : ∀ k, a ≤ k → k < b → d'[k]! = d[k]!) : SortedIn lt a b d' := fun x y hx hxy hy => by
  rw [e x hx (by omega), e y (by omega) hy]; exact h x y hx hxy hy
end Go.Srt
