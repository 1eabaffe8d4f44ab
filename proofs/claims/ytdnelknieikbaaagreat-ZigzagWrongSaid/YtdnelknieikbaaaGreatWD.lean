/- A part of the proof. -/
import Derived.Test.YtdnelknieikbaaaGreatWC
import Derived.WalkArith
set_option linter.unusedSimpArgs false
set_option linter.unusedVariables false
set_option maxRecDepth 100000
namespace Go.Proofs.YtdnelknieikbaaaGreat
open Go.Eng Go.RowKit Go.Lin
variable {st pv : List Nat} {k i N l : Nat} {S : Nat → SM} {w u : Nat → Nat → Int} {gb : Nat → Nat}
theorem Of (hs : pv.Pairwise (· < ·)) : ∀ k (hk : k < pv.length), k ≤ pv[k] := by
 have hmono := List.pairwise_iff_getElem.1 hs
 intro k
 induction k with
 | zero => intro _; exact Nat.zero_le _
 | succ k ih => intro hk; have h1 := ih (by omega); have h2 := hmono k (k + 1) (by omega) hk (by omega); omega
theorem Ol (hs : pv.Pairwise (· < ·)) {n : Nat} (hf : ∀ l, l < n → ∃ h : l < pv.length, pv[l] = l) : n ≤ pv.length ∧ from_ n pv = pv.drop n := by
 have hn : n ≤ pv.length := by
  rcases Nat.eq_zero_or_pos n with h | h
  ·omega
  ·obtain ⟨h1, _⟩ := hf (n - 1) (by omega); omega
 refine ⟨hn, ?_⟩
 unfold from_
 conv => lhs; rw [← List.take_append_drop n pv]
 rw [List.filter_append]
 have e1 : (pv.take n).filter (fun j => decide (n ≤ j)) = [] := List.filter_eq_nil_iff.2 fun a ha => by
  obtain ⟨k, hk, rfl⟩ := List.mem_iff_getElem.1 ha
  rw [List.length_take] at hk
  obtain ⟨h1, h2⟩ := hf k (by omega)
  rw [List.getElem_take, h2]; simp; omega
 have e2 : (pv.drop n).filter (fun j => decide (n ≤ j)) = pv.drop n := List.filter_eq_self.2 fun a ha => by
  obtain ⟨k, hk, rfl⟩ := List.mem_iff_getElem.1 ha
  rw [List.length_drop] at hk
  rw [List.getElem_drop]
  have := Of hs (n + k) (by omega)
  simp; omega
 rw [e1, e2, List.nil_append]
def BS (k : Nat) (w : Nat → Nat → Int) (st : List Nat) (i : Nat) (S : Nat → SM) (l : Nat) : SM := if l ∈ st.take i then { S l with to := k + 1, v := fun j => if j = k + 1 then w (st.idxOf l) else (S l).v j } else S l
theorem M3 (k : Nat) (w : Nat → Nat → Int) (st : List Nat) (S : Nat → SM) : BS k w st 0 S = S := funext fun l => if_neg (by simp)
theorem JD (h : l ∉ st.take i) : BS k w st i S l = S l := if_neg h
theorem Ei (hn : st.Nodup) (hi : i < st.length) : st.getD i 0 ∉ st.take i := fun h => by
 have h1 : (st.take (i + 1)).Nodup := hn.sublist (List.take_sublist _ _)
 rw [BU hi] at h1
 exact (List.nodup_append.1 h1).2.2 _ h _ (by simp) rfl
theorem BF (hi : i < st.length) : st.getD i 0 ∈ st := by simp [List.getD, hi]
theorem E5 (hn : st.Nodup) (hi : i < st.length) : st.idxOf (st.getD i 0) = i := by
 have e : st.getD i 0 = st[i] := by simp [List.getD, hi]
 rw [e]; exact hn.idxOf_getElem i hi
theorem M7 (hn : st.Nodup) (hi : i < st.length) (hk : (S (st.getD i 0)).to = k) : HS (st.getD i 0) (w i) (BS k w st i S) = BS k w st (i + 1) S := funext fun l => by
 have hni := JD (k := k) (w := w) (S := S) (Ei hn hi)
 unfold HS
 by_cases h : l = st.getD i 0
 ·rw [if_pos h, hni, hk, h]
  unfold BS
  rw [if_pos (by rw [BU hi]; simp), E5 hn hi]
 ·rw [if_neg h]
  unfold BS
  by_cases h2 : l ∈ st.take i
  ·rw [if_pos h2, if_pos (by rw [BU hi]; simp [h2])]
  ·rw [if_neg h2, if_neg (by rw [BU hi, List.mem_append, List.mem_singleton]; exact fun h3 => h3.elim h2 h)]
def BY (N k : Nat) (gb : Nat → Nat) (u : Nat → Nat → Int) (S : Nat → SM) (l : Nat) : SM := if l < N then S l else ⟨gb l, k + 1, k + 1, fun _ => u (l - N)⟩
theorem ET (h : l < N) : BY N k gb u S l = S l := if_pos h
theorem Dx (h : N ≤ l) : BY N k gb u S l = ⟨gb l, k + 1, k + 1, fun _ => u (l - N)⟩ := if_neg (by omega)
def Gu (N : Nat) (st : List Nat) (w u : Nat → Nat → Int) (l : Nat) : Nat → Int := if l < N then w (st.idxOf l) else u (l - N)
theorem K4 {Z : Zg} {nb : Nat} {S0 : Nat → SM} {al en de : List Nat} (M : Mch Z k N S0 al en) (hV : Valid (Z.tr k) (Dr N S)) (hs : ∀ l, (S l).g = (S0 l).g ∧ (S l).fr = (S0 l).fr ∧ (S l).to = (S0 l).to) (hb : ∀ l, l < N → (S l).Bd Z.p Z.d) (hsub : st.Sublist al) (hperm : (st ++ de).Perm al)
  (al' : List Nat) (hal' : al'.Perm (st ++ List.range' N nb)) (hI : Ind Z.p al'.length tt (Z.d (k + 1)) (fun t => Gu N st w u (al'.getD t 0))) (hc : al'.length = Z.d (k + 1))
  (hf : Z.back k = false → ∀ l, l < N → (S l).to = k → ∀ i, i < Z.d (k + 1) → Cg Z.p (ap (Z.mat k) (Z.d k) ((S l).v k) i) (if l ∈ st then w (st.idxOf l) i else 0))
  (hbk : Z.back k = true → (∀ l ∈ st, ∀ i, i < Z.d k → Cg Z.p (ap (Z.mat k) (Z.d (k + 1)) (w (st.idxOf l)) i) ((S l).v k i)) ∧ ∀ b, b < nb → ∀ i, i < Z.d k → Cg Z.p (ap (Z.mat k) (Z.d (k + 1)) (u b) i) 0)
  (hwb : ∀ t, t < st.length → ∀ i, i < Z.d (k + 1) → 0 ≤ w t i ∧ w t i < Z.p) (hub : ∀ b, b < nb → ∀ i, i < Z.d (k + 1) → 0 ≤ u b i ∧ u b i < Z.p)
  (hord : al'.Pairwise fun a b => (a < N ∧ b < N ∧ (Dr N S0).may Z a b) ∨ (N ≤ a ∧ N ≤ b) ∨ (a < N ∧ N ≤ b ∧ Z.back k = false) ∨ (N ≤ a ∧ b < N ∧ Z.back k = true)) :
  Mch Z (k + 1) (N + nb) (BY N k gb u (BS k w st st.length S)) al' (en ++ de) := by
 have hst : ∀ l ∈ st, l < N ∧ (S l).to = k := fun l hl => by
  have h := hsub.subset hl
  exact ⟨M.lt h, by rw [(hs l).2.2]; exact M.live l h⟩
 have hnd : st.Nodup := M.nodup.sublist hsub
 have hde : ∀ l ∈ de, l < N ∧ (S l).to = k := fun l hl => by
  have h := hperm.mem_iff.1 (List.mem_append_right _ hl)
  exact ⟨M.lt h, by rw [(hs l).2.2]; exact M.live l h⟩
 have htk : st.take st.length = st := List.take_length
 have hgr : ∀ l, l < N → BY N k gb u (BS k w st st.length S) l = if l ∈ st then { S l with to := k + 1, v := fun j => if j = k + 1 then w (st.idxOf l) else (S l).v j } else S l := fun l hl => by
  rw [ET hl]; unfold BS; rw [htk]
 have hS'bd : ∀ l, l < N + nb → (BY N k gb u (BS k w st st.length S) l).Bd Z.p Z.d := fun l hl => by
  rcases Nat.lt_or_ge l N with h | h
  ·rw [hgr l h]
   by_cases hm : l ∈ st
   ·rw [if_pos hm]
    intro j h1 h2 i hi
    show 0 ≤ (if j = k + 1 then w (st.idxOf l) else (S l).v j) i ∧ (if j = k + 1 then w (st.idxOf l) else (S l).v j) i < Z.p
    have h1' : (S l).fr ≤ j := h1
    have h2' : j ≤ k + 1 := h2
    by_cases hj : j = k + 1
    ·rw [if_pos hj]; subst hj; exact hwb _ (List.idxOf_lt_length_iff.2 hm) i hi
    ·rw [if_neg hj]; exact hb l h j h1' (by rw [(hst l hm).2]; omega) i hi
   ·rw [if_neg hm]; exact hb l h
  ·rw [Dx h]
   intro j h1 h2 i hi
   have h1' : k + 1 ≤ j := h1
   have h2' : j ≤ k + 1 := h2
   obtain rfl : j = k + 1 := by omega
   exact hub (l - N) (by omega) i hi
 refine ⟨?_, ?_, fun l hl => ?_, fun l hl => ?_, ?_, hS'bd⟩
 ·have V := Go.Lin.grow_ok (nb := nb) (L := al') (W := Gu N st w u) hV hst hnd hal' hI hc (fun hbf l hl ht i hi => by
   have := hf hbf l hl ht i hi
   unfold Gu
   rw [if_pos (show l < N from hl)]; exact this) (fun hbt => ⟨fun l hl i hi => by
    have := (hbk hbt).1 l hl i hi
    unfold Gu
    rw [if_pos (hst l hl).1]; exact this, fun l h1 h2 i hi => by
    have h3 : N ≤ l := h1
    have := (hbk hbt).2 (l - N) (by have : l < N + nb := h2; omega) i hi
    unfold Gu
    rw [if_neg (by omega)]; exact this⟩)
  refine V.congr rfl (fun l hl => ?_) (fun l hl j ho i hi => Cg.of_eq ?_)
  ·have hl' : l < N + nb := hl
   show (BY N k gb u (BS k w st st.length S) l).fr = (if l < N then (S l).fr else k + 1) ∧ (BY N k gb u (BS k w st st.length S) l).to = (if l < N then (if l ∈ st then k + 1 else (S l).to) else k + 1)
   rcases Nat.lt_or_ge l N with h | h
   ·rw [hgr l h, if_pos h, if_pos h]
    by_cases hm : l ∈ st
    ·rw [if_pos hm, if_pos hm]; exact ⟨rfl, rfl⟩
    ·rw [if_neg hm, if_neg hm]; exact ⟨rfl, rfl⟩
   ·rw [Dx h, if_neg (by omega), if_neg (by omega)]; exact ⟨rfl, rfl⟩
  ·have ho' := Dc.on_iff.1 ho
   have h1 : (if l < N then (S l).fr else k + 1) ≤ j := ho'.1
   have h2 : j ≤ (if l < N then (if l ∈ st then k + 1 else (S l).to) else k + 1) := ho'.2
   show (BY N k gb u (BS k w st st.length S) l).v j i = if j = k + 1 then Gu N st w u l i else (S l).v j i
   rcases Nat.lt_or_ge l N with h | h
   ·rw [hgr l h]
    rw [if_pos h] at h1 h2
    by_cases hm : l ∈ st
    ·rw [if_pos hm]
     show (if j = k + 1 then w (st.idxOf l) else (S l).v j) i = _
     unfold Gu
     rw [if_pos h]
     split <;> rfl
    ·rw [if_neg hm] at h2 ⊢
     have h3 := (hV.ends l h).2
     have h4 : (S l).to < k + 1 := h3
     rw [if_neg (by omega)]
   ·rw [if_neg (by omega)] at h1 h2
    rw [Dx h]
    have : j = k + 1 := by omega
    subst this
    rw [if_pos rfl]
    unfold Gu
    rw [if_neg (by omega)]
 ·refine (List.Perm.append_left (en ++ de) hal').trans ?_
  have h1 : (en ++ de ++ (st ++ List.range' N nb)).Perm ((en ++ (st ++ de)) ++ List.range' N nb) := by
   rw [← List.append_assoc, List.append_assoc en de st, List.append_assoc en, List.append_assoc en]
   refine List.Perm.append_left en ?_
   exact List.Perm.append_right _ List.perm_append_comm
  refine h1.trans ((List.Perm.append_right _ ((List.Perm.append_left en hperm).trans M.perm)).trans ?_)
  rw [List.range_eq_range', List.range_eq_range']
  rw [show List.range' 0 N ++ List.range' N nb = List.range' 0 (N + nb) by
   have := List.range'_append (s := 0) (m := N) (n := nb) (step := 1)
   simpa using this]
 ·rcases List.mem_append.1 (hal'.mem_iff.1 hl) with h | h
  ·rw [hgr l (hst l h).1, if_pos h]
  ·have := List.mem_range'_1.1 h
   rw [Dx this.1]
 ·rcases List.mem_append.1 hl with h | h
  ·have hlN : l < N := List.mem_range.1 (M.perm.mem_iff.1 (List.mem_append_left _ h))
   have h1 := M.dead l h
   have hns : l ∉ st := fun hm => by have := (hst l hm).2; rw [(hs l).2.2] at this; omega
   rw [hgr l hlN, if_neg hns, (hs l).2.2]; omega
  ·have h2 := hde l h
   have hns : l ∉ st := fun hm => (List.nodup_append.1 (hperm.nodup_iff.2 M.nodup)).2.2 l hm l h rfl
   rw [hgr l h2.1, if_neg hns, h2.2]; omega
 ·have hfr : ∀ l, l < N → (BY N k gb u (BS k w st st.length S) l).fr = (S0 l).fr := fun l h => by
   rw [hgr l h, ← (hs l).2.1]
   split <;> rfl
  have hfr2 : ∀ l, N ≤ l → (BY N k gb u (BS k w st st.length S) l).fr = k + 1 := fun l h => by rw [Dx h]
  have hle : ∀ l, l < N → (S0 l).fr ≤ k := fun l h => by
   have h1 := M.val.ends l h
   have h2 : (S0 l).fr ≤ (S0 l).to := h1.1
   have h3 : (S0 l).to < k + 1 := h1.2
   omega
  refine hord.imp fun {a b} h => ?_
  show (BY N k gb u (BS k w st st.length S) a).fr = (BY N k gb u (BS k w st st.length S) b).fr ∨ ((BY N k gb u (BS k w st st.length S) b).fr < (BY N k gb u (BS k w st st.length S) a).fr ∧ Z.back ((BY N k gb u (BS k w st st.length S) a).fr - 1) = true) ∨ ((BY N k gb u (BS k w st st.length S) a).fr < (BY N k gb u (BS k w st st.length S) b).fr ∧ Z.back ((BY N k gb u (BS k w st st.length S) b).fr - 1) = false)
  rcases h with ⟨h1, h2, h3⟩ | ⟨h1, h2⟩ | ⟨h1, h2, h3⟩ | ⟨h1, h2, h3⟩
  ·rw [hfr a h1, hfr b h2]; exact h3
  ·rw [hfr2 a h1, hfr2 b h2]; exact .inl rfl
  ·rw [hfr a h1, hfr2 b h2]
   exact .inr (.inr ⟨by have := hle a h1; omega, by rw [Nat.add_sub_cancel]; exact h3⟩)
  ·rw [hfr2 a h1, hfr b h2]
   exact .inr (.inl ⟨by have := hle b h2; omega, by rw [Nat.add_sub_cancel]; exact h3⟩)
theorem Fw.done {Z : Zg} (Fp : Lin.Fld Z.p) (hp : 2 ≤ Z.p) {S0 : Nat → SM} {al en de : List Nat} {F : Nat → Nat → Int} (M : Mch Z k N S0 al en) (W : Fw Z k N S0 S al st de al.length w) (hbk : Z.back k = false)
  (R : Red Z.p (Z.d (k + 1)) (st.length + Z.d (k + 1)) (jn st.length (fun i j => w j i) Dl) F pv (st.length + Z.d (k + 1))) :
  Mch Z (k + 1) (N + (from_ st.length pv).length) (BY N k gb (fun t i => jn st.length (fun i j => w j i) Dl i ((from_ st.length pv).getD t 0)) (BS k w st st.length S)) (st ++ List.range' N (from_ st.length pv).length) (en ++ de) := by
 have hsub : st.Sublist al := by have := W.sub; rwa [List.take_length] at this
 have hperm : (st ++ de).Perm al := by have := W.perm; rwa [List.take_length] at this
 have hnd : st.Nodup := M.nodup.sublist hsub
 have hfront := GC R.sorted (fun l hl => Jx hp R W.ind hl)
 obtain ⟨hn, hfd⟩ := Ol R.sorted hfront
 have hlen := KT Fp hp R
 have hfl : (from_ st.length pv).length = pv.length - st.length := by rw [hfd, List.length_drop]
 have hLl : (st ++ List.range' N (from_ st.length pv).length).length = pv.length := by
  rw [List.length_append, List.length_range', hfl]; omega
 refine K4 M W.val W.same W.bd hsub hperm _ (List.Perm.refl _) ?_ (hLl.trans hlen) (fun _ l hl ht i hi => ?_) (fun h => by rw [hbk] at h; cases h) (fun t ht i hi => ?_) (fun b hb i hi => ?_) ?_
 ·rw [hLl]
  refine (Lc R).congr (fun _ _ => rfl) fun t ht _ i hi => Cg.of_eq ?_
  rcases Nat.lt_or_ge t st.length with h | h
  ·have e1 : (st ++ List.range' N (from_ st.length pv).length).getD t 0 = st.getD t 0 := by simp [List.getD, List.getElem?_append_left h]
   rw [e1]
   unfold Gu
   rw [if_pos (M.lt (hsub.subset (BF h))), E5 hnd h]
   obtain ⟨h2, h3⟩ := hfront t h
   rw [Cn h2, h3]
   exact (Sl (fun i j => w j i) Dl i h).symm
  ·have e1 : (st ++ List.range' N (from_ st.length pv).length).getD t 0 = N + (t - st.length) := by
    have h4 : t - st.length < (from_ st.length pv).length := by omega
    simp [List.getD, List.getElem?_append_right h, h4]
   rw [e1]
   unfold Gu
   rw [if_neg (by omega), show N + (t - st.length) - N = t - st.length by omega, hfd]
   have e2 : (pv.drop st.length).getD (t - st.length) 0 = pv.getD t 0 := by simp [List.getD, List.getElem?_drop, show st.length + (t - st.length) = t by omega]
   show jn st.length (fun i j => w j i) Dl i ((pv.drop st.length).getD (t - st.length) 0) = _
   rw [e2]
 ·by_cases hm : l ∈ st
  ·rw [if_pos hm]
   have h1 := W.im (st.idxOf l) (List.idxOf_lt_length_iff.2 hm) i hi
   have h2 : st.getD (st.idxOf l) 0 = l := by
    have := List.getElem_idxOf (List.idxOf_lt_length_iff.2 hm)
    simp [List.getD, List.idxOf_lt_length_iff.2 hm]
   rw [h2] at h1
   rw [h1]
   exact (Cg.mod _ _).symm
  ·rw [if_neg hm]
   have h1 : l ∈ al := M.in_ hl (by rw [← (W.same l).2.2]; exact ht)
   rcases List.mem_append.1 (hperm.mem_iff.2 h1) with h2 | h2
   ·exact absurd h2 hm
   ·exact W.dead l h2 i hi
 ·rw [W.im t ht i hi]
  exact ⟨Int.emod_nonneg _ (by omega), Int.emod_lt_of_pos _ (by omega)⟩
 ·have h1 : (from_ st.length pv).getD b 0 ∈ from_ st.length pv := by simp [List.getD, hb]
  have h2 : st.length ≤ (from_ st.length pv).getD b 0 := by
   have := (List.mem_filter.1 h1).2
   simpa using this
  unfold jn
  rw [if_neg (by omega)]
  unfold Dl
  split <;> omega
 ·refine List.pairwise_append.2 ⟨?_, ?_, fun a ha b hb => ?_⟩
  ·refine (M.ord.sublist hsub).imp_of_mem fun {a b} ha hb h => .inl ⟨M.lt (hsub.subset ha), M.lt (hsub.subset hb), h⟩
  ·refine List.Pairwise.imp_of_mem (R := fun _ _ => True) (fun {a b} ha hb _ => .inr (.inl ⟨(List.mem_range'_1.1 ha).1, (List.mem_range'_1.1 hb).1⟩)) ?_
   exact List.pairwise_of_forall fun _ _ => trivial
  ·exact .inr (.inr (.inl ⟨M.lt (hsub.subset ha), (List.mem_range'_1.1 hb).1, hbk⟩))
end Go.Proofs.YtdnelknieikbaaaGreat
set_option maxHeartbeats 4000000
namespace Go.Proofs.YtdnelknieikbaaaGreat
open Go.Proofs.Tryz
open Go.Eng Go.RowKit Go.Lin
variable {S : Nat → SM} {h : Hp} {L : List Nat} {v : Value} {d n i : Nat} {w : Nat → Nat → Int} {es : List Value}
def A1 (S : Nat → SM) (l : Nat) : Value := .pointer (some ⟨(S l).g, 0, none⟩)
theorem U6 (hi : i < L.length) : (L.map (A1 S))[i]'(by simpa using hi) = A1 S (L.getD i 0) := by simp [List.getD, hi]
theorem Em {ms : List Hp} (R : RdL cV 1 h ms v (L.map (A1 S))) (hi : i < L.length) : Cell h ms ((Bl v).add (i * 1)) (A1 S (L.getD i 0)) := by
 have := R.cell0 (j := i) (by simpa using hi) (u := (L.map (A1 S))[i]'(by simpa using hi)) rfl
 rwa [U6 hi] at this
theorem E8 : (L.map (A1 S)).length = L.length := by simp
theorem DC {ms : List Hp} (R : RdL cV 1 h ms v (L.map (A1 S))) : Rd h ms v 1 L.length ((L.map (A1 S)).flatMap cV) := by
 have := R.rd
 rwa [E8] at this
def ImV (h : Hp) (d n : Nat) (es : List Value) (w : Nat → Nat → Int) : Prop := es.length = n ∧ ∀ t (ht : t < es.length), RdL cI 1 h [] es[t] (vec d (w t))
theorem ImV.up {h' : Hp} (I : ImV h d n es w) (hl : h.le h') : ImV h' d n es w := ⟨I.1, fun t ht => (I.2 t ht).up hl⟩
theorem ImV.rd (I : ImV h d n es w) (R : RdL cV 1 h [] v es) : RdV h v n d w := ⟨es, I.1, R, I.2⟩
def Fq (n : Nat) (w : Nat → Nat → Int) (u : Nat → Int) (t : Nat) : Nat → Int := if t = n then u else w t
theorem ImV.snoc {u : Nat → Int} {x : Value} (I : ImV h d n es w) (R : RdL cI 1 h [] x (vec d u)) : ImV h d (n + 1) (es ++ [x]) (Fq n w u) := by
 obtain ⟨h1, h2⟩ := I
 refine ⟨by rw [List.length_append, h1]; rfl, fun t ht => ?_⟩
 rw [List.length_append, List.length_singleton] at ht
 unfold Fq
 rw [List.getElem_append]
 split
 ·rename_i h3
  rw [if_neg (by omega)]; exact h2 t h3
 ·rename_i h3
  rw [if_pos (by omega)]
  simpa using R
theorem B7 (p : Int) (r c : Nat) (f g : Nat → Nat → Int) (ev eu : Value) (h : Hp) (R : RtM p r c f) (S : RtM p r 1 g) (hR : RdL cI 1 h [] ev (mat r c f)) (hS : RdL cI 1 h [] eu (mat r 1 g)) :
  FnT Tryz.prog 115 #[.agg #[.int .i64 p, .int .i64 r, .int .i64 c, ev], .agg #[.int .i64 p, .int .i64 r, .int .i64 1, eu]] h [] (fun x h' ms' => h.le h' ∧ ∃ (F : Nat → Nat → Int) (pv : List Nat) (M : FM) (b : Bool) (xe : Value) (mx : Hp), Ho p r (c + 1) (jn c f g) F pv ∧ x = .tuple #[.agg #[.int .i64 M.p, .int .i64 M.rows, .int .i64 M.cols, xe], .bool b] ∧ ms' = [mx] ∧ OwnL cI 1 3 mx xe M.e ∧ (((∀ j (hj : j < pv.length), pv[j] < c) ∧ b = true ∧ M = EM p c 1 (CB pv F c)) ∨ (¬ (∀ j (hj : j < pv.length), pv[j] < c) ∧ b = false))) := by
 refine (L8 p r c 1 f g ev eu h R S (.inr (by omega)) hR hS).mono ?_
 rintro x h' ms' ⟨hl, F, pv, v, hE, h1, h2⟩
 by_cases hc : ∀ j (hj : j < pv.length), pv[j] < c
 ·obtain ⟨rfl, xe, mx, rfl, rfl, hO⟩ := h1 hc
  exact ⟨hl, F, pv, _, true, xe, mx, hE, rfl, rfl, hO, .inl ⟨hc, rfl, rfl⟩⟩
 ·obtain ⟨rfl, xe, mx, rfl, rfl, hO⟩ := h2 hc
  exact ⟨hl, F, pv, _, false, xe, mx, hE, rfl, rfl, hO, .inr ⟨hc, rfl⟩⟩
theorem PG {g : Nat} {u : Nat → Int} (hG : Seg h [] ⟨g, 0, none⟩ [v]) (hR : RdL cI 1 h [] v (vec d u)) : RdV h (.slice (some ⟨g, 0, none⟩) 1 1) 1 d (fun _ => u) :=
 ⟨[v], rfl, RdL.one1 hG, fun j hj => by
  obtain rfl : j = 0 := by simpa using hj
  exact hR⟩
theorem NJ {k : Nat} {st : List Nat} (l : Nat) : (BS k w st i S l).g = (S l).g ∧ (BS k w st i S l).fr = (S l).fr := by
 unfold BS; split <;> exact ⟨rfl, rfl⟩
def Ja (gb : Nat → Nat) (n g : Nat) (l : Nat) : Nat := if l = n then g else gb l
theorem Ew {N k g : Nat} {gb : Nat → Nat} {u : Nat → Nat → Int} {l : Nat} (h : l ≠ n) : BY N k (Ja gb n g) u S l = BY N k gb u S l := by
 unfold BY Ja
 split
 ·rfl
 ·rfl
theorem Bx {a b : Nat} (h : (a : Int) < b) : a < b := by omega
theorem Mt (Z : Zg) (k N : Nat) (S0 : Nat → SM) (al en : List Nat) (gm : Nat) (va ve ev : Value) (me mB h : Hp) (hp : IsP Z.p) (hd : ∀ j, Z.d j ≤ 200) (hk : k ≤ 200) (hN : N ≤ 100000) (M : Mch Z k N S0 al en) (hb : Z.back k = false) (RA : RtM Z.p (Z.d (k + 1)) (Z.d k) (Z.mat k)) (hA : RdL cI 1 h [] ev (mat (Z.d (k + 1)) (Z.d k) (Z.mat k)))
  (ha : RdL cV 1 h [] va (al.map (A1 S0))) (hE : OwnL cV 1 108 me ve (en.map (A1 S0))) (B : BagS Z.d N S0 mB) :
  FnT Tryz.prog 91 #[.pointer (some ⟨gm, 0, none⟩), .agg #[.int .i64 Z.p, .int .i64 (Z.d (k + 1)), .int .i64 (Z.d k), ev]] h [mB, AX gm 132 [.int .i64 Z.p, .int .i64 k, va, ve], me] (fun r h' ms' => h.le h' ∧ ∃ (nb : Nat) (S' : Nat → SM) (al' en' : List Nat) (va' ve' : Value) (me' mB' : Hp), ms' = [mB', AX gm 132 [.int .i64 Z.p, .int .i64 ((k : Int) + 1), va', ve'], me'] ∧ nb ≤ 200 ∧ RdL cV 1 h' [] va' (al'.map (A1 S')) ∧ OwnL cV 1 108 me' ve' (en'.map (A1 S')) ∧ BagS Z.d (N + nb) S' mB' ∧ Mch Z (k + 1) (N + nb) S' al' en') := by
 have hbp := RA.bd
 have hFp := hp.fld
 have d1 := hd (k + 1)
 have d0 := hd k
 have hal := M.cnt_al
 have oev := hA.rd.one
 have oa := ha.rd.one
 have hla : (al.map (A1 S0)).length = al.length := E8
 refine Av func91 ntmps91 rfl rfl (fun w0 hw0 => ?_)
 simp only [A4]
 refine Ax ?_
 refine AS [_, _, _, _] rfl rfl (by rfl) rfl rfl rfl (fun g3 => ?_)
 refine Aq (By 0 rfl fun h1 l1 hG => ?_)
 have hA := hA.up l1
 have ha := ha.up l1
 have hGA := Seg.all hG
 refine BX (BX (Ea (ms' := [mB, AX gm 132 [.int .i64 Z.p, .int .i64 k, va, ve], me, Hp.emp, Hp.emp]) (List.perm_append_comm (l₁ := [_, _]) (l₂ := [_, _, _])) (Ax (Qm rfl (B3 (Qm rfl (Aq ?_)))))))
 refine Bv (fun s hh ms' => ∃ (S : Nat → SM) (st de : List Nat) (w : Nat → Nat → Int) (es : List Value) (vst vim ve' : Value) (mB me' mst mim : Hp), s = [(0, .pointer (some ⟨gm, 0, none⟩)), (3, .pointer (some ⟨g3, 0, none⟩)), (4, vst), (5, vim)] ∧ h1.le hh ∧ ms' = [mB, AX gm 132 [.int .i64 Z.p, .int .i64 k, va, ve'], me', mst, mim] ∧ Fw Z k N S0 S al st de al.length w ∧ OwnL cV 1 108 mst vst (st.map (A1 S0)) ∧ OwnL cV 1 24 mim vim es ∧ ImV hh (Z.d (k + 1)) st.length es w ∧ OwnL cV 1 108 me' ve' ((en ++ de).map (A1 S0)) ∧ BagS Z.d N S mB) ?_ (fun s h ms hI => ?_)
 ·refine Ac (Ad (Qm rfl (Qm rfl (Qf DL rfl (Ql rfl underlying106 (Cell.blk 1 (k := 2) rfl rfl) (Qx (AJ (DC ha).any rfl underlying106 rfl) rfl (Qm rfl (Aq (Ag ?_)))))))))
  refine AD (fun q s hh ms' => ∃ (i : Nat) (S : Nat → SM) (st de : List Nat) (w : Nat → Nat → Int) (es : List Value) (vst vim ve' : Value) (mB me' mst mim : Hp), q = al.length - i ∧ s = [(0, .pointer (some ⟨gm, 0, none⟩)), (3, .pointer (some ⟨g3, 0, none⟩)), (4, vst), (5, vim), (20, va), (21, .int .i64 al.length), (22, .int .i64 i)] ∧ h1.le hh ∧ ms' = [mB, AX gm 132 [.int .i64 Z.p, .int .i64 k, va, ve'], me', mst, mim] ∧ i ≤ al.length ∧ Fw Z k N S0 S al st de i w ∧ OwnL cV 1 108 mst vst (st.map (A1 S0)) ∧ OwnL cV 1 24 mim vim es ∧ ImV hh (Z.d (k + 1)) st.length es w ∧ OwnL cV 1 108 me' ve' ((en ++ de).map (A1 S0)) ∧ BagS Z.d N S mB)
   (al.length - 0) _ ⟨0, S0, [], [], fun _ _ => 0, [], _, _, ve, mB, me, _, _, rfl, rfl, Hp.le_refl _, rfl, by omega, Fw.start M _, OwnL.nil BK, OwnL.nil BK, ⟨rfl, fun t ht => by simp at ht⟩, by rw [List.append_nil]; exact hE, B⟩ Qs ?_
  rintro q s hh ms' ⟨i, S, st, de, w, es, vst, vim, ve', mB, me', mst, mim, rfl, rfl, hlh, rfl, hi, W, hst, him, hIm, hen, B⟩
  have hA := hA.up hlh
  have ha := ha.up hlh
  have hG := hG.le hlh
  have hGA := Seg.all hG
  have hstl : st.length ≤ i := by
   have := W.sub.length_le
   rw [List.length_take] at this
   omega
  refine Ax (Qm rfl (Aq (Ac ?_)))
  refine AF rfl (fun hlt => ?_) (fun hlt => ?_)
  ·have hil : i < al.length := Bx hlt
   have hIm00 := hIm
   have hcs : ∀ ms, Cell hh ms ((Bl va).add (i * 1)) (A1 S0 (al.getD i 0)) := fun ms => Em ha.any hil
   have hsN : al.getD i 0 < N := M.lt (BF hil)
   have hsk : (S (al.getD i 0)).to = k := by rw [(W.same _).2.2]; exact M.live _ (BF hil)
   refine Ai (Ab (Ac (Ag (Ax (Qx (Ah _ (DC ha).any rfl underlying106 Cf rfl rfl rfl (by omega)) rfl (Ql rfl underlying108 (hcs _) (Qm rfl (Aq (CV fun h2 l2 lB dB LB => (CV fun h3 l3 lM dM LM => ?_))))))))))
   have hgs : A1 S0 (al.getD i 0) = .pointer (some ⟨(S (al.getD i 0)).g, 0, none⟩) := by unfold A1; rw [(W.same _).1]
   rw [hgs]
   have l03 := Hp.le_trans l2 l3
   have hA3 := hA.up l03
   obtain ⟨u, hu, hRu⟩ := SO Z.d _ _ _ _ h3 (B.rd (Hp.le_trans lB l3) hsN) (by omega)
   rw [hsk] at hRu
   have hG3 := hG.le l03
   have hGA3 := Seg.all hG3
   refine Ac (AW (n := 5) (bs := [true, true, true, false, false]) [true, true, true] Cd (by kernel_rfl) (by kernel_rfl) rfl rfl (Qp rfl (oG rfl underlying42 AI (Seg.any hG3)) (Qq rfl (Qp rfl (AG rfl call107 rfl (hu _)) ?_))))
   unfold CD
   simp only [List.cons_append, List.nil_append]
   refine Qo 3 rfl ?_
   refine Qc call67 rfl (IG Z.p (Z.d (k + 1)) (Z.d k) (Z.mat k) ((S (al.getD i 0)).v k) ev u h3 RA (fun j hj => W.bd _ hsN k (by have := B.fr_to hsN; omega) (by omega) j hj) hA3 hRu) (fun v h4 ms4 l4 hF => ?_)
   obtain ⟨l4', mv, rfl, hOv⟩ := hF
   refine Qa (Qo 4 rfl (Qm rfl (Qa (Qe ?_))))
   have wr : RtM Z.p (Z.d (k + 1)) st.length (fun a t => w t a) := ⟨hp, by omega, by omega, fun a ha t ht => by
    show 0 ≤ w t a ∧ w t a < Z.p
    rw [W.im t ht a ha]
    exact ⟨Int.emod_nonneg _ (by omega), Int.emod_lt_of_pos _ (by omega)⟩⟩
   have vr : RtM Z.p (Z.d (k + 1)) 1 (fun a _ => D2 Z.p (Z.d k) (Z.mat k) ((S (al.getD i 0)).v k) a) := ⟨hp, by omega, by omega, fun a ha t ht => by
    show 0 ≤ D2 _ _ _ _ a ∧ D2 _ _ _ _ a < _
    unfold D2
    exact ⟨Int.emod_nonneg _ (by omega), Int.emod_lt_of_pos _ (by omega)⟩⟩
   refine Ab (CV fun h5 l5 lv dv Lv => (Ea (ms' := [mim, me', mst]) (K5 _ _ _) (CV fun h6 l6 lim dim Lim => ?_)))
   have l06 := Hp.le_trans l03 (Hp.le_trans l4 (Hp.le_trans l5 l6))
   have hG6 := hG.le l06
   have hGA6 := Seg.all hG6
   have hMA := Seg.all (Seg.ofLe (Hp.le_trans lM (Hp.le_trans l4 (Hp.le_trans l5 l6))))
   have hRv : RdL cI 1 h6 [] v (vec (Z.d (k + 1)) (D2 Z.p (Z.d k) (Z.mat k) ((S (al.getD i 0)).v k))) := hOv.rdh (Hp.le_trans lv l6)
   have ov := hRv.rd.one
   have hRim : RdV h6 vim st.length (Z.d (k + 1)) w := (hIm.up l06).rd (him.rdh lim)
   refine Bv (fun s hh2 ms' => ∃ (F : Nat → Nat → Int) (pv : List Nat) (Mx : FM) (b : Bool) (g9 : Nat) (xe : Value) (mx : Hp), s = [(0, .pointer (some ⟨gm, 0, none⟩)), (3, .pointer (some ⟨g3, 0, none⟩)), (4, vst), (5, vim), (7, .pointer (some ⟨(S (al.getD i 0)).g, 0, none⟩)), (8, v), (9, .pointer (some ⟨g9, 0, none⟩)), (10, .bool b), (20, va), (21, .int .i64 al.length), (22, .int .i64 i)] ∧ h6.le hh2 ∧ ms' = [AX g9 42 [.int .i64 Mx.p, .int .i64 Mx.rows, .int .i64 Mx.cols, xe], mx, me', mst] ∧ Ho Z.p (Z.d (k + 1)) (st.length + 1) (jn st.length (fun a t => w t a) (fun a _ => D2 Z.p (Z.d k) (Z.mat k) ((S (al.getD i 0)).v k) a)) F pv ∧ OwnL cI 1 3 mx xe Mx.e ∧ (((∀ j (hj : j < pv.length), pv[j] < st.length) ∧ b = true ∧ Mx = EM Z.p st.length 1 (CB pv F st.length)) ∨ (¬ (∀ j (hj : j < pv.length), pv[j] < st.length) ∧ b = false))) ?_ (fun s h ms hI => ?_)
   ·refine AW (n := 24) (bs := [true, true, true, true, true, true, true, false, true, true, true, true, true, true, true, false, false, false, false, false, false, false, false, false]) [true, true, true, true, true, true, true, false, true, true, true, true, true, true, true] Cd (by kernel_rfl) (by kernel_rfl) rfl rfl (Qq rfl (Qq rfl (QF EY rfl (QL rfl underlying3 (hMA 0 _ rfl _) (QF Bh rfl (QL rfl underlying3 (hGA6 1 _ rfl _) (Qq rfl (Qq rfl (Qq rfl (QF EY rfl (QL rfl underlying3 (hMA 0 _ rfl _) (QF Bh rfl (QL rfl underlying3 (hGA6 1 _ rfl _) (Qq rfl ?_))))))))))))))
    unfold CD
    simp only [List.cons_append, List.nil_append]
    refine A2 [7, 15, 21] (by kernel_rfl) rfl ?_
    refine Az rfl ?_ ?_
    ·refine Qc call97 rfl (Bi Z.p (Z.d (k + 1)) st.length w vim _ wr.i64 wr.rl wr.cl (hRim.up (Hp.le_refl _))) (fun x7 h7 ms7 l7 hF => ?_)
     obtain ⟨rfl, ec, mc, rfl, rfl, hOc⟩ := hF
     refine AH hOc fun h7 l7 hRc => ?_
     have lcur := l7
     refine Qa (A2 [15, 21] (by kernel_rfl) rfl ?_)
     refine Az rfl ?_ ?_
     ·refine AB [_] rfl underlying62 BN rfl (hRv.rd.cells) rfl rfl (by omega) rfl rfl rfl (fun g46 => BD fun h8 l8 hSg => ?_)
      have hRc := hRc.up l8
      have lcur := Hp.le_trans lcur l8
      refine Qa (A2 [16, 21] (by kernel_rfl) rfl ?_)
      refine Az rfl ?_ ?_
      ·refine Qc call97 rfl (Bi Z.p (Z.d (k + 1)) 1 (fun _ => D2 Z.p (Z.d k) (Z.mat k) ((S (al.getD i 0)).v k)) _ _ wr.i64 wr.rl (by omega) (PG hSg (hRv.up lcur))) (fun x9 h9 ms9 l9 hF => ?_)
       obtain ⟨rfl, ed, md, rfl, rfl, hOd⟩ := hF
       refine AH hOd fun h10 l10 hRd => ?_
       have lcur := Hp.le_trans lcur l10
       refine Qa (A2 [17, 21] (by kernel_rfl) rfl ?_)
       refine Az rfl ?_ ?_
       ·refine Qc call115 rfl (B7 Z.p (Z.d (k + 1)) st.length (fun a t => w t a) (fun a _ => D2 Z.p (Z.d k) (Z.mat k) ((S (al.getD i 0)).v k) a) ec ed h10 wr vr (hRc.up l10) hRd) (fun x11 h11 ms11 l11 hF => ?_)
        obtain ⟨l11, F, pv, Mx, b, xe, mx, hE, rfl, rfl, hOx, hcase⟩ := hF
        have lcur := Hp.le_trans lcur l11
        have ox : xe.oneCell' = true := (hOx.rd (h := h) (ms := [mx]) (List.Mem.head _)).rd.one
        refine Qa (An 18 30 (by kernel_rfl) rfl (by assumption) rfl (As rfl rfl) (An 19 49 (by kernel_rfl) rfl (by assumption) rfl (AC rfl rfl rfl) (An 20 50 (by kernel_rfl) rfl (by assumption) rfl (AC rfl rfl rfl) (Qo 21 rfl (BZ [.int .i64 0, .int .i64 0, .int .i64 0, .slice none 0 0] rfl AI rfl rfl (fun g9 => Qa (Qo 22 rfl ?_)))))))
        refine Sa 0 [_, _, _, _] AI rfl (by simp [ox]) ?_
        refine Qa (Qo 23 rfl (Qm rfl (Qa (Qe ?_))))
        exact AA _ ⟨F, pv, Mx, b, g9, xe, mx, rfl, lcur, rfl, hE, hOx, hcase⟩ Qs
       refine Az rfl ?_ ?_
       ·refine BZ [.int .i64 0, .int .i64 0, .int .i64 0, .slice none 0 0] rfl AI rfl rfl (fun g9 => Qa (Qo 17 rfl (Qc call115 rfl (B7 Z.p (Z.d (k + 1)) st.length (fun a t => w t a) (fun a _ => D2 Z.p (Z.d k) (Z.mat k) ((S (al.getD i 0)).v k) a) ec ed h10 wr vr (hRc.up l10) hRd) (fun x11 h11 ms11 l11 hF => ?_))))
        obtain ⟨l11, F, pv, Mx, b, xe, mx, hE, rfl, rfl, hOx, hcase⟩ := hF
        have lcur := Hp.le_trans lcur l11
        have ox : xe.oneCell' = true := (hOx.rd (h := h) (ms := [mx]) (List.Mem.head _)).rd.one
        refine Qa (An 18 30 (by kernel_rfl) rfl (by assumption) rfl (As rfl rfl) (An 19 49 (by kernel_rfl) rfl (by assumption) rfl (AC rfl rfl rfl) (An 20 50 (by kernel_rfl) rfl (by assumption) rfl (AC rfl rfl rfl) (Qo 22 rfl ?_))))
        refine Sa 1 [_, _, _, _] AI rfl (by simp [ox]) ?_
        refine Qa (Qo 23 rfl (Qm rfl (Qa (Qe ?_))))
        exact A9 (AA _ ⟨F, pv, Mx, b, g9, xe, mx, rfl, lcur, rfl, hE, hOx, hcase⟩ Qs)
       exact A3
      refine Az rfl ?_ ?_
      ·refine BZ [.int .i64 0, .int .i64 0, .int .i64 0, .slice none 0 0] rfl AI rfl rfl (fun g9 => Qa (Qo 16 rfl (Qc call97 rfl (Bi Z.p (Z.d (k + 1)) 1 (fun _ => D2 Z.p (Z.d k) (Z.mat k) ((S (al.getD i 0)).v k)) _ _ wr.i64 wr.rl (by omega) (PG hSg (hRv.up lcur))) (fun x9 h9 ms9 l9 hF => ?_))))
       obtain ⟨rfl, ed, md, rfl, rfl, hOd⟩ := hF
       refine AH hOd fun h10 l10 hRd => ?_
       have lcur := Hp.le_trans lcur l10
       refine Qa (Qo 17 rfl (Qc call115 rfl (B7 Z.p (Z.d (k + 1)) st.length (fun a t => w t a) (fun a _ => D2 Z.p (Z.d k) (Z.mat k) ((S (al.getD i 0)).v k) a) ec ed h10 wr vr (hRc.up l10) hRd) (fun x11 h11 ms11 l11 hF => ?_)))
       obtain ⟨l11, F, pv, Mx, b, xe, mx, hE, rfl, rfl, hOx, hcase⟩ := hF
       have lcur := Hp.le_trans lcur l11
       have ox : xe.oneCell' = true := (hOx.rd (h := h) (ms := [mx]) (List.Mem.head _)).rd.one
       refine Qa (An 18 30 (by kernel_rfl) rfl (by assumption) rfl (As rfl rfl) (An 19 49 (by kernel_rfl) rfl (by assumption) rfl (AC rfl rfl rfl) (An 20 50 (by kernel_rfl) rfl (by assumption) rfl (AC rfl rfl rfl) (Qo 22 rfl ?_))))
       refine Sa 1 [_, _, _, _] AI rfl (by simp [ox]) ?_
       refine Qa (Qo 23 rfl (Qm rfl (Qa (Qe ?_))))
       exact A9 (AA _ ⟨F, pv, Mx, b, g9, xe, mx, rfl, lcur, rfl, hE, hOx, hcase⟩ Qs)
      exact A3
     refine Az rfl ?_ ?_
     ·refine BZ [.int .i64 0, .int .i64 0, .int .i64 0, .slice none 0 0] rfl AI rfl rfl (fun g9 => Qa (Qo 15 rfl (AB [_] rfl underlying62 BN rfl (hRv.rd.cells) rfl rfl (by omega) rfl rfl rfl (fun g46 => BD fun h8 l8 hSg => ?_))))
      have hRc := hRc.up l8
      have lcur := Hp.le_trans lcur l8
      refine Qa (Qo 16 rfl (Qc call97 rfl (Bi Z.p (Z.d (k + 1)) 1 (fun _ => D2 Z.p (Z.d k) (Z.mat k) ((S (al.getD i 0)).v k)) _ _ wr.i64 wr.rl (by omega) (PG hSg (hRv.up lcur))) (fun x9 h9 ms9 l9 hF => ?_)))
      obtain ⟨rfl, ed, md, rfl, rfl, hOd⟩ := hF
      refine AH hOd fun h10 l10 hRd => ?_
      have lcur := Hp.le_trans lcur l10
      refine Qa (Qo 17 rfl (Qc call115 rfl (B7 Z.p (Z.d (k + 1)) st.length (fun a t => w t a) (fun a _ => D2 Z.p (Z.d k) (Z.mat k) ((S (al.getD i 0)).v k) a) ec ed h10 wr vr (hRc.up l10) hRd) (fun x11 h11 ms11 l11 hF => ?_)))
      obtain ⟨l11, F, pv, Mx, b, xe, mx, hE, rfl, rfl, hOx, hcase⟩ := hF
      have lcur := Hp.le_trans lcur l11
      have ox : xe.oneCell' = true := (hOx.rd (h := h) (ms := [mx]) (List.Mem.head _)).rd.one
      refine Qa (An 18 30 (by kernel_rfl) rfl (by assumption) rfl (As rfl rfl) (An 19 49 (by kernel_rfl) rfl (by assumption) rfl (AC rfl rfl rfl) (An 20 50 (by kernel_rfl) rfl (by assumption) rfl (AC rfl rfl rfl) (Qo 22 rfl ?_))))
      refine Sa 1 [_, _, _, _] AI rfl (by simp [ox]) ?_
      refine Qa (Qo 23 rfl (Qm rfl (Qa (Qe ?_))))
      exact A9 (AA _ ⟨F, pv, Mx, b, g9, xe, mx, rfl, lcur, rfl, hE, hOx, hcase⟩ Qs)
     exact A3
    refine Az rfl ?_ ?_
    ·refine AB [_] rfl underlying62 BN rfl (hRv.rd.cells) rfl rfl (by omega) rfl rfl rfl (fun g46 => BD fun h8 l8 hSg => ?_)
     have lcur := l8
     refine Qa (A2 [7, 21] (by kernel_rfl) rfl ?_)
     refine Az rfl ?_ ?_
     ·refine Qc call97 rfl (Bi Z.p (Z.d (k + 1)) st.length w vim _ wr.i64 wr.rl wr.cl (hRim.up (by assumption))) (fun x7 h7 ms7 l7 hF => ?_)
      obtain ⟨rfl, ec, mc, rfl, rfl, hOc⟩ := hF
      refine AH hOc fun h7 l7 hRc => ?_
      have hSg := hSg.le l7
      have lcur := Hp.le_trans lcur l7
      refine Qa (A2 [16, 21] (by kernel_rfl) rfl ?_)
      refine Az rfl ?_ ?_
      ·refine Qc call97 rfl (Bi Z.p (Z.d (k + 1)) 1 (fun _ => D2 Z.p (Z.d k) (Z.mat k) ((S (al.getD i 0)).v k)) _ _ wr.i64 wr.rl (by omega) (PG hSg (hRv.up lcur))) (fun x9 h9 ms9 l9 hF => ?_)
       obtain ⟨rfl, ed, md, rfl, rfl, hOd⟩ := hF
       refine AH hOd fun h10 l10 hRd => ?_
       have lcur := Hp.le_trans lcur l10
       refine Qa (A2 [17, 21] (by kernel_rfl) rfl ?_)
       refine Az rfl ?_ ?_
       ·refine Qc call115 rfl (B7 Z.p (Z.d (k + 1)) st.length (fun a t => w t a) (fun a _ => D2 Z.p (Z.d k) (Z.mat k) ((S (al.getD i 0)).v k) a) ec ed h10 wr vr (hRc.up l10) hRd) (fun x11 h11 ms11 l11 hF => ?_)
        obtain ⟨l11, F, pv, Mx, b, xe, mx, hE, rfl, rfl, hOx, hcase⟩ := hF
        have lcur := Hp.le_trans lcur l11
        have ox : xe.oneCell' = true := (hOx.rd (h := h) (ms := [mx]) (List.Mem.head _)).rd.one
        refine Qa (An 18 30 (by kernel_rfl) rfl (by assumption) rfl (As rfl rfl) (An 19 49 (by kernel_rfl) rfl (by assumption) rfl (AC rfl rfl rfl) (An 20 50 (by kernel_rfl) rfl (by assumption) rfl (AC rfl rfl rfl) (Qo 21 rfl (BZ [.int .i64 0, .int .i64 0, .int .i64 0, .slice none 0 0] rfl AI rfl rfl (fun g9 => Qa (Qo 22 rfl ?_)))))))
        refine Sa 0 [_, _, _, _] AI rfl (by simp [ox]) ?_
        refine Qa (Qo 23 rfl (Qm rfl (Qa (Qe ?_))))
        exact AA _ ⟨F, pv, Mx, b, g9, xe, mx, rfl, lcur, rfl, hE, hOx, hcase⟩ Qs
       refine Az rfl ?_ ?_
       ·refine BZ [.int .i64 0, .int .i64 0, .int .i64 0, .slice none 0 0] rfl AI rfl rfl (fun g9 => Qa (Qo 17 rfl (Qc call115 rfl (B7 Z.p (Z.d (k + 1)) st.length (fun a t => w t a) (fun a _ => D2 Z.p (Z.d k) (Z.mat k) ((S (al.getD i 0)).v k) a) ec ed h10 wr vr (hRc.up l10) hRd) (fun x11 h11 ms11 l11 hF => ?_))))
        obtain ⟨l11, F, pv, Mx, b, xe, mx, hE, rfl, rfl, hOx, hcase⟩ := hF
        have lcur := Hp.le_trans lcur l11
        have ox : xe.oneCell' = true := (hOx.rd (h := h) (ms := [mx]) (List.Mem.head _)).rd.one
        refine Qa (An 18 30 (by kernel_rfl) rfl (by assumption) rfl (As rfl rfl) (An 19 49 (by kernel_rfl) rfl (by assumption) rfl (AC rfl rfl rfl) (An 20 50 (by kernel_rfl) rfl (by assumption) rfl (AC rfl rfl rfl) (Qo 22 rfl ?_))))
        refine Sa 1 [_, _, _, _] AI rfl (by simp [ox]) ?_
        refine Qa (Qo 23 rfl (Qm rfl (Qa (Qe ?_))))
        exact A9 (AA _ ⟨F, pv, Mx, b, g9, xe, mx, rfl, lcur, rfl, hE, hOx, hcase⟩ Qs)
       exact A3
      refine Az rfl ?_ ?_
      ·refine BZ [.int .i64 0, .int .i64 0, .int .i64 0, .slice none 0 0] rfl AI rfl rfl (fun g9 => Qa (Qo 16 rfl (Qc call97 rfl (Bi Z.p (Z.d (k + 1)) 1 (fun _ => D2 Z.p (Z.d k) (Z.mat k) ((S (al.getD i 0)).v k)) _ _ wr.i64 wr.rl (by omega) (PG hSg (hRv.up lcur))) (fun x9 h9 ms9 l9 hF => ?_))))
       obtain ⟨rfl, ed, md, rfl, rfl, hOd⟩ := hF
       refine AH hOd fun h10 l10 hRd => ?_
       have lcur := Hp.le_trans lcur l10
       refine Qa (Qo 17 rfl (Qc call115 rfl (B7 Z.p (Z.d (k + 1)) st.length (fun a t => w t a) (fun a _ => D2 Z.p (Z.d k) (Z.mat k) ((S (al.getD i 0)).v k) a) ec ed h10 wr vr (hRc.up l10) hRd) (fun x11 h11 ms11 l11 hF => ?_)))
       obtain ⟨l11, F, pv, Mx, b, xe, mx, hE, rfl, rfl, hOx, hcase⟩ := hF
       have lcur := Hp.le_trans lcur l11
       have ox : xe.oneCell' = true := (hOx.rd (h := h) (ms := [mx]) (List.Mem.head _)).rd.one
       refine Qa (An 18 30 (by kernel_rfl) rfl (by assumption) rfl (As rfl rfl) (An 19 49 (by kernel_rfl) rfl (by assumption) rfl (AC rfl rfl rfl) (An 20 50 (by kernel_rfl) rfl (by assumption) rfl (AC rfl rfl rfl) (Qo 22 rfl ?_))))
       refine Sa 1 [_, _, _, _] AI rfl (by simp [ox]) ?_
       refine Qa (Qo 23 rfl (Qm rfl (Qa (Qe ?_))))
       exact A9 (AA _ ⟨F, pv, Mx, b, g9, xe, mx, rfl, lcur, rfl, hE, hOx, hcase⟩ Qs)
      exact A3
     refine Az rfl ?_ ?_
     ·refine BZ [.int .i64 0, .int .i64 0, .int .i64 0, .slice none 0 0] rfl AI rfl rfl (fun g9 => Qa (Qo 7 rfl (Qc call97 rfl (Bi Z.p (Z.d (k + 1)) st.length w vim _ wr.i64 wr.rl wr.cl (hRim.up (by assumption))) (fun x7 h7 ms7 l7 hF => ?_))))
      obtain ⟨rfl, ec, mc, rfl, rfl, hOc⟩ := hF
      refine AH hOc fun h7 l7 hRc => ?_
      have hSg := hSg.le l7
      have lcur := Hp.le_trans lcur l7
      refine Qa (Qo 16 rfl (Qc call97 rfl (Bi Z.p (Z.d (k + 1)) 1 (fun _ => D2 Z.p (Z.d k) (Z.mat k) ((S (al.getD i 0)).v k)) _ _ wr.i64 wr.rl (by omega) (PG hSg (hRv.up lcur))) (fun x9 h9 ms9 l9 hF => ?_)))
      obtain ⟨rfl, ed, md, rfl, rfl, hOd⟩ := hF
      refine AH hOd fun h10 l10 hRd => ?_
      have lcur := Hp.le_trans lcur l10
      refine Qa (Qo 17 rfl (Qc call115 rfl (B7 Z.p (Z.d (k + 1)) st.length (fun a t => w t a) (fun a _ => D2 Z.p (Z.d k) (Z.mat k) ((S (al.getD i 0)).v k) a) ec ed h10 wr vr (hRc.up l10) hRd) (fun x11 h11 ms11 l11 hF => ?_)))
      obtain ⟨l11, F, pv, Mx, b, xe, mx, hE, rfl, rfl, hOx, hcase⟩ := hF
      have lcur := Hp.le_trans lcur l11
      have ox : xe.oneCell' = true := (hOx.rd (h := h) (ms := [mx]) (List.Mem.head _)).rd.one
      refine Qa (An 18 30 (by kernel_rfl) rfl (by assumption) rfl (As rfl rfl) (An 19 49 (by kernel_rfl) rfl (by assumption) rfl (AC rfl rfl rfl) (An 20 50 (by kernel_rfl) rfl (by assumption) rfl (AC rfl rfl rfl) (Qo 22 rfl ?_))))
      refine Sa 1 [_, _, _, _] AI rfl (by simp [ox]) ?_
      refine Qa (Qo 23 rfl (Qm rfl (Qa (Qe ?_))))
      exact A9 (AA _ ⟨F, pv, Mx, b, g9, xe, mx, rfl, lcur, rfl, hE, hOx, hcase⟩ Qs)
     exact A3
    refine Az rfl ?_ ?_
    ·refine BZ [.int .i64 0, .int .i64 0, .int .i64 0, .slice none 0 0] rfl AI rfl rfl (fun g9 => Qw (A2 [7, 15] (by kernel_rfl) rfl ?_))
     refine Az rfl ?_ ?_
     ·refine Qc call97 rfl (Bi Z.p (Z.d (k + 1)) st.length w vim _ wr.i64 wr.rl wr.cl (hRim.up (Hp.le_refl _))) (fun x7 h7 ms7 l7 hF => ?_)
      obtain ⟨rfl, ec, mc, rfl, rfl, hOc⟩ := hF
      refine AH hOc fun h7 l7 hRc => ?_
      have lcur := l7
      refine Qa (Qo 15 rfl (AB [_] rfl underlying62 BN rfl (hRv.rd.cells) rfl rfl (by omega) rfl rfl rfl (fun g46 => BD fun h8 l8 hSg => ?_)))
      have hRc := hRc.up l8
      have lcur := Hp.le_trans lcur l8
      refine Qa (Qo 16 rfl (Qc call97 rfl (Bi Z.p (Z.d (k + 1)) 1 (fun _ => D2 Z.p (Z.d k) (Z.mat k) ((S (al.getD i 0)).v k)) _ _ wr.i64 wr.rl (by omega) (PG hSg (hRv.up lcur))) (fun x9 h9 ms9 l9 hF => ?_)))
      obtain ⟨rfl, ed, md, rfl, rfl, hOd⟩ := hF
      refine AH hOd fun h10 l10 hRd => ?_
      have lcur := Hp.le_trans lcur l10
      refine Qa (Qo 17 rfl (Qc call115 rfl (B7 Z.p (Z.d (k + 1)) st.length (fun a t => w t a) (fun a _ => D2 Z.p (Z.d k) (Z.mat k) ((S (al.getD i 0)).v k) a) ec ed h10 wr vr (hRc.up l10) hRd) (fun x11 h11 ms11 l11 hF => ?_)))
      obtain ⟨l11, F, pv, Mx, b, xe, mx, hE, rfl, rfl, hOx, hcase⟩ := hF
      have lcur := Hp.le_trans lcur l11
      have ox : xe.oneCell' = true := (hOx.rd (h := h) (ms := [mx]) (List.Mem.head _)).rd.one
      refine Qa (An 18 30 (by kernel_rfl) rfl (by assumption) rfl (As rfl rfl) (An 19 49 (by kernel_rfl) rfl (by assumption) rfl (AC rfl rfl rfl) (An 20 50 (by kernel_rfl) rfl (by assumption) rfl (AC rfl rfl rfl) (Qo 22 rfl ?_))))
      refine Sa 1 [_, _, _, _] AI rfl (by simp [ox]) ?_
      refine Qa (Qo 23 rfl (Qm rfl (Qa (Qe ?_))))
      exact A9 (AA _ ⟨F, pv, Mx, b, g9, xe, mx, rfl, lcur, rfl, hE, hOx, hcase⟩ Qs)
     refine Az rfl ?_ ?_
     ·refine AB [_] rfl underlying62 BN rfl (hRv.rd.cells) rfl rfl (by omega) rfl rfl rfl (fun g46 => BD fun h8 l8 hSg => ?_)
      have lcur := l8
      refine Qa (Qo 7 rfl (Qc call97 rfl (Bi Z.p (Z.d (k + 1)) st.length w vim _ wr.i64 wr.rl wr.cl (hRim.up (by assumption))) (fun x7 h7 ms7 l7 hF => ?_)))
      obtain ⟨rfl, ec, mc, rfl, rfl, hOc⟩ := hF
      refine AH hOc fun h7 l7 hRc => ?_
      have hSg := hSg.le l7
      have lcur := Hp.le_trans lcur l7
      refine Qa (Qo 16 rfl (Qc call97 rfl (Bi Z.p (Z.d (k + 1)) 1 (fun _ => D2 Z.p (Z.d k) (Z.mat k) ((S (al.getD i 0)).v k)) _ _ wr.i64 wr.rl (by omega) (PG hSg (hRv.up lcur))) (fun x9 h9 ms9 l9 hF => ?_)))
      obtain ⟨rfl, ed, md, rfl, rfl, hOd⟩ := hF
      refine AH hOd fun h10 l10 hRd => ?_
      have lcur := Hp.le_trans lcur l10
      refine Qa (Qo 17 rfl (Qc call115 rfl (B7 Z.p (Z.d (k + 1)) st.length (fun a t => w t a) (fun a _ => D2 Z.p (Z.d k) (Z.mat k) ((S (al.getD i 0)).v k) a) ec ed h10 wr vr (hRc.up l10) hRd) (fun x11 h11 ms11 l11 hF => ?_)))
      obtain ⟨l11, F, pv, Mx, b, xe, mx, hE, rfl, rfl, hOx, hcase⟩ := hF
      have lcur := Hp.le_trans lcur l11
      have ox : xe.oneCell' = true := (hOx.rd (h := h) (ms := [mx]) (List.Mem.head _)).rd.one
      refine Qa (An 18 30 (by kernel_rfl) rfl (by assumption) rfl (As rfl rfl) (An 19 49 (by kernel_rfl) rfl (by assumption) rfl (AC rfl rfl rfl) (An 20 50 (by kernel_rfl) rfl (by assumption) rfl (AC rfl rfl rfl) (Qo 22 rfl ?_))))
      refine Sa 1 [_, _, _, _] AI rfl (by simp [ox]) ?_
      refine Qa (Qo 23 rfl (Qm rfl (Qa (Qe ?_))))
      exact A9 (AA _ ⟨F, pv, Mx, b, g9, xe, mx, rfl, lcur, rfl, hE, hOx, hcase⟩ Qs)
     exact A3
    exact A3
   ·obtain ⟨F, pv, Mx, b, g9, xe, mx, rfl, l7, rfl, hE, hOx, hcase⟩ := hI
    -- what was lent comes back
    refine F6 Lim (Hp.le_trans lim l7) fun h8 q8 b8 => ?_
    have e1 : ∀ a : Hp, a.le h6 → a.disj mim → a.le h8 := fun a q1 q2 => b8 a (Hp.le_trans q1 l7) q2
    refine Ea (ms' := [AX g9 42 [.int .i64 Mx.p, .int .i64 Mx.rows, .int .i64 Mx.cols, xe], mx, me', mst, mim]) (List.perm_append_comm (l₁ := [_]) (l₂ := [_, _, _, _])) ?_
    have hl58 : h5.le h8 := e1 _ l6 dim
    refine F6 Lv (Hp.le_trans lv hl58) fun h9 q9 b9 => ?_
    have hl49 : h4.le h9 := b9 _ (Hp.le_trans l5 hl58) dv
    refine F6 LM (Hp.le_trans lM (Hp.le_trans l4 hl49)) fun h10 q10 b10 => ?_
    have hl2 : h2.le h10 := b10 _ (Hp.le_trans l3 (Hp.le_trans l4 hl49)) dM
    refine F6 LB (Hp.le_trans lB hl2) fun h11 q11 b11 => ?_
    have hl11 : hh.le h11 := b11 _ (Hp.le_trans l2 hl2) dB
    have hA := hA.up hl11
    have ha := ha.up hl11
    have hG := hG.le hl11
    have hIm := hIm.up hl11
    have hlh := Hp.le_trans hlh hl11
    refine Cu 2 rfl (Bg hOv fun h12 l12 hRv => ?_)
    have hA := hA.up l12
    have ha := ha.up l12
    have hG := hG.le l12
    have hGA := Seg.all hG
    have hIm0 := hIm00
    have hIm := (hIm.up l12).snoc hRv
    have hlh := Hp.le_trans hlh l12
    have ov := hRv.rd.one
    rcases hcase with ⟨hyes, rfl, rfl⟩ | ⟨hno, rfl⟩
    ·-- it ends here
     refine Cu 3 rfl (Bg hOx fun h13 l13 hRx => (Cu 2 rfl (AL fun h14 l14 hGx => ?_)))
     have l1314 := Hp.le_trans l13 l14
     have hA := hA.up l1314
     have ha := ha.up l1314
     have hG := hG.le l1314
     have hGA := Seg.all hG
     have hIm := hIm.up l1314
     have hlh := Hp.le_trans hlh l1314
     have hRx : RdL cI 1 h14 [] xe (mat st.length 1 (CB pv F st.length)) := hRx.up l14
     have hxA := Seg.all hGx
     have hxe : ∀ j, j < st.length → 0 ≤ CB pv F st.length j 0 ∧ CB pv F st.length j 0 < Z.p := fun j hj => by
      unfold CB H9
      split
      ·rename_i h2
       exact hE.red.bd _ (by have := hE.red.len; omega) _ (by omega)
      ·omega
     refine Ac (Ax (Qm rfl (Qm rfl (Aq (Bb rfl (Ai (Ab (Ac (Ax (Qm rfl (Qx (AJ (DC (hst.rd (List.Mem.tail _ (List.Mem.tail _ (List.Mem.tail _ (List.Mem.head _)))))) rfl underlying106 rfl) rfl (Qm rfl (Aq (Ag ?_))))))))))))))
     refine AD (fun q s hh ms' => ∃ (j : Nat) (S' : Nat → SM) (mB : Hp), q = st.length - j ∧ s = [(0, .pointer (some ⟨gm, 0, none⟩)), (3, .pointer (some ⟨g3, 0, none⟩)), (4, vst), (5, vim), (7, .pointer (some ⟨(S (al.getD i 0)).g, 0, none⟩)), (9, .pointer (some ⟨g9, 0, none⟩)), (20, va), (21, .int .i64 al.length), (22, .int .i64 i), (61, vst), (62, .int .i64 st.length), (63, .int .i64 j)] ∧ h14.le hh ∧ ms' = [mB, AX gm 132 [.int .i64 Z.p, .int .i64 k, va, ve'], me', mst, mim] ∧ j ≤ st.length ∧ FwI Z k N S S' st (al.getD i 0) (fun a => CB pv F st.length a 0) j ∧ BagS Z.d N S' mB)
      (st.length - 0) _ ⟨0, S, mB, rfl, rfl, Hp.le_refl _, rfl, by omega, FwI.start W.val W.bd, B⟩ Qs ?_
     rintro q s hh3 ms' ⟨j, S', mB, rfl, rfl, lj, rfl, hj, I, B⟩
     have hRx := hRx.up lj
     have hGx := hGx.le lj
     refine Ax (Qm rfl (Aq (Ac ?_)))
     refine AF rfl (fun hltj => ?_) (fun hltj => ?_)
     ·have hjl : j < st.length := Bx hltj
      have hcj : ∀ ms, mst ∈ ms → Cell hh3 ms ((Bl vst).add (j * 1)) (A1 S0 (st.getD j 0)) := fun ms hm => Em (hst.rd hm) hjl
      refine Ai (Ab (Ac (Ag (Ax (Qm rfl (Qx (Ah _ (DC (hst.rd (List.Mem.tail _ (List.Mem.tail _ (List.Mem.tail _ (List.Mem.head _)))))) rfl underlying106 Cf rfl rfl rfl (by omega)) rfl (Ql rfl underlying108 (hcj _ (List.Mem.tail _ (List.Mem.tail _ (List.Mem.tail _ (List.Mem.head _))))) (Qm rfl (Qm rfl (Aq ?_))))))))))
      have htal : st.getD j 0 ∈ al.take i := W.sub.subset (BF hjl)
      have hta : st.getD j 0 ∈ al := List.mem_of_mem_take htal
      have htN : st.getD j 0 < N := M.lt hta
      have hne : st.getD j 0 ≠ al.getD i 0 := fun he => Ei M.nodup hil (he ▸ htal)
      have htk : (S (st.getD j 0)).to = k := by rw [(W.same _).2.2]; exact M.live _ hta
      have hmay : (Dr N S).may Z (st.getD j 0) (al.getD i 0) := by
       have h1 := M.ord
       have h2 : (al.take (i + 1)).Pairwise ((Dr N S0).may Z) := h1.sublist (List.take_sublist _ _)
       rw [BU hil] at h2
       have h3 := (List.pairwise_append.1 h2).2.2 _ htal (al.getD i 0) (by simp)
       unfold Dc.may at h3 ⊢
       show (S (st.getD j 0)).fr = (S (al.getD i 0)).fr ∨ ((S (al.getD i 0)).fr < (S (st.getD j 0)).fr ∧ Z.back ((S (st.getD j 0)).fr - 1) = true) ∨ ((S (st.getD j 0)).fr < (S (al.getD i 0)).fr ∧ Z.back ((S (al.getD i 0)).fr - 1) = false)
       rw [(W.same (st.getD j 0)).2.1, (W.same (al.getD i 0)).2.1]
       exact h3
      have hgt : A1 S0 (st.getD j 0) = .pointer (some ⟨(S' (st.getD j 0)).g, 0, none⟩) := by unfold A1; rw [(I.same _).1, (W.same _).1]
      have hgs2 : (S (al.getD i 0)).g = (S' (al.getD i 0)).g := (I.same _).1.symm
      rw [hgt, hgs2]
      refine Di (CV fun h15 l15 lM2 dM2 LM2 => ?_)
      have hMA2 := Seg.all (Seg.ofLe lM2)
      have hxj := hxe j hjl
      have hRx5 := hRx.up l15
      have hxA5 := Seg.all (hGx.le l15)
      have hcx : ∀ ms, Cell h15 ms ((Bl xe).add (j * 1)) (.int .i64 (CB pv F st.length j 0)) := fun ms => by
       have := (hRx5.any (ms := ms)).ent (i := j) (j := 0) hjl (by omega)
       rwa [show j * 1 + 0 = j by omega] at this
      have elx : (mat st.length 1 (CB pv F st.length)).length = st.length * 1 := AY _ _ _
      refine AW (n := 17) (bs := [true, true, true, true, true, true, true, true, true, true, true, true, true, true, true, true, false]) [true, true, true, true, true, true, true, true, true, true, true, true, true, true, true, true] Cd (by kernel_rfl) (by kernel_rfl) rfl rfl (Qq rfl (Qq rfl (Qq rfl (QF EY rfl (QL rfl underlying3 (hMA2 0 _ rfl _) (Qq rfl (Qq rfl (QF EY rfl (QL rfl underlying3 (hMA2 0 _ rfl _) (QF Bc rfl (QL rfl underlying24 (hxA5 3 _ rfl _) (Qq rfl (Qp rfl (Ah (j) hRx5.rd.any rfl underlying24 A8 rfl rfl (by omega) (by omega)) (QL rfl underlying3 (hcx _) (Qp rfl (oS rfl) (Qq rfl ?_))))))))))))))))
      unfold CD
      simp only [List.cons_append, List.nil_append]
      refine Qo 16 rfl ?_
      refine Bs (pre := [mB]) rfl call112 rfl (Nn Z.p (Z.p - CB pv F st.length j 0) Z.d N (al.getD i 0) (st.getD j 0) S' mB h15 hbp (by omega) (fun j => Nat.le_trans (hd j) (by omega)) hsN htN (Ne.symm hne) (by rw [(I.same _).2.2, (I.same (st.getD j 0)).2.2, hsk, htk]) (by rw [(I.same _).2.2, hsk]; omega) (I.bd _ hsN) (I.bd _ htN) B) rfl rfl rfl rfl (fun x h16 ms16 l16 hF => ?_)
      obtain ⟨rfl, mB', rfl, B'⟩ := hF
      refine Qw (Qe (E1 LM2 lM2 fun h17 q17 b17 => (A9 (Aj (Ab (Ad (Qx (oA rfl) rfl (Qm rfl (Ak ?_)))))))))
      refine Al (st.length - (j + 1)) _ (by omega) ⟨j + 1, _, mB', rfl, rfl, Hp.le_trans lj (b17 _ l15 dM2), rfl, by omega, I.step (by omega) hsN htN hne hsk htk hmay, B'⟩ Qs
     ·obtain rfl : j = st.length := by omega
      have W' := W.ends hil M.nodup I (fun a ha => by
       have h1 := HJ hE.red hyes (s := 0) (by omega) ha
       refine h1.trans ?_
       unfold D2
       exact Cg.mod _ _)
      have hel : ((en ++ de).map (A1 S0)).length = en.length + de.length := by simp
      have hend : en.length + de.length ≤ N + N := by
       have h1 := (List.Perm.length_eq M.perm)
       have h2 := (List.Perm.length_eq W.perm)
       rw [List.length_append, List.length_range] at h1
       rw [List.length_append, List.length_take] at h2
       omega
      refine Aw (Aa (Aa (Af (Ab (Ad (Qm rfl (Qm rfl (Qm rfl (Qf Hj rfl (Ql rfl underlying106 (Cell.blk 1 (k := 3) rfl rfl) (Qm rfl ?_)))))))))))
      refine AB [_] rfl underlying106 Cf rfl (by rfl) rfl rfl (by omega) rfl rfl rfl (fun g92 => ?_)
      refine Ba 3 hen (RdL.one BK (List.Mem.head _) rfl) rfl underlying106 Cf rfl (by omega) rfl rfl rfl (Cj rfl) (by simp only [List.length_singleton]; omega) (by simp only [List.length_singleton]; omega) rfl rfl rfl (fun ve2 me2 hen2 => ?_)
      have oe2 : ve2.oneCell' = true := (hen2.rd (h := h) (ms := [me2]) (List.Mem.head _)).rd.one
      refine Qm rfl (Qf Hj rfl ?_)
      refine AK 2 _ rfl G2 rfl rfl (by assumption) rfl rfl (by (simp; done)) rfl rfl ?_
      refine Ak (Aj (Ab (Ad (Qx (oA rfl) rfl (Qm rfl (Ak (A5 ?_)))))))
      refine Al (al.length - (i + 1)) _ (by omega) ⟨i + 1, S', st, de ++ [al.getD i 0], w, es, vst, vim, ve2, mB, me2, mst, mim, rfl, rfl, Hp.le_trans hlh lj, rfl, by omega, W', hst, him, ?_, ?_, B⟩ Qs
      ·exact (hIm0.up (Hp.le_trans (Hp.le_trans hl11 l12) (Hp.le_trans l1314 lj)))
      ·rw [List.map_append, List.map_append, ← List.append_assoc, ← List.map_append]
       have e2 : [al.getD i 0].map (A1 S0) = [A1 S0 (al.getD i 0)] := rfl
       rw [e2, hgs]
       exact hen2
    ·-- it stays
     have hstm : (st.map (A1 S0)).length ≤ 400 := by rw [E8]; omega
     have hesl : es.length ≤ 400 := by rw [hIm0.1]; omega
     refine Ac (Ax (Qm rfl (Qm rfl (Aq (AU rfl (Ax (Qm rfl (Qm rfl ?_))))))))
     refine AB [_] rfl underlying106 Cf rfl (by rfl) rfl rfl (by omega) rfl rfl rfl (fun g55 => ?_)
     refine Ba 6 hst (RdL.one BK (List.Mem.head _) rfl) rfl underlying106 Cf rfl (by omega) rfl rfl rfl (Cj rfl) (by simp only [List.length_singleton]; omega) (by simp only [List.length_singleton]; omega) rfl rfl rfl (fun vst2 mst2 hst2 => ?_)
     refine Qm rfl (Qm rfl (AB [_] rfl underlying62 BN rfl ((hRv.rd).cells) rfl rfl (by omega) rfl rfl rfl (fun g59 => ?_)))
     refine Ba 8 him (RdL.one BK (List.Mem.head _) rfl) rfl underlying62 BN rfl (by omega) rfl rfl rfl (Cj ov) (by simp only [List.length_singleton]; omega) (by simp only [List.length_singleton]; omega) rfl rfl rfl (fun vim2 mim2 him2 => ?_)
     refine Qm rfl (Qm rfl (Aq (Aw (Aa (Af (Ab (Ad (Qx (oA rfl) rfl (Qm rfl (Ak (AP 0 rfl (AP 0 rfl (AP 2 rfl (AP 2 rfl ?_))))))))))))))
     have eu : ∀ a, Fq st.length w (D2 Z.p (Z.d k) (Z.mat k) ((S (al.getD i 0)).v k)) st.length a = D2 Z.p (Z.d k) (Z.mat k) ((S (al.getD i 0)).v k) a := fun a => by unfold Fq; rw [if_pos rfl]
     refine Al (al.length - (i + 1)) _ (by omega) ⟨i + 1, S, st ++ [al.getD i 0], de, Fq st.length w (D2 Z.p (Z.d k) (Z.mat k) ((S (al.getD i 0)).v k)), es ++ [v], vst2, vim2, ve', mB, me', mst2, mim2, rfl, rfl, hlh, rfl, by omega, ?_, ?_, him2, ?_, hen, B⟩ Qs
     ·refine W.stay hFp hil (fun t ht a ha => ?_) (fun a ha => eu a) fun x hx => Lq hbp.1 hE.red hno x fun a ha => ?_
      ·unfold Fq; rw [if_neg (by omega)]
      ·have := hx a ha
       rw [eu] at this
       exact this
     ·rw [List.map_append]
      have e2 : [al.getD i 0].map (A1 S0) = [A1 S0 (al.getD i 0)] := rfl
      rw [e2, hgs]
      exact hst2
     ·rw [List.length_append, List.length_singleton]
      exact hIm
  ·obtain rfl : i = al.length := by omega
   refine Aw (Aa (Aa (Af ?_)))
   exact AA _ ⟨S, st, de, w, es, vst, vim, ve', mB, me', mst, mim, rfl, hlh, rfl, W, hst, him, hIm, hen, B⟩ Qs
 ·obtain ⟨S, st, de, w, es, vst, vim, ve', mB, me', mst, mim, rfl, hlh, rfl, W, hst, him, hIm, hen, B⟩ := hI
  refine Cu 4 rfl (Bg him fun h2 l2 hRi => ?_)
  have hsub : st.Sublist al := by have := W.sub; rwa [List.take_length] at this
  have hstl : st.length ≤ al.length := hsub.length_le
  have hnd : st.Nodup := M.nodup.sublist hsub
  have hA := hA.up (Hp.le_trans hlh l2)
  have hG := hG.le (Hp.le_trans hlh l2)
  have hIm := hIm.up l2
  have hlh := Hp.le_trans hlh l2
  have hRin : ∀ (h : Hp), h2.le h → Rd h [] vim 1 st.length (es.flatMap cV) := fun h l => by
   have := (hRi.up l).rd
   rwa [hIm.1] at this
  refine Bv (fun s hh ms' => ∃ (mB : Hp), s = [(0, .pointer (some ⟨gm, 0, none⟩)), (3, .pointer (some ⟨g3, 0, none⟩)), (4, vst), (5, vim)] ∧ h2 = hh ∧ ms' = [mB, AX gm 132 [.int .i64 Z.p, .int .i64 k, va, ve'], me', mst] ∧ BagS Z.d N (BS k w st st.length S) mB) ?_ (fun s h ms hI => ?_)
  ·refine Ac (Ad (Qm rfl (Qx (AJ (DC (hst.rd (List.Mem.tail _ (List.Mem.tail _ (List.Mem.tail _ (List.Mem.head _)))))) rfl underlying106 rfl) rfl (Qm rfl (Aq (Ag ?_))))))
   refine AD (fun q s hh ms' => ∃ (i : Nat) (mB : Hp), q = st.length - i ∧ s = [(0, .pointer (some ⟨gm, 0, none⟩)), (3, .pointer (some ⟨g3, 0, none⟩)), (4, vst), (5, vim), (97, vst), (98, .int .i64 st.length), (99, .int .i64 i)] ∧ h2 = hh ∧ ms' = [mB, AX gm 132 [.int .i64 Z.p, .int .i64 k, va, ve'], me', mst] ∧ i ≤ st.length ∧ BagS Z.d N (BS k w st i S) mB)
    (st.length - 0) _ ⟨0, mB, rfl, rfl, rfl, rfl, by omega, by rw [M3]; exact B⟩ Qs ?_
   rintro q s hh ms' ⟨i, mB, rfl, rfl, rfl, rfl, hi, B⟩
   refine Ax (Qm rfl (Aq (Ac ?_)))
   refine AF rfl (fun hlt => ?_) (fun hlt => ?_)
   ·have hil : i < st.length := Bx hlt
    have hcs : ∀ ms, mst ∈ ms → Cell h2 ms ((Bl vst).add (i * 1)) (A1 S0 (st.getD i 0)) := fun ms hm => Em (hst.rd hm) hil
    have hie : i < es.length := by rw [hIm.1]; exact hil
    have hsN : st.getD i 0 < N := M.lt (hsub.subset (BF hil))
    have hsg := JD (k := k) (w := w) (S := S) (Ei hnd hil)
    have hgs : A1 S0 (st.getD i 0) = .pointer (some ⟨(BS k w st i S (st.getD i 0)).g, 0, none⟩) := by unfold A1; rw [hsg, (W.same _).1]
    have hsk : (BS k w st i S (st.getD i 0)).to = k := by rw [hsg, (W.same _).2.2]; exact M.live _ (hsub.subset (BF hil))
    refine Ai (Ab (Ac (Ag (Ax (Qm rfl (Qx (Ah _ (DC (hst.rd (List.Mem.tail _ (List.Mem.tail _ (List.Mem.tail _ (List.Mem.head _)))))) rfl underlying106 Cf rfl rfl rfl (by omega)) rfl (Ql rfl underlying108 (hcs _ (List.Mem.tail _ (List.Mem.tail _ (List.Mem.tail _ (List.Mem.head _))))) (Qm rfl (Qm rfl (Aq ?_))))))))))
    rw [hgs]
    refine Ad (Qm rfl (Qm rfl (Qm rfl (Qx (Ah _ (hRin _ (Hp.le_refl _)).any rfl underlying62 BN rfl rfl rfl (by omega)) rfl (Ql rfl underlying24 (hRi.any.cell0 hie rfl) ?_)))))
    refine Bs (pre := [mB]) rfl call113 rfl (KZ Z.d N (st.getD i 0) (BS k w st i S) (w i) es[i] mB h2 hsN (by rw [hsk]; exact hIm.2 i hie) (by rw [hsk]; omega) (by omega) B) rfl rfl rfl rfl (fun x h16 ms16 l16 hF => ?_)
    obtain ⟨rfl, mB', rfl, B'⟩ := hF
    refine Ak (Aj (Ab (Ad (Qx (oA rfl) rfl (Qm rfl (Ak ?_))))))
    refine Al (st.length - (i + 1)) _ (by omega) ⟨i + 1, mB', rfl, rfl, rfl, rfl, by omega, ?_⟩ Qs
    rw [M7 hnd hil (by rw [(W.same _).2.2]; exact M.live _ (hsub.subset (BF hil)))] at B'
    exact B'
   ·obtain rfl : i = st.length := by omega
    refine Aw (Aa (Aa (Af ?_)))
    exact AA _ ⟨mB, rfl, rfl, rfl, B⟩ Qs
  ·obtain ⟨mB, rfl, rfl, rfl, B⟩ := hI
   have wr : RtM Z.p (Z.d (k + 1)) st.length (fun a t => w t a) := ⟨hp, by omega, by omega, fun a ha t ht => by
    show 0 ≤ w t a ∧ w t a < Z.p
    rw [W.im t ht a ha]
    exact ⟨Int.emod_nonneg _ (by omega), Int.emod_lt_of_pos _ (by omega)⟩⟩
   have hGA := Seg.all hG
   refine Ax (Qm rfl (Qm rfl (Qf F9 rfl (Ql rfl underlying3 (Cell.blk 1 (k := 1) rfl rfl) (Qx (oA rfl) rfl (Qm rfl (Qf F9 rfl ?_)))))))
   refine AK 1 _ rfl A8 rfl rfl (by rfl) rfl rfl (by (simp; done)) rfl rfl ?_
   refine Aq ?_
   refine Bv (fun s hh ms' => ∃ (F : Nat → Nat → Int) (pv : List Nat) (gb : Nat → Nat) (vst : Value) (mB mst : Hp), s = [(0, .pointer (some ⟨gm, 0, none⟩)), (4, vst)] ∧ h2.le hh ∧ ms' = [mB, AX gm 132 [.int .i64 Z.p, .int .i64 ((k : Int) + 1), va, ve'], me', mst] ∧ Ho Z.p (Z.d (k + 1)) (st.length + Z.d (k + 1)) (jn st.length (fun i j => w j i) Dl) F pv ∧ (from_ st.length pv).length ≤ 200 ∧ BagS Z.d (N + (from_ st.length pv).length) (BY N k gb (fun t i => jn st.length (fun i j => w j i) Dl i ((from_ st.length pv).getD t 0)) (BS k w st st.length S)) mB ∧ OwnL cV 1 108 mst vst ((st ++ List.range' N (from_ st.length pv).length).map (A1 (BY N k gb (fun t i => jn st.length (fun i j => w j i) Dl i ((from_ st.length pv).getD t 0)) (BS k w st st.length S))))) ?_ (fun s h ms hI => ?_)
   ·refine Ac (AW (n := 10) (bs := [true, true, true, false, true, true, true, false, false, true]) [true, true, true, false, true, true, true, false, false, true] Cd (by kernel_rfl) (by kernel_rfl) rfl rfl (Qq rfl (Qq rfl (QF EY rfl (QF Bh rfl (QL rfl underlying3 (hGA 1 _ rfl _) (Qq rfl (Qq rfl ?_))))))))
    unfold CD
    simp only [List.cons_append, List.nil_append]
    refine Qo 3 rfl (Ql rfl underlying3 (Cell.blk0 1 rfl rfl) (Qw (Qo 7 rfl (Qc call116 rfl (Rx Z.p (Z.d (k + 1)) st.length w vim h2 wr (by omega) (hIm.rd hRi)) (fun vb h3 ms3 l3 hF => ?_)))))
    obtain ⟨l3, F, pv, ma2, mb2, es2, hEch, rfl, hOa, hBb⟩ := hF
    have hRbl : Rd h3 [ma2, mb2] vb 1 (from_ st.length pv).length (es2.flatMap cV) := by have := (hOa.rd (h := h3) (ms := [ma2, mb2]) (List.Mem.head _)).rd; rwa [hBb.1] at this
    refine Qa (An 8 126 (by kernel_rfl) rfl (by assumption) rfl (CH hRbl rfl underlying62 rfl) (Qe (Ab (Ag (Bg hOa fun h4 l4 hRa => (CV fun h5 l5 lm5 _ _ => ?_))))))
    have hRa := hRa.up l5
    have hRV : RdV h5 vb (from_ st.length pv).length (Z.d (k + 1)) (fun t i => jn st.length (fun i j => w j i) Dl i ((from_ st.length pv).getD t 0)) := hBb.rd hRa lm5
    have l25 := Hp.le_trans l3 (Hp.le_trans l4 l5)
    have hlh := Hp.le_trans hlh l25
    have hev : ∀ t (ht : t < es2.length), RdL cI 1 h5 [] es2[t] (vec (Z.d (k + 1)) fun i => jn st.length (fun i j => w j i) Dl i ((from_ st.length pv).getD t 0)) := fun t ht => by
     obtain ⟨x, hx, O⟩ := Bag.all hBb.2 t (by rw [← hBb.1]; exact ht)
     rw [Ev ht] at O
     exact O.rdh (Hp.le_trans hx lm5)
    have hnbl : (from_ st.length pv).length ≤ 200 := by
     have h1 := hEch.red.len
     have h2 : (from_ st.length pv).length ≤ pv.length := List.length_filter_le _ _
     omega
    generalize hu : (fun t i => jn st.length (fun i j => w j i) Dl i ((from_ st.length pv).getD t 0)) = u at *
    generalize hnb : (from_ st.length pv).length = nb at *
    have hRbn : ∀ h, h5.le h → Rd h [] vb 1 nb (es2.flatMap cV) := fun h l => by
     have := (hRa.up l).rd
     rwa [hBb.1] at this
    refine AD (fun q s hh ms' => ∃ (b : Nat) (gb : Nat → Nat) (vst : Value) (mB mst : Hp), q = nb - b ∧ s = [(0, .pointer (some ⟨gm, 0, none⟩)), (4, vst), (125, vb), (126, .int .i64 nb), (127, .int .i64 b)] ∧ h5.le hh ∧ ms' = [mB, AX gm 132 [.int .i64 Z.p, .int .i64 ((k : Int) + 1), va, ve'], me', mst] ∧ b ≤ nb ∧ BagS Z.d (N + b) (BY N k gb u (BS k w st st.length S)) mB ∧ OwnL cV 1 108 mst vst ((st ++ List.range' N b).map (A1 (BY N k gb u (BS k w st st.length S)))))
     (nb - 0) _ ⟨0, fun _ => 0, vst, mB, mst, rfl, rfl, Hp.le_refl _, rfl, by omega, ?_, ?_⟩ Qs ?_
    ·exact B.mono fun l hl x O => by rw [ET hl]; exact O
    ·rw [List.range'_zero, List.append_nil]
     have e1 : st.map (A1 (BY N k (fun _ => 0) u (BS k w st st.length S))) = st.map (A1 S0) := List.map_congr_left fun l hl => by
      unfold A1; rw [ET (M.lt (hsub.subset hl)), (NJ _).1, (W.same l).1]
     rw [e1]
     exact hst
    rintro q s hh ms' ⟨b, gb, vst, mB, mst, rfl, rfl, lb, rfl, hb2, B, hst⟩
    refine Ax (Qm rfl (Aq (Ac ?_)))
    refine AF rfl (fun hltb => ?_) (fun hltb => ?_)
    ·have hbl : b < nb := Bx hltb
     have hbe : b < es2.length := by rw [hBb.1]; exact hbl
     have hRv : RdL cI 1 hh [] es2[b] (vec (Z.d (k + 1)) (u b)) := by
      have := (hev b hbe).up lb
      rw [← hu]
      exact this
     have ov := hRv.rd.one
     refine Ai (Ab (Ac (Ag (Ax (Qx (Ah _ (hRbn _ lb).any rfl underlying62 BN rfl rfl rfl (by omega)) rfl (Ql rfl underlying24 ((hRa.up lb).any.cell0 hbe rfl) (Qm rfl (Aq (Di (CV fun h6 l6 lM dM LM => (Ad (Qm rfl (Qm rfl (Qm rfl (Qc call88 rfl (Hm Z.d gm (k + 1) (u b) es2[b] _ _ _ h6 (Seg.ofLe lM) (hRv.up l6) (by omega)) (fun x h7 ms7 l7 hF => ?_))))))))))))))))
     obtain ⟨rfl, g, m, rfl, rfl, hS⟩ := hF
     have hstl2 : ((st ++ List.range' N b).map (A1 (BY N k gb u (BS k w st st.length S)))).length ≤ 1000 := by simp; omega
     refine AB [_] rfl underlying106 Cf rfl (by rfl) rfl rfl (by omega) rfl rfl rfl (fun g135 => ?_)
     refine Ba 4 hst (RdL.one BK (List.Mem.head _) rfl) rfl underlying106 Cf rfl (by omega) rfl rfl rfl (Cj rfl) (by simp only [List.length_singleton]; omega) (by simp only [List.length_singleton]; omega) rfl rfl rfl (fun vst2 mst2 hst2 => ?_)
     refine Qm rfl (Ak (Aj (Ab (Ad (Qx (oA rfl) rfl (Qm rfl (Ak (A5 (E1 LM lM fun h8 q8 b8 => (Ck fun hap => ?_))))))))))
     have hdj : mB.disj m := by
      have h1 := (List.pairwise_cons.1 hap).2
      exact Hp.disj_symm ((List.pairwise_cons.1 h1).1 _ (by simp))
     refine Db 1 rfl (Db 2 rfl (Cq ?_))
     refine Al (nb - (b + 1)) _ (by omega) ⟨b + 1, Ja gb (N + b) g, vst2, mB.join m, mst2, rfl, rfl, Hp.le_trans lb (b8 _ l6 dM), rfl, by omega, ?_, ?_⟩ Qs
     ·refine Bag.snoc (N := N + b) (B.mono fun l hl x O => ?_) ?_ hdj
      ·rw [Ew (by omega)]; exact O
      ·rw [Dx (Nat.le_add_right N b)]
       show StO Z.d (if N + b = N + b then g else gb (N + b)) (k + 1) (k + 1) (fun _ => u (N + b - N)) m
       rw [if_pos rfl, Nat.add_sub_cancel_left]
       exact hS
     ·have e1 : (st ++ List.range' N (b + 1)).map (A1 (BY N k (Ja gb (N + b) g) u (BS k w st st.length S))) = (st ++ List.range' N b).map (A1 (BY N k gb u (BS k w st st.length S))) ++ [.pointer (some ⟨g, 0, none⟩)] := by
       rw [List.range'_1_concat, ← List.append_assoc, List.map_append]
       congr 1
       ·refine List.map_congr_left fun l hl => ?_
        unfold A1
        rw [Ew]
        rcases List.mem_append.1 hl with h | h
        ·have := M.lt (hsub.subset h); omega
        ·have := List.mem_range'_1.1 h; omega
       ·show [A1 _ (N + b)] = _
        unfold A1
        rw [Dx (Nat.le_add_right N b)]
        show [Value.pointer (some ⟨(if N + b = N + b then g else gb (N + b)), 0, none⟩)] = _
        rw [if_pos rfl]
      rw [e1]
      exact hst2
    ·obtain rfl : b = nb := by omega
     refine Aw (Aa (Aa (Af ?_)))
     subst hnb
     subst hu
     exact AA _ ⟨F, pv, gb, vst, mB, mst, rfl, Hp.le_trans l25 lb, rfl, hEch, hnbl, B, hst⟩ Qs
   ·obtain ⟨F, pv, gb, vst, mB, mst, rfl, lb, rfl, hEch, hnbl, B, hst⟩ := hI
    have ost : vst.oneCell' = true := (hst.rd (h := h) (ms := [mst]) (List.Mem.head _)).rd.one
    refine Ad (Qm rfl (Qm rfl (Qm rfl (Qf DL rfl ?_))))
    refine AK 1 _ rfl G2 rfl rfl (by assumption) rfl rfl (by (simp; done)) rfl rfl ?_
    refine Ak (Db 3 rfl (CW hst fun h9 l9 hRst => ?_))
    have Mn := Fw.done (gb := gb) hFp hbp.1 M W hb hEch.red
    have e1 : (en ++ de).map (A1 (BY N k gb (fun t i => jn st.length (fun i j => w j i) Dl i ((from_ st.length pv).getD t 0)) (BS k w st st.length S))) = (en ++ de).map (A1 S0) := List.map_congr_left fun l hl => by
     have hlN : l < N := by
      rcases List.mem_append.1 hl with h1 | h1
      ·exact List.mem_range.1 (M.perm.mem_iff.1 (List.mem_append_left _ h1))
      ·have h2 := W.perm.mem_iff.1 (List.mem_append_right _ h1)
       exact M.lt (List.mem_of_mem_take h2)
     unfold A1; rw [ET hlN, (NJ _).1, (W.same l).1]
    exact B6 rfl (⟨Hp.le_trans l1 (Hp.le_trans hlh (Hp.le_trans lb l9)), _, _, _, _, vst, ve', me', mB, rfl, hnbl, hRst, by rw [e1]; exact hen, B, Mn⟩)
end Go.Proofs.YtdnelknieikbaaaGreat
namespace Go.Proofs.YtdnelknieikbaaaGreat
open Go.Eng Go.RowKit Go.Lin
variable {a b : Nat}
structure Uq (p : Int) (r c : Nat) (A L : Nat → Nat → Int) (q : Nat) (X U : Nat → Nat → Int) : Prop where
 rank : ∀ F pv, Ho p r c A F pv → pv.length = q
 bdX : ∀ t, t < q → ∀ i, i < r → 0 ≤ X t i ∧ X t i < p
 bdU : ∀ t, t < q → ∀ i, i < c → 0 ≤ U t i ∧ U t i < p
 top : ∃ top : Nat → Nat, ∀ t, t < q → top t < r ∧ X t (top t) = 1 ∧ (∀ i, top t < i → i < r → X t i = 0) ∧ ∀ t', t' < q → t' ≠ t → X t' (top t) = 0
 lift : ∀ t, t < q → ∀ i, i < r → Cg p (ap A c (U t) i) (ap L r (X t) i)
theorem Oq {p : Int} (Fp : Lin.Fld p) {r c : Nat} {f F F' : Nat → Nat → Int} {pv pv' : List Nat} (R : Red p r c f F pv c) (R' : Red p r c f F' pv' c) : pv.length = pv'.length := by
 have h1 := CA Fp (F7 R) fun l hl _ => F4 R' hl
 have h2 := CA Fp (F7 R') fun l hl _ => F4 R hl
 rw [C6 R, C6 R'] at h1
 rw [C6 R, C6 R'] at h2
 omega
theorem Pq {p : Int} (Fp : Lin.Fld p) {r c : Nat} {f F : Nat → Nat → Int} {pv : List Nat} (R : Red p r c f F pv c) (hI : Ind p r tt c (fun l b => f l b)) : pv.length = r := by
 refine Nat.le_antisymm R.len (Nat.le_of_not_lt fun hlt => ?_)
 obtain ⟨u, ⟨j, hj, hnd⟩, hu⟩ := IK Fp pv.length r (fun k i => f i (pv.getD k 0)) hlt
 refine hnd (hI u (fun b hb => ?_) j hj rfl)
 rw [Cs]
 have h1 : Cg p (sm r fun l => u l * f l b) (sm r fun l => u l * ap f c (Gg pv fun k => F k b) l) := Cg.sm fun l hl => (Cg.refl p (u l)).mul (Ii R hb hl)
 refine h1.trans ?_
 have h2 : (sm r fun l => u l * ap f c (Gg pv fun k => F k b) l) = sm c fun a => Gg pv (fun k => F k b) a * sm r fun l => u l * f l a := by
  unfold ap
  rw [AE (g := fun l => sm c fun a => Gg pv (fun k => F k b) a * (u l * f l a)) fun l _ => by
   rw [← Cb]
   exact AE fun a _ => by rw [Int.mul_comm (f l a), ← Int.mul_assoc, ← Int.mul_assoc, Int.mul_comm (u l)], D9]
  exact AE fun a _ => Cb _ _ _
 rw [h2]
 refine Cg.trans (Cg.sm (g := fun _ => 0) fun a ha => ?_) (Cg.of_eq (CS c))
 by_cases hm : a ∈ pv
 ·obtain ⟨k, hk, rfl⟩ := List.mem_iff_getElem.1 hm
  have h3 := hu k hk
  have h4 : Cg p (sm r fun l => u l * f l pv[k]) 0 := by
   refine Cg.trans (Cg.of_eq (AE fun l _ => ?_)) h3
   rw [Cn hk, Int.mul_comm]
  have := (Cg.refl p (Gg pv (fun k => F k b) pv[k])).mul h4
  rwa [Int.mul_zero] at this
 ·rw [FI _ hm, Int.zero_mul]; exact Cg.refl _ _
theorem V9 (A B : Nat → Nat → Int) (n m : Nat) (x : Nat → Int) (i : Nat) : ap A n (fun j => ap B m x j) i = ap (fun i k => sm n fun j => A i j * B j k) m x i := by
 unfold ap
 rw [AE (g := fun j => sm m fun k => A i j * B j k * x k) fun j _ => by
  rw [← Cb]
  exact AE fun k _ => by rw [Int.mul_assoc], D9]
 exact AE fun k _ => Iy _ _ _
section
variable {p : Int} {r c : Nat} {A L : Nat → Nat → Int} {F : Nat → Nat → Int} {pv : List Nat} {Fa : Nat → Nat → Int} {pa : List Nat}
theorem Tr (hp : 2 ≤ p) (Fp : Lin.Fld p) (hI : Ind p r tt r (fun l i => L i l)) (R : Red p r (r + r) (jn r L Dl) F pv (r + r)) (k : Nat) {i : Nat} (hi : i < r) : Cg p (ap L r (fun j => Fb p r (CB pv F r) (FL pa A) j k) i) (FL pa A i k) := by
 have hlt := Sc Fp hp hI R
 have h1 : Cg p (ap L r (fun j => Fb p r (CB pv F r) (FL pa A) j k) i) (ap L r (fun j => ap (CB pv F r) r (fun t => FL pa A t k) j) i) := EC (fun j _ => Cg.mod _ _) i
 refine h1.trans ?_
 rw [V9]
 have h2 : ∀ t, t < r → Cg p (sm r fun j => L i j * CB pv F r j t) (if i = t then 1 else 0) := fun t ht => HJ R hlt ht hi
 refine (Cg.sm (g := fun t => (if i = t then 1 else 0) * FL pa A t k) fun t ht => (h2 t ht).mul (Cg.refl _ _)).trans (Cg.of_eq ?_)
 rw [DZ r i _ hi fun t _ hne => by rw [if_neg (Ne.symm hne), Int.zero_mul], if_pos rfl, Int.one_mul]
def SP (r : Nat) (C : Nat → Nat → Int) (k b : Nat) : Int := C (r - 1 - b) k
def It (r : Nat) (C : Nat → Nat → Int) (k i a b : Nat) : Int := if a < k ∨ (a = k ∧ r - 1 - b < i) then SP r C a b else 0
theorem On {r k i : Nat} (C : Nat → Nat → Int) (hi : i < r) (hb : b < r) : DB (It r C k i) k (r - 1 - i) (C i k) a b = It r C k (i + 1) a b := by
 unfold DB It SP
 by_cases h : a = k ∧ b = r - 1 - i
 ·obtain ⟨rfl, rfl⟩ := h
  rw [if_pos ⟨rfl, rfl⟩, if_pos (by omega)]; congr 1; omega
 ·rw [if_neg h]
  by_cases h2 : a < k ∨ (a = k ∧ r - 1 - b < i)
  ·rw [if_pos h2, if_pos (by omega)]
  ·rw [if_neg h2, if_neg (by omega)]
theorem QH {r k : Nat} (C : Nat → Nat → Int) (hb : b < r) : It r C k r a b = It r C (k + 1) 0 a b := by
 unfold It
 by_cases h2 : a < k ∨ (a = k ∧ r - 1 - b < r)
 ·rw [if_pos h2, if_pos (by omega)]
 ·rw [if_neg h2, if_neg (by omega)]
theorem OJ (r : Nat) (C : Nat → Nat → Int) (a b : Nat) : It r C 0 0 a b = 0 := if_neg (by omega)
theorem Rm {r q : Nat} (C : Nat → Nat → Int) (ha : a < q) : It r C q 0 a b = SP r C a b := if_pos (.inl ha)
theorem TY (hp : 2 ≤ p) (Fp : Lin.Fld p) (hI : Ind p r tt r (fun l i => L i l)) (R : Red p r (r + r) (jn r L Dl) F pv (r + r)) (Ra : Red p r c A Fa pa c) {T : Nat → Nat → Int} {pt : List Nat} (RT : Red p pa.length r (SP r (Fb p r (CB pv F r) (FL pa A))) T pt r) :
  (∃ top : Nat → Nat, ∀ t, t < pa.length → top t < r ∧ T t (r - 1 - top t) = 1 ∧ (∀ i, top t < i → i < r → T t (r - 1 - i) = 0) ∧ ∀ t', t' < pa.length → t' ≠ t → T t' (r - 1 - top t) = 0) ∧
  ∀ t, t < pa.length → ∃ y : Nat → Int, ∀ i, i < r → Cg p (ap A c y i) (ap L r (fun i => T t (r - 1 - i)) i) := by
 generalize hC : Fb p r (CB pv F r) (FL pa A) = C at *
 have hLC : ∀ k i, i < r → Cg p (ap L r (fun j => C j k) i) (FL pa A i k) := fun k i hi => by rw [← hC]; exact Tr hp Fp hI R k hi
 -- the columns of C are independent
 have hCI : Ind p pa.length tt r (fun l i => C i l) := fun u hu l hl hb => by
  refine Lc Ra u (fun i hi => ?_) l hl hb
  rw [Cs]
  have h1 : Cg p (sm pa.length fun l => u l * A i (pa.getD l 0)) (sm pa.length fun l => u l * ap L r (fun j => C j l) i) := Cg.sm fun l _ => (Cg.refl p (u l)).mul (hLC l i hi).symm
  refine h1.trans ?_
  have h2 : (sm pa.length fun l => u l * ap L r (fun j => C j l) i) = ap L r (fun j => Bj pa.length tt u (fun l i => C i l) j) i := by
   unfold ap
   rw [AE (g := fun l => sm r fun j => L i j * (u l * C j l)) fun l _ => by
    rw [← Cb]
    exact AE fun j _ => by rw [← Int.mul_assoc, ← Int.mul_assoc, Int.mul_comm (u l)], D9]
   exact AE fun j _ => by
    show _ = L i j * Bj pa.length tt u (fun l i => C i l) j
    rw [Cs, ← Cb]
  rw [h2]
  refine (EC (fun j hj => hu j hj) i).trans (Cg.of_eq (J8 L r i))
 have hTI : Ind p pa.length tt r (fun l b => SP r C l b) := fun u hu l hl hb => by
  refine hCI u (fun i hi => ?_) l hl hb
  have := hu (r - 1 - i) (by omega)
  unfold SP at this
  rw [Cs] at this ⊢
  rwa [show r - 1 - (r - 1 - i) = i by omega] at this
 have hlen := Pq Fp RT hTI
 refine ⟨⟨fun t => r - 1 - pt.getD t 0, fun t ht => ?_⟩, fun t ht => ?_⟩
 ·have htl : t < pt.length := by omega
  have hlt := RT.lt t htl
  dsimp only
  rw [Cn htl]
  have e : r - 1 - (r - 1 - pt[t]) = pt[t] := by omega
  refine ⟨by omega, ?_, fun i hi hir => ?_, fun t' ht' hne => ?_⟩
  ·rw [e, RT.col t ht t htl, if_pos rfl]
  ·exact RT.left t htl _ (by omega)
  ·rw [e, RT.col t' ht' t htl, if_neg hne]
 ·obtain ⟨u, hu⟩ := RT.row t ht
  -- the row is a sum of multiples of rows; so the combination is one of columns of the image
  refine ⟨fun a => Gg pa u a, fun i hi => ?_⟩
  have h1 : Cg p (ap L r (fun i => T t (r - 1 - i)) i) (ap L r (fun i => sm pa.length fun l => u l * C i l) i) := EC (fun j hj => by
   have := hu (r - 1 - j) (by omega)
   unfold SP at this
   rwa [show r - 1 - (r - 1 - j) = j by omega] at this) i
  have h2 : ap L r (fun i => sm pa.length fun l => u l * C i l) i = sm pa.length fun l => u l * ap L r (fun j => C j l) i := by
   unfold ap
   rw [AE (g := fun j => sm pa.length fun l => u l * (L i j * C j l)) fun j _ => by
    rw [← Cb]
    exact AE fun l _ => by rw [← Int.mul_assoc, ← Int.mul_assoc, Int.mul_comm (L i j)], D9]
   exact AE fun l _ => Cb _ _ _
  have h3 : Cg p (sm pa.length fun l => u l * ap L r (fun j => C j l) i) (sm pa.length fun l => u l * A i (pa.getD l 0)) := Cg.sm fun l _ => (Cg.refl p (u l)).mul (hLC l i hi)
  have h4 : ap A c (fun a => Gg pa u a) i = sm pa.length fun l => u l * A i (pa.getD l 0) := by
   unfold ap
   have e1 : (sm c fun a => A i a * Gg pa u a) = sm c fun a => if pa.contains a then A i a * Gg pa u a else 0 := AE fun a _ => by
    by_cases hm : a ∈ pa
    ·rw [if_pos (List.contains_iff_mem.2 hm)]
    ·rw [if_neg (fun h => hm (List.contains_iff_mem.1 h)), FI _ hm, Int.mul_zero]
   rw [e1, KC c (fun b => pa.contains b) fun a => A i a * Gg pa u a, C6 Ra, Gm Ra.sorted Ra.mem_lt]
   exact AE fun l hl => by rw [Cn hl, MW Ra.nodup u hl, Int.mul_comm]
  rw [h4]
  exact (h1.trans ((Cg.of_eq h2).trans h3)).symm
end
end Go.Proofs.YtdnelknieikbaaaGreat
namespace Go.Proofs.YtdnelknieikbaaaGreat
open Go.Proofs.Tryz
open Go.Eng Go.RowKit Go.Lin
theorem IT (n : Nat) (w : Nat → Nat → Int) : Fq n w (w n) = w := funext fun t => by
 unfold Fq
 split
 ·rename_i h; rw [h]
 ·rfl
theorem Ci (p : Int) (r c : Nat) (A L : Nat → Nat → Int) (av lv : Value) (h : Hp) (RA : RtM p r c A) (RL : RtM p r r L) (hr : r ≤ 200) (hc : c ≤ 200) (hI : Ind p r tt r (fun l i => L i l)) (hA : RdL cI 1 h [] av (mat r c A)) (hL : RdL cI 1 h [] lv (mat r r L)) :
  FnT Tryz.prog 108 #[.agg #[.int .i64 p, .int .i64 r, .int .i64 c, av], .agg #[.int .i64 p, .int .i64 r, .int .i64 r, lv]] h [] (fun x h' ms' => h.le h' ∧ ∃ (q : Nat) (X U : Nat → Nat → Int) (vc vl : Value), x = .tuple #[vc, vl] ∧ Uq p r c A L q X U ∧ RdV h' vc q r X ∧ RdV h' vl q c U ∧ ms' = []) := by
 have hb := RA.bd
 have Fp := RA.pr.fld
 have oav := hA.rd.one
 have olv := hL.rd.one
 refine Av func108 ntmps108 rfl rfl (fun w0 hw0 => ?_)
 simp only [A4]
 refine Ax ?_
 refine AS [_, _, _, _] rfl rfl (by rfl) rfl rfl rfl (fun g2 => ?_)
 refine AS [_, _, _, _] rfl rfl (by rfl) rfl rfl rfl (fun g3 => ?_)
 refine Qm rfl (Qm rfl (Aq (By 0 rfl fun h1 l1 hG3 => (By 0 rfl fun h2 l2 hG2 => ?_))))
 have hG3 := hG3.le l2
 have hA := hA.up (Hp.le_trans l1 l2)
 have hL := hL.up (Hp.le_trans l1 l2)
 have l02 := Hp.le_trans l1 l2
 refine Ax (Qx (oG rfl underlying42 AI (Seg.any hG3)) rfl (Qc call132 rfl (MN p r L lv h2 RL hL (fun F pv hE => (LN Fp hE.red).2 hI) (fun F pv hE => Sc Fp hb.1 hI hE.red)) (fun x3 h3 ms3 l3 hF => ?_)))
 obtain ⟨l3', Fi, pi, vi, hEi, rfl, ei, mi, rfl, rfl, hOi⟩ := hF
 refine AH hOi fun h4 l4 hRi => ?_
 have oi := hRi.rd.one
 refine Qm rfl (Qm rfl (Qm rfl (BZ [.int .i64 0, .int .i64 0, .int .i64 0, .slice none 0 0] rfl AI rfl rfl (fun g6 => ?_))))
 refine Sa 0 [_, _, _, _] AI rfl (by simp [oi]) ?_
 refine Qm rfl (Aq (By 0 rfl fun h5 l5 hG6 => ?_))
 have l25 := Hp.le_trans l3 (Hp.le_trans l4 l5)
 have hA := hA.up l25
 have hL := hL.up l25
 have hG2 := hG2.le l25
 have hG3 := hG3.le l25
 have hRi := hRi.up l5
 have Rin : RtM p r r (CB pi Fi r) := ⟨RA.pr, RA.rl, RA.rl, fun i hi j hj => by
  unfold CB H9
  split
  ·rename_i h2
   exact hEi.red.bd _ (by have := hEi.red.len; omega) _ (by omega)
  ·omega⟩
 have l05 := Hp.le_trans l02 l25
 clear l1 l2 l3 l3' l4 l5 l25 l02
 refine Bv (fun s hh ms' => ∃ (Fa : Nat → Nat → Int) (pa : List Nat) (ec : Value) (g8 : Nat) (mc : Hp), s = [(2, .pointer (some ⟨g2, 0, none⟩)), (3, .pointer (some ⟨g3, 0, none⟩)), (4, .slice none 0 0), (5, .slice none 0 0), (8, .pointer (some ⟨g8, 0, none⟩))] ∧ h5.le hh ∧ ms' = [AX g8 42 [.int .i64 p, .int .i64 r, .int .i64 pa.length, ec], mc] ∧ Ho p r c A Fa pa ∧ OwnL cI 1 3 mc ec (mat r pa.length (Fb p r (CB pi Fi r) (FL pa A)))) ?_ (fun s h ms hI => ?_)
 ·refine AW (n := 10) (bs := [true, true, false, false, false, false, false, false, false, false]) [true, true] Cd (by kernel_rfl) (by kernel_rfl) rfl rfl (Qp rfl (oG rfl underlying42 AI (Seg.any hG6)) (Qp rfl (oG rfl underlying42 AI (Seg.any hG2)) ?_))
  unfold CD
  simp only [List.cons_append, List.nil_append]
  refine A2 [2, 7] (by kernel_rfl) rfl ?_
  refine Az rfl ?_ ?_
  ·refine Qc call133 rfl (Li p r c A av _ RA hA) (fun x6 h6 ms6 l6 hF => ?_)
   obtain ⟨l6', Fa, pa, hEa, em, mm, rfl, rfl, hOm⟩ := hF
   refine AH hOm fun h7 l7 hRm => ?_
   have lcur := Hp.le_trans l6 l7
   refine Qa (A2 [3, 7] (by kernel_rfl) rfl ?_)
   refine Az rfl ?_ ?_
   ·refine Qc call98 rfl (Gq p r r pa.length (CB pi Fi r) (FL pa A) ei em h7 Rin ⟨RA.pr, RA.rl, by have := hEa.red.lenc; omega, fun i hi j hj => RA.en i hi _ (by rw [Cn hj]; exact hEa.red.lt j hj)⟩ (hRi.up lcur) hRm) (fun x8 h8 ms8 l8 hF => ?_)
    obtain ⟨rfl, v8, rfl, ec, mc, rfl, rfl, hOc⟩ := hF
    have oc : ec.oneCell' = true := (hOc.rd (h := h) (ms := [mc]) (List.Mem.head _)).rd.one
    refine Qa (An 4 23 (by kernel_rfl) rfl (by assumption) rfl (As rfl rfl) (An 5 28 (by kernel_rfl) rfl (by assumption) rfl (AC rfl rfl rfl) (An 6 29 (by kernel_rfl) rfl (by assumption) rfl (AC rfl rfl rfl) (Qo 7 rfl (BZ [.int .i64 0, .int .i64 0, .int .i64 0, .slice none 0 0] rfl AI rfl rfl (fun g8 => Qa (Qo 8 rfl ?_)))))))
    refine Sa 0 [_, _, _, _] AI rfl (by simp [oc]) ?_
    refine Qa (Qo 9 rfl (Qm rfl (Qa (Qe ?_))))
    exact AA _ ⟨Fa, pa, ec, g8, mc, rfl, lcur, rfl, hEa, hOc⟩ Qs
   refine Az rfl ?_ ?_
   ·refine BZ [.int .i64 0, .int .i64 0, .int .i64 0, .slice none 0 0] rfl AI rfl rfl (fun g8 => Qa (Qo 3 rfl ?_))
    refine Qc call98 rfl (Gq p r r pa.length (CB pi Fi r) (FL pa A) ei em h7 Rin ⟨RA.pr, RA.rl, by have := hEa.red.lenc; omega, fun i hi j hj => RA.en i hi _ (by rw [Cn hj]; exact hEa.red.lt j hj)⟩ (hRi.up lcur) hRm) (fun x8 h8 ms8 l8 hF => ?_)
    obtain ⟨rfl, v8, rfl, ec, mc, rfl, rfl, hOc⟩ := hF
    have oc : ec.oneCell' = true := (hOc.rd (h := h) (ms := [mc]) (List.Mem.head _)).rd.one
    refine Qa (An 4 23 (by kernel_rfl) rfl (by assumption) rfl (As rfl rfl) (An 5 28 (by kernel_rfl) rfl (by assumption) rfl (AC rfl rfl rfl) (An 6 29 (by kernel_rfl) rfl (by assumption) rfl (AC rfl rfl rfl) (Qo 8 rfl ?_))))
    refine Sa 1 [_, _, _, _] AI rfl (by simp [oc]) ?_
    refine Qa (Qo 9 rfl (Qm rfl (Qa (Qe ?_))))
    exact A9 (AA _ ⟨Fa, pa, ec, g8, mc, rfl, lcur, rfl, hEa, hOc⟩ Qs)
   exact A3
  refine Az rfl ?_ ?_
  ·refine BZ [.int .i64 0, .int .i64 0, .int .i64 0, .slice none 0 0] rfl AI rfl rfl (fun g8 => Qw (Qo 2 rfl (Qc call133 rfl (Li p r c A av _ RA hA) (fun x6 h6 ms6 l6 hF => ?_))))
   obtain ⟨l6', Fa, pa, hEa, em, mm, rfl, rfl, hOm⟩ := hF
   refine AH hOm fun h7 l7 hRm => ?_
   have lcur := Hp.le_trans l6 l7
   refine Qa (Qo 3 rfl ?_)
   refine Qc call98 rfl (Gq p r r pa.length (CB pi Fi r) (FL pa A) ei em h7 Rin ⟨RA.pr, RA.rl, by have := hEa.red.lenc; omega, fun i hi j hj => RA.en i hi _ (by rw [Cn hj]; exact hEa.red.lt j hj)⟩ (hRi.up lcur) hRm) (fun x8 h8 ms8 l8 hF => ?_)
   obtain ⟨rfl, v8, rfl, ec, mc, rfl, rfl, hOc⟩ := hF
   have oc : ec.oneCell' = true := (hOc.rd (h := h) (ms := [mc]) (List.Mem.head _)).rd.one
   refine Qa (An 4 23 (by kernel_rfl) rfl (by assumption) rfl (As rfl rfl) (An 5 28 (by kernel_rfl) rfl (by assumption) rfl (AC rfl rfl rfl) (An 6 29 (by kernel_rfl) rfl (by assumption) rfl (AC rfl rfl rfl) (Qo 8 rfl ?_))))
   refine Sa 1 [_, _, _, _] AI rfl (by simp [oc]) ?_
   refine Qa (Qo 9 rfl (Qm rfl (Qa (Qe ?_))))
   exact A9 (AA _ ⟨Fa, pa, ec, g8, mc, rfl, lcur, rfl, hEa, hOc⟩ Qs)
  exact A3
 ·obtain ⟨Fa, pa, ec, g8, mc, rfl, l6, rfl, hEa, hOc⟩ := hI
  have hql := hEa.red.lenc
  have hLead := fun T pt RT => TY (T := T) (pt := pt) hb.1 Fp hI hEi.red hEa.red RT
  have hrank : ∀ F pv, Ho p r c A F pv → pv.length = pa.length := fun F pv hE => Oq Fp hE.red hEa.red
  have RC : RtM p r pa.length (Fb p r (CB pi Fi r) (FL pa A)) := ⟨RA.pr, RA.rl, by omega, fun i hi j hj => ⟨Int.emod_nonneg _ (by omega), Int.emod_lt_of_pos _ (by omega)⟩⟩
  generalize Fb p r (CB pi Fi r) (FL pa A) = C at *
  generalize hq : pa.length = q at *
  have hqr : q * r ≤ 200 * 200 := Nat.mul_le_mul (by omega) hr
  refine Cu 1 rfl (Bg hOc fun h7 l7 hRc => (AL fun h8 l8 hG8 => ?_))
  have hRc := hRc.up l8
  have l58 := Hp.le_trans l6 (Hp.le_trans l7 l8)
  have hA := hA.up l58
  have hL := hL.up l58
  have hG2 := hG2.le l58
  have hG3 := hG3.le l58
  have l08 := Hp.le_trans l05 l58
  have oc := hRc.rd.one
  have hA2 := Seg.all hG2
  have hA3 := Seg.all hG3
  have hA8 := Seg.all hG8
  clear l6 l7 l8 l58 l05
  refine Ax (Qf Bh rfl (Ql rfl underlying3 (hA8 1 _ rfl _) (Qm rfl (Aq ?_))))
  refine Bv (fun s hh ms' => ∃ (g11 g41 : Nat), s = [(2, .pointer (some ⟨g2, 0, none⟩)), (3, .pointer (some ⟨g3, 0, none⟩)), (4, .slice none 0 0), (5, .slice none 0 0), (8, .pointer (some ⟨g8, 0, none⟩)), (10, .int .i64 r), (11, .pointer (some ⟨g11, 0, none⟩))] ∧ h8 = hh ∧ ms' = [AX g11 42 [.int .i64 p, .int .i64 q, .int .i64 r, .slice (some ⟨g41, 0, none⟩) (q * r : Nat) (q * r : Nat)], AX g41 3 (List.replicate (q * r) (.int .i64 0))]) ?_ (fun s h ms hI => ?_)
  ·have em : ((r : Int) * q) = ((q * r : Nat) : Int) := by rw [Nat.mul_comm]; simp
   refine AW (n := 13) (bs := [true, true, true, true, true, true, true, true, true, false, false, false, false]) [true, true, true, true, true, true, true, true, true] Cd (by kernel_rfl) (by kernel_rfl) rfl rfl (QF BE rfl (QL rfl underlying3 (hA2 0 _ rfl _) (QF A0 rfl (QL rfl underlying3 (hA8 2 _ rfl _) (Qq rfl (Qq rfl (QF A0 rfl (QL rfl underlying3 (hA8 2 _ rfl _) (Qp rfl (oM rfl) ?_)))))))))
   unfold CD
   simp only [List.cons_append, List.nil_append]
   refine A2 [9, 11] (by kernel_rfl) rfl ?_
   refine Az rfl ?_ ?_
   ·refine Eu (n := (q * r)) rfl underlying24 A8 rfl rfl rfl (by omega) (by omega) (by omega) (by omega) rfl rfl rfl (fun g41 => Qw ?_)
    refine An 10 42 (by kernel_rfl) rfl (Hp.le_refl _) rfl (AT Gh [.int .i64 0, .int .i64 0, .int .i64 0, .slice none 0 0] [(0, _), (1, _), (2, _), (3, _)] [_, _, _, _] rfl AI rfl rfl (by repeat (first | exact trivial | refine ⟨⟨rfl, rfl, rfl⟩, ?_⟩)) rfl) ?_
    refine Qo 11 rfl (BZ [.int .i64 0, .int .i64 0, .int .i64 0, .slice none 0 0] rfl AI rfl rfl (fun g11 => Qw (Qo 12 rfl ?_)))
    refine Sa 0 [_, _, _, _] AI rfl (by simp [Value.oneCell']) ?_
    refine Qw (Qe ?_)
    exact AA _ ⟨g11, g41, rfl, rfl, rfl⟩ Qs
   refine Az rfl ?_ ?_
   ·refine BZ [.int .i64 0, .int .i64 0, .int .i64 0, .slice none 0 0] rfl AI rfl rfl (fun g11 => Qw (Qo 9 rfl (Eu (n := (q * r)) rfl underlying24 A8 rfl rfl rfl (by omega) (by omega) (by omega) (by omega) rfl rfl rfl (fun g41 => Qw ?_))))
    refine An 10 42 (by kernel_rfl) rfl (Hp.le_refl _) rfl (AT Gh [.int .i64 0, .int .i64 0, .int .i64 0, .slice none 0 0] [(0, _), (1, _), (2, _), (3, _)] [_, _, _, _] rfl AI rfl rfl (by repeat (first | exact trivial | refine ⟨⟨rfl, rfl, rfl⟩, ?_⟩)) rfl) ?_
    refine Qo 12 rfl ?_
    refine Sa 1 [_, _, _, _] AI rfl (by simp [Value.oneCell']) ?_
    refine Qw (Qe ?_)
    exact A9 (AA _ ⟨g11, g41, rfl, rfl, rfl⟩ Qs)
   exact A3
  ·obtain ⟨g11, g41, rfl, rfl, rfl⟩ := hI
   have hO0 := OwnL.rep (g := g41) (el := 3) (q * r) 0 (by omega)
   rw [Kv] at hO0
   refine Bv (fun s hh ms' => ∃ (m : Hp), s = [(2, .pointer (some ⟨g2, 0, none⟩)), (3, .pointer (some ⟨g3, 0, none⟩)), (4, .slice none 0 0), (5, .slice none 0 0), (10, .int .i64 r), (11, .pointer (some ⟨g11, 0, none⟩))] ∧ h8 = hh ∧ ms' = [AX g11 42 [.int .i64 p, .int .i64 q, .int .i64 r, .slice (some ⟨g41, 0, none⟩) (q * r : Nat) (q * r : Nat)], m] ∧ OwnL cI 1 3 m (.slice (some ⟨g41, 0, none⟩) (q * r : Nat) (q * r : Nat)) (mat q r (SP r C))) ?_ (fun s h ms hI => ?_)
   ·refine Ac (Ad (Qf A0 rfl (Ql rfl underlying3 (hA8 2 _ rfl _) (Qm rfl (Aq (Ag ?_))))))
    refine AD (fun n s hh ms' => ∃ (k : Nat) (m : Hp), n = q - k ∧ s = [(2, .pointer (some ⟨g2, 0, none⟩)), (3, .pointer (some ⟨g3, 0, none⟩)), (4, .slice none 0 0), (5, .slice none 0 0), (8, .pointer (some ⟨g8, 0, none⟩)), (10, .int .i64 r), (11, .pointer (some ⟨g11, 0, none⟩)), (44, .int .i64 q), (45, .int .i64 k)] ∧ h8 = hh ∧ ms' = [AX g11 42 [.int .i64 p, .int .i64 q, .int .i64 r, .slice (some ⟨g41, 0, none⟩) (q * r : Nat) (q * r : Nat)], m] ∧ k ≤ q ∧ OwnL cI 1 3 m (.slice (some ⟨g41, 0, none⟩) (q * r : Nat) (q * r : Nat)) (mat q r (It r C k 0)))
     (q - 0) _ ⟨0, _, rfl, rfl, rfl, rfl, by omega, by rw [AO (fun a _ b _ => OJ r C a b)]; exact hO0⟩ Qs ?_
    rintro n s hh ms' ⟨k, m, rfl, rfl, rfl, rfl, hk, hO⟩
    refine Ax (Qm rfl (Aq (Ac ?_)))
    refine AF rfl (fun hlt => ?_) (fun hlt => ?_)
    ·have hkq : k < q := Bx hlt
     refine Ai (Ab (Ac (Ag (Ax (Qm rfl (Qm rfl (B3 (Qm rfl (Qm rfl (Aq (Ag ?_)))))))))))
     refine AD (fun n s hh ms' => ∃ (i : Nat) (m : Hp), n = r - i ∧ s = [(2, .pointer (some ⟨g2, 0, none⟩)), (3, .pointer (some ⟨g3, 0, none⟩)), (4, .slice none 0 0), (5, .slice none 0 0), (8, .pointer (some ⟨g8, 0, none⟩)), (10, .int .i64 r), (11, .pointer (some ⟨g11, 0, none⟩)), (12, .int .i64 k), (44, .int .i64 q), (45, .int .i64 k), (48, .int .i64 r), (49, .int .i64 i)] ∧ h8 = hh ∧ ms' = [AX g11 42 [.int .i64 p, .int .i64 q, .int .i64 r, .slice (some ⟨g41, 0, none⟩) (q * r : Nat) (q * r : Nat)], m] ∧ i ≤ r ∧ OwnL cI 1 3 m (.slice (some ⟨g41, 0, none⟩) (q * r : Nat) (q * r : Nat)) (mat q r (It r C k i)))
      (r - 0) _ ⟨0, m, rfl, rfl, rfl, rfl, by omega, hO⟩ Qs ?_
     rintro n s hh ms' ⟨i, m, rfl, rfl, rfl, rfl, hi, hO⟩
     refine Ax (Qm rfl (Aq (Ac ?_)))
     refine AF rfl (fun hlti => ?_) (fun hlti => ?_)
     ·have hir : i < r := Bx hlti
      have hrr : r - 1 - i < r := by omega
      have hix := Cp hkq hrr
      have hix2 := Cp hir hkq
      have hrq : r * q ≤ 200 * 200 := Nat.mul_le_mul hr (by omega)
      have el1 : (mat q r (It r C k i)).length = q * r := AY _ _ _
      have el2 : (mat r q C).length = r * q := AY _ _ _
      have elc : (EM p r q C).e.length = r * q := AY _ _ _
      have cC : ∀ ms, Cell h8 ms ((Bl ec).add ((i * q + k) * 1)) (.int .i64 (C i k)) := fun ms => (hRc.any (ms := ms)).ent hir hkq
      refine Ai (Ab (Ac (Ag (Ax (Qm rfl (Qm rfl (Aq (AW (n := 22) (bs := [true, false, true, true, true, true, true, true, true, true, true, true, true, true, true, true, true, true, true, true, false, false]) [true, false, true, true, true, true, true, true, true, true, true, true, true, true, true, true, true, true, true, true] Cd (by kernel_rfl) (by kernel_rfl) rfl rfl (QF Bc rfl (Qq rfl (Qq rfl (Qp rfl (oM rfl) (Qq rfl (Qp rfl (oA rfl) (Qp rfl (oS rfl) (Qq rfl (Qp rfl (oS rfl) (QF Bc rfl (QL rfl underlying24 (hA8 3 _ rfl _) (Qq rfl (QF A0 rfl (QL rfl underlying3 (hA8 2 _ rfl _) (Qp rfl (oM rfl) (Qq rfl (Qp rfl (oA rfl) (Qp rfl (Ah (i * q + k) hRc.rd.any rfl underlying24 A8 rfl rfl (by omega) (by omega)) (QL rfl underlying3 (cC _) ?_)))))))))))))))))))))))))))
      unfold CD
      simp only [List.cons_append, List.nil_append]
      refine Qo 1 rfl (Ql rfl underlying24 (Cell.blk 0 (k := 3) rfl rfl) (Qw (An 20 72 (by kernel_rfl) rfl (Hp.le_refl _) rfl (Dz (k * r + (r - 1 - i)) rfl underlying24 A8 rfl rfl (by omega) (by omega)) (Qo 21 rfl (Bu 1 (k * r + (r - 1 - i)) hO rfl A8 rfl rfl rfl (by omega) rfl rfl (fun m' hO' => Qw (Qe (Aj (Ab (Ad (Qx (oA rfl) rfl (Qm rfl (Ak ?_)))))))))))))
      refine Al (r - (i + 1)) _ (by omega) ⟨i + 1, m', rfl, rfl, rfl, rfl, by omega, ?_⟩ Qs
      rw [C4 _ hrr, AO (fun a _ b hb => On C hir hb)] at hO'
      exact hO'
     ·obtain rfl : i = r := by omega
      refine Aw (Aa (Aa (Af (Aj (Ab (Ad (Qx (oA rfl) rfl (Qm rfl (Ak ?_)))))))))
      refine Al (q - (k + 1)) _ (by omega) ⟨k + 1, m, rfl, rfl, rfl, rfl, by omega, ?_⟩ Qs
      rw [AO (fun a _ b hb => QH C hb)] at hO
      exact hO
    ·obtain rfl : k = q := by omega
     refine Aw (Aa (Aa (Af ?_)))
     rw [AO (fun a ha b _ => Rm C ha)] at hO
     exact AA _ ⟨m, rfl, rfl, rfl, hO⟩ Qs
   ·obtain ⟨m, rfl, rfl, rfl, hO⟩ := hI
    refine Cu 1 rfl (Bg hO fun h9 l9 hR9 => ?_)
    have o9 := hR9.rd.one
    have Rt : RtM p q r (SP r C) := ⟨RA.pr, by omega, by omega, fun a ha b hb => RC.en (r - 1 - b) (by omega) a ha⟩
    refine Ax (Qx (oG rfl underlying42 AI (Seg.blk 0 rfl)) rfl (Qc call120 rfl (Eh p q r (SP r C) _ h9 Rt hR9) (fun x10 h10 ms10 l10 hF => ?_)))
    obtain ⟨l10', T, pt, eu, vp, m, m2, rfl, rfl, hOT, hOp, hE⟩ := hF
    have ou : eu.oneCell' = true := (hOT.rd (h := h) (ms := [m]) (List.Mem.head _)).rd.one
    refine Qm rfl (Qm rfl (Qm rfl ?_))
    refine Sa 2 [_, _, _, _] AI rfl (by simp [ou]) ?_
    refine Aq (Bg hOT fun h11 l11 hRT => (HF 0 rfl (AL fun h12 l12 hG11 => ?_)))
    have hRT := hRT.up l12
    have l812 := Hp.le_trans l9 (Hp.le_trans l10 (Hp.le_trans l11 l12))
    have hA := hA.up l812
    have hL := hL.up l812
    have hG2 := hG2.le l812
    have hG3 := hG3.le l812
    have l012 := Hp.le_trans l08 l812
    obtain ⟨⟨top, htop⟩, hlift⟩ := hLead T pt hE.red
    have hTb : ∀ t, t < q → ∀ i, i < r → 0 ≤ T t (r - 1 - i) ∧ T t (r - 1 - i) < p := fun t ht i hi => hE.red.bd t ht _ (by omega)
    clear hO hOT hOp l9 l10 l10' l11 l12 l812 l08
    refine BX (BX ?_)
    have hA11 := Seg.all hG11
    refine Ac (Ax (Qf Bh rfl (Ql rfl underlying3 (hA11 1 _ rfl _) (Qm rfl (Aq (Ag ?_))))))
    refine AD (fun n s hh ms' => ∃ (t : Nat) (U : Nat → Nat → Int) (esc esl : List Value) (vc vl : Value) (mc ml : Hp), n = q - t ∧ s = [(2, .pointer (some ⟨g2, 0, none⟩)), (3, .pointer (some ⟨g3, 0, none⟩)), (4, vc), (5, vl), (10, .int .i64 r), (11, .pointer (some ⟨g11, 0, none⟩)), (81, .int .i64 q), (82, .int .i64 t)] ∧ h12.le hh ∧ ms' = [mc, ml] ∧ t ≤ q ∧ OwnL cV 1 24 mc vc esc ∧ OwnL cV 1 24 ml vl esl ∧ ImV hh r t esc (fun t i => T t (r - 1 - i)) ∧ ImV hh c t esl U ∧ (∀ t', t' < t → ∀ i, i < c → 0 ≤ U t' i ∧ U t' i < p) ∧ ∀ t', t' < t → ∀ i, i < r → Cg p (ap A c (U t') i) (ap L r (fun i => T t' (r - 1 - i)) i))
     (q - 0) _ ⟨0, fun _ _ => 0, [], [], _, _, _, _, rfl, rfl, Hp.le_refl _, rfl, by omega, OwnL.nil BK, OwnL.nil BK, ⟨rfl, fun t ht => by simp at ht⟩, ⟨rfl, fun t ht => by simp at ht⟩, fun t ht => by omega, fun t ht => by omega⟩ Qs ?_
    rintro n s hh ms' ⟨t, U, esc, esl, vc, vl, mc, ml, rfl, rfl, lh, rfl, ht, hVc, hOl, hIc, hIl, hUb, hUl⟩
    have hA := hA.up lh
    have hL := hL.up lh
    have hG2 := hG2.le lh
    have hG3 := hG3.le lh
    have hRT := hRT.up lh
    have hG11 := hG11.le lh
    have hA11 := Seg.all hG11
    refine Ax (Qm rfl (Aq (Ac ?_)))
    refine AF rfl (fun hlt => ?_) (fun hlt => ?_)
    ·have htq : t < q := Bx hlt
     have htr : (t + 1) * r ≤ q * r := Nat.mul_le_mul_right r (by omega)
     have htr2 : t * r ≤ (t + 1) * r := Nat.mul_le_mul_right r (by omega)
     have elT : (mat q r T).length = q * r := AY _ _ _
     have etr : ((t : Int) + 1) * r = ((t + 1 : Nat) : Int) * r := rfl
     have elv := AQ r (T t)
     refine Ai (Ab (Ac (Ag (Ax (Qm rfl (Qm rfl (B3 (Qf Bc rfl (Ql rfl underlying24 (hA11 3 _ rfl _) (Qm rfl (Qm rfl (Qx (oM rfl) rfl (Qm rfl (Qx (oA rfl) rfl (Qm rfl (Qx (oM rfl) rfl (Qx (C5 (t * r) ((t + 1) * r) hRT.rd.any rfl underlying24 A8 rfl rfl rfl (by omega) (by omega) (by omega) (by omega)) rfl (Qc call51 rfl (DS (vec r (T t)) _ hh (hRT.row htq) (by omega)) (fun x h13 ms13 l13 hF => ?_)))))))))))))))))))
     obtain ⟨rfl, mx, rfl, hOx⟩ := hF
     refine Qm rfl (B3 (Qm rfl (Bs (pre := [mx]) rfl call52 rfl (IY r (T t) x mx hh (by omega) hOx) rfl rfl rfl rfl (fun x2 h14 ms14 l14 hF => ?_))))
     obtain ⟨rfl, mx, rfl, hOx⟩ := hF
     refine Aq (Bg hOx fun h15 l15 hRx => ?_)
     have ox := hRx.rd.one
     have hA := hA.up l15
     have hL := hL.up l15
     have hG2 := hG2.le l15
     have hG3 := hG3.le l15
     have hA2 := Seg.all hG2
     have hXb := hTb t htq
     refine Bv (fun s hh ms' => ∃ (F : Nat → Nat → Int) (pv : List Nat) (g16 : Nat) (xe : Value) (mx : Hp), s = [(2, .pointer (some ⟨g2, 0, none⟩)), (3, .pointer (some ⟨g3, 0, none⟩)), (4, vc), (5, vl), (10, .int .i64 r), (11, .pointer (some ⟨g11, 0, none⟩)), (15, x), (16, .pointer (some ⟨g16, 0, none⟩)), (81, .int .i64 q), (82, .int .i64 t)] ∧ h15.le hh ∧ ms' = [AX g16 42 [.int .i64 p, .int .i64 c, .int .i64 1, xe], mx, mc, ml] ∧ OwnL cI 1 3 mx xe (mat c 1 (CB pv F c)) ∧ (∀ i, i < c → 0 ≤ CB pv F c i 0 ∧ CB pv F c i 0 < p) ∧ ∀ i, i < r → Cg p (ap A c (fun a => CB pv F c a 0) i) (ap L r (fun i => T t (r - 1 - i)) i)) ?_ (fun s h ms hI => ?_)
     ·have yr : RtM p r 1 (fun a _ => D2 p r L (fun i => T t (r - 1 - i)) a) := ⟨RA.pr, RA.rl, by omega, fun a ha b hb => ⟨Int.emod_nonneg _ (by omega), Int.emod_lt_of_pos _ (by omega)⟩⟩
      have hfin : ∀ F pv Mx b, Ho p r (c + 1) (jn c A fun a _ => D2 p r L (fun i => T t (r - 1 - i)) a) F pv → (((∀ j (hj : j < pv.length), pv[j] < c) ∧ b = true ∧ Mx = EM p c 1 (CB pv F c)) ∨ (¬ (∀ j (hj : j < pv.length), pv[j] < c) ∧ b = false)) → b = true ∧ Mx = EM p c 1 (CB pv F c) ∧ (∀ i, i < c → 0 ≤ CB pv F c i 0 ∧ CB pv F c i 0 < p) ∧ ∀ i, i < r → Cg p (ap A c (fun a => CB pv F c a 0) i) (ap L r (fun i => T t (r - 1 - i)) i) := fun F pv Mx b hE2 hcase => by
       rcases hcase with ⟨hyes, e1, e2⟩ | ⟨hno, e1⟩
       ·refine ⟨e1, e2, fun i hi => ?_, fun i hi => ?_⟩
        ·unfold CB H9
         split
         ·exact hE2.red.bd _ (by have := hE2.red.len; omega) _ (by omega)
         ·omega
        ·have h1 := HJ hE2.red hyes (s := 0) (by omega) hi
         refine h1.trans ?_
         exact Cg.mod _ _
       ·exfalso
        obtain ⟨y, hy⟩ := hlift t htq
        refine Lq hb.1 hE2.red hno y fun i hi => (hy i hi).trans ?_
        exact (Cg.mod _ _).symm
      refine AW (n := 17) (bs := [true, true, true, true, true, true, true, false, false, false, false, false, false, false, false, false, false]) [true, true, true, true, true, true, true] Cd (by kernel_rfl) (by kernel_rfl) rfl rfl (Qp rfl (oG rfl underlying42 AI (Seg.any hG2)) (QF BE rfl (QL rfl underlying3 (hA2 0 _ rfl _) (QF Bh rfl (QL rfl underlying3 (hA2 1 _ rfl _) (Qp rfl (oG rfl underlying42 AI (Seg.any hG3)) (Qq rfl ?_)))))))
      unfold CD
      simp only [List.cons_append, List.nil_append]
      refine A2 [7, 14] (by kernel_rfl) rfl ?_
      refine Az rfl ?_ ?_
      ·refine Qc call67 rfl (IG p r r L (fun i => T t (r - 1 - i)) lv x _ RL hXb (hL.up (Hp.le_refl _)) (hRx.up (Hp.le_refl _))) (fun y h16 ms16 l16 hF => ?_)
       obtain ⟨l16', my, rfl, hOy⟩ := hF
       refine AH hOy fun h17 l17 hRy => ?_
       have lcur := Hp.le_trans l16 l17
       refine Qa (A2 [8, 14] (by kernel_rfl) rfl ?_)
       refine Az rfl ?_ ?_
       ·refine AB [_] rfl underlying62 BN rfl (hRy.rd.cells) rfl rfl (by omega) rfl rfl rfl (fun g107 => BD fun h18 l18 hSg => ?_)
        have lcur := Hp.le_trans lcur l18
        refine Qa (A2 [9, 14] (by kernel_rfl) rfl ?_)
        refine Az rfl ?_ ?_
        ·refine Qc call97 rfl (Bi p r 1 (fun _ => D2 p r L (fun i => T t (r - 1 - i))) _ h18 RA.i64 RA.rl (by omega) (PG hSg (hRy.up l18))) (fun x9 h19 ms19 l19 hF => ?_)
         obtain ⟨rfl, ed, md, rfl, rfl, hOd⟩ := hF
         refine AH hOd fun h20 l20 hRd => ?_
         have lcur := Hp.le_trans lcur l20
         refine Qa (A2 [10, 14] (by kernel_rfl) rfl ?_)
         refine Az rfl ?_ ?_
         ·refine Qc call115 rfl (B7 p r c A (fun a _ => D2 p r L (fun i => T t (r - 1 - i)) a) av ed h20 RA yr (hA.up lcur) hRd) (fun x11 h21 ms21 l21 hF => ?_)
          obtain ⟨l21', F, pv, Mx, b, xe, mx, hE2, rfl, rfl, hOx2, hcase⟩ := hF
          obtain ⟨rfl, rfl, hub, hul⟩ := hfin F pv Mx b hE2 hcase
          have lcur := Hp.le_trans lcur l21
          have oxe : xe.oneCell' = true := (hOx2.rd (h := h) (ms := [mx]) (List.Mem.head _)).rd.one
          refine Qa (An 11 98 (by kernel_rfl) rfl (by assumption) rfl (As rfl rfl) (An 12 110 (by kernel_rfl) rfl (by assumption) rfl (AC rfl rfl rfl) (An 13 111 (by kernel_rfl) rfl (by assumption) rfl (AC rfl rfl rfl) (Qo 14 rfl (BZ [.int .i64 0, .int .i64 0, .int .i64 0, .slice none 0 0] rfl AI rfl rfl (fun g16 => Qa (Qo 15 rfl ?_)))))))
          refine Sa 0 [_, _, _, _] AI rfl (by simp [oxe]) ?_
          refine Qa (Qo 16 rfl (Qm rfl (Qa (Qe ?_))))
          exact AA _ ⟨F, pv, g16, xe, mx, rfl, lcur, rfl, hOx2, hub, hul⟩ Qs
         refine Az rfl ?_ ?_
         ·refine BZ [.int .i64 0, .int .i64 0, .int .i64 0, .slice none 0 0] rfl AI rfl rfl (fun g16 => Qa (Qo 10 rfl (Qc call115 rfl (B7 p r c A (fun a _ => D2 p r L (fun i => T t (r - 1 - i)) a) av ed h20 RA yr (hA.up lcur) hRd) (fun x11 h21 ms21 l21 hF => ?_))))
          obtain ⟨l21', F, pv, Mx, b, xe, mx, hE2, rfl, rfl, hOx2, hcase⟩ := hF
          obtain ⟨rfl, rfl, hub, hul⟩ := hfin F pv Mx b hE2 hcase
          have lcur := Hp.le_trans lcur l21
          have oxe : xe.oneCell' = true := (hOx2.rd (h := h) (ms := [mx]) (List.Mem.head _)).rd.one
          refine Qa (An 11 98 (by kernel_rfl) rfl (by assumption) rfl (As rfl rfl) (An 12 110 (by kernel_rfl) rfl (by assumption) rfl (AC rfl rfl rfl) (An 13 111 (by kernel_rfl) rfl (by assumption) rfl (AC rfl rfl rfl) (Qo 15 rfl ?_))))
          refine Sa 1 [_, _, _, _] AI rfl (by simp [oxe]) ?_
          refine Qa (Qo 16 rfl (Qm rfl (Qa (Qe ?_))))
          exact A9 (AA _ ⟨F, pv, g16, xe, mx, rfl, lcur, rfl, hOx2, hub, hul⟩ Qs)
         exact A3
        refine Az rfl ?_ ?_
        ·refine BZ [.int .i64 0, .int .i64 0, .int .i64 0, .slice none 0 0] rfl AI rfl rfl (fun g16 => Qa (Qo 9 rfl (Qc call97 rfl (Bi p r 1 (fun _ => D2 p r L (fun i => T t (r - 1 - i))) _ h18 RA.i64 RA.rl (by omega) (PG hSg (hRy.up l18))) (fun x9 h19 ms19 l19 hF => ?_))))
         obtain ⟨rfl, ed, md, rfl, rfl, hOd⟩ := hF
         refine AH hOd fun h20 l20 hRd => ?_
         have lcur := Hp.le_trans lcur l20
         refine Qa (Qo 10 rfl (Qc call115 rfl (B7 p r c A (fun a _ => D2 p r L (fun i => T t (r - 1 - i)) a) av ed h20 RA yr (hA.up lcur) hRd) (fun x11 h21 ms21 l21 hF => ?_)))
         obtain ⟨l21', F, pv, Mx, b, xe, mx, hE2, rfl, rfl, hOx2, hcase⟩ := hF
         obtain ⟨rfl, rfl, hub, hul⟩ := hfin F pv Mx b hE2 hcase
         have lcur := Hp.le_trans lcur l21
         have oxe : xe.oneCell' = true := (hOx2.rd (h := h) (ms := [mx]) (List.Mem.head _)).rd.one
         refine Qa (An 11 98 (by kernel_rfl) rfl (by assumption) rfl (As rfl rfl) (An 12 110 (by kernel_rfl) rfl (by assumption) rfl (AC rfl rfl rfl) (An 13 111 (by kernel_rfl) rfl (by assumption) rfl (AC rfl rfl rfl) (Qo 15 rfl ?_))))
         refine Sa 1 [_, _, _, _] AI rfl (by simp [oxe]) ?_
         refine Qa (Qo 16 rfl (Qm rfl (Qa (Qe ?_))))
         exact A9 (AA _ ⟨F, pv, g16, xe, mx, rfl, lcur, rfl, hOx2, hub, hul⟩ Qs)
        exact A3
       refine Az rfl ?_ ?_
       ·refine BZ [.int .i64 0, .int .i64 0, .int .i64 0, .slice none 0 0] rfl AI rfl rfl (fun g16 => Qa (Qo 8 rfl (AB [_] rfl underlying62 BN rfl (hRy.rd.cells) rfl rfl (by omega) rfl rfl rfl (fun g107 => BD fun h18 l18 hSg => ?_))))
        have lcur := Hp.le_trans lcur l18
        refine Qa (Qo 9 rfl (Qc call97 rfl (Bi p r 1 (fun _ => D2 p r L (fun i => T t (r - 1 - i))) _ h18 RA.i64 RA.rl (by omega) (PG hSg (hRy.up l18))) (fun x9 h19 ms19 l19 hF => ?_)))
        obtain ⟨rfl, ed, md, rfl, rfl, hOd⟩ := hF
        refine AH hOd fun h20 l20 hRd => ?_
        have lcur := Hp.le_trans lcur l20
        refine Qa (Qo 10 rfl (Qc call115 rfl (B7 p r c A (fun a _ => D2 p r L (fun i => T t (r - 1 - i)) a) av ed h20 RA yr (hA.up lcur) hRd) (fun x11 h21 ms21 l21 hF => ?_)))
        obtain ⟨l21', F, pv, Mx, b, xe, mx, hE2, rfl, rfl, hOx2, hcase⟩ := hF
        obtain ⟨rfl, rfl, hub, hul⟩ := hfin F pv Mx b hE2 hcase
        have lcur := Hp.le_trans lcur l21
        have oxe : xe.oneCell' = true := (hOx2.rd (h := h) (ms := [mx]) (List.Mem.head _)).rd.one
        refine Qa (An 11 98 (by kernel_rfl) rfl (by assumption) rfl (As rfl rfl) (An 12 110 (by kernel_rfl) rfl (by assumption) rfl (AC rfl rfl rfl) (An 13 111 (by kernel_rfl) rfl (by assumption) rfl (AC rfl rfl rfl) (Qo 15 rfl ?_))))
        refine Sa 1 [_, _, _, _] AI rfl (by simp [oxe]) ?_
        refine Qa (Qo 16 rfl (Qm rfl (Qa (Qe ?_))))
        exact A9 (AA _ ⟨F, pv, g16, xe, mx, rfl, lcur, rfl, hOx2, hub, hul⟩ Qs)
       exact A3
      refine Az rfl ?_ ?_
      ·refine BZ [.int .i64 0, .int .i64 0, .int .i64 0, .slice none 0 0] rfl AI rfl rfl (fun g16 => Qw (Qo 7 rfl (Qc call67 rfl (IG p r r L (fun i => T t (r - 1 - i)) lv x _ RL hXb (hL.up (Hp.le_refl _)) (hRx.up (Hp.le_refl _))) (fun y h16 ms16 l16 hF => ?_))))
       obtain ⟨l16', my, rfl, hOy⟩ := hF
       refine AH hOy fun h17 l17 hRy => ?_
       have lcur := Hp.le_trans l16 l17
       refine Qa (Qo 8 rfl (AB [_] rfl underlying62 BN rfl (hRy.rd.cells) rfl rfl (by omega) rfl rfl rfl (fun g107 => BD fun h18 l18 hSg => ?_)))
       have lcur := Hp.le_trans lcur l18
       refine Qa (Qo 9 rfl (Qc call97 rfl (Bi p r 1 (fun _ => D2 p r L (fun i => T t (r - 1 - i))) _ h18 RA.i64 RA.rl (by omega) (PG hSg (hRy.up l18))) (fun x9 h19 ms19 l19 hF => ?_)))
       obtain ⟨rfl, ed, md, rfl, rfl, hOd⟩ := hF
       refine AH hOd fun h20 l20 hRd => ?_
       have lcur := Hp.le_trans lcur l20
       refine Qa (Qo 10 rfl (Qc call115 rfl (B7 p r c A (fun a _ => D2 p r L (fun i => T t (r - 1 - i)) a) av ed h20 RA yr (hA.up lcur) hRd) (fun x11 h21 ms21 l21 hF => ?_)))
       obtain ⟨l21', F, pv, Mx, b, xe, mx, hE2, rfl, rfl, hOx2, hcase⟩ := hF
       obtain ⟨rfl, rfl, hub, hul⟩ := hfin F pv Mx b hE2 hcase
       have lcur := Hp.le_trans lcur l21
       have oxe : xe.oneCell' = true := (hOx2.rd (h := h) (ms := [mx]) (List.Mem.head _)).rd.one
       refine Qa (An 11 98 (by kernel_rfl) rfl (by assumption) rfl (As rfl rfl) (An 12 110 (by kernel_rfl) rfl (by assumption) rfl (AC rfl rfl rfl) (An 13 111 (by kernel_rfl) rfl (by assumption) rfl (AC rfl rfl rfl) (Qo 15 rfl ?_))))
       refine Sa 1 [_, _, _, _] AI rfl (by simp [oxe]) ?_
       refine Qa (Qo 16 rfl (Qm rfl (Qa (Qe ?_))))
       exact A9 (AA _ ⟨F, pv, g16, xe, mx, rfl, lcur, rfl, hOx2, hub, hul⟩ Qs)
      exact A3
     ·obtain ⟨F, pv, g16, xe, mx, rfl, l16, rfl, hOx2, hub, hul⟩ := hI
      refine Cu 1 rfl (Bg hOx2 fun h17 l17 hRx2 => (AL fun h18 l18 hG16 => ?_))
      have hRx2 : RdL cI 1 h18 [] xe (mat c 1 (CB pv F c)) := hRx2.up l18
      have l1518 := Hp.le_trans l16 (Hp.le_trans l17 l18)
      have hRx := hRx.up l1518
      have hA16 := Seg.all hG16
      have lhc : esc.length ≤ 200 := by rw [hIc.1]; omega
      have lhl : esl.length ≤ 200 := by rw [hIl.1]; omega
      refine AW (n := 11) (bs := [true, true, false, false, true, true, false, false, false, false, false]) [true, true, false, false, true, true] Cd (by kernel_rfl) (by kernel_rfl) rfl rfl (Qq rfl (Qq rfl (Qq rfl (Qp rfl (oG rfl underlying42 AI (Seg.any hG16)) ?_))))
      unfold CD
      simp only [List.cons_append, List.nil_append]
      refine Qo 2 rfl (AB [_] rfl underlying62 BN rfl ((hRx.rd).cells) rfl rfl (by omega) rfl rfl rfl (fun g114 => Qw (Qo 3 rfl ?_)))
      refine Ba 1 hVc (RdL.one BK (List.Mem.head _) rfl) rfl underlying62 BN rfl (by omega) rfl rfl rfl (Cj ox) (by simp only [List.length_singleton]; omega) (by simp only [List.length_singleton]; omega) rfl rfl rfl (fun vc2 mc2 hOc2 => ?_)
      refine Qw (Qo 6 rfl (Qc call89 rfl (Eb p c 1 (CB pv F c) xe 0 h18 RA.cl (by omega) (by omega) hRx2) (fun y6 h19 ms19 l19 hF => ?_)))
      obtain ⟨rfl, my, rfl, hOy⟩ := hF
      refine AH hOy fun h20 l20 hRy => ?_
      have oy := hRy.rd.one
      refine Qa (Qo 7 rfl (AB [_] rfl underlying62 BN rfl (hRy.rd.cells) rfl rfl (by omega) rfl rfl rfl (fun g119 => Qa (Qo 8 rfl ?_))))
      refine Ba 3 hOl (RdL.one BK (List.Mem.head _) rfl) rfl underlying62 BN rfl (by omega) rfl rfl rfl (Cj oy) (by simp only [List.length_singleton]; omega) (by simp only [List.length_singleton]; omega) rfl rfl rfl (fun vl2 ml2 hOl2 => ?_)
      refine Qa (Qo 9 rfl (Qm rfl (Qa (Qo 10 rfl (Qm rfl (Qa (Qe (Aj (Ab (Ad (Qx (oA rfl) rfl (Qm rfl (Ak (AP 0 rfl (AP 0 rfl ?_)))))))))))))))
      refine Al (q - (t + 1)) _ (by omega) ⟨t + 1, Fq t U (fun i => CB pv F c i 0), esc ++ [x], esl ++ [y6], vc2, vl2, mc2, ml2, rfl, rfl, Hp.le_trans lh (Hp.le_trans l15 (Hp.le_trans l1518 l20)), rfl, by omega, hOc2, hOl2, ?_, ?_, fun t' ht' i hi => ?_, fun t' ht' i hi => ?_⟩ Qs
      ·have h1 := (hIc.up (Hp.le_trans l15 (Hp.le_trans l1518 l20))).snoc (hRx.up l20)
       rwa [IT t fun t i => T t (r - 1 - i)] at h1
      ·exact (hIl.up (Hp.le_trans l15 (Hp.le_trans l1518 l20))).snoc hRy
      ·unfold Fq
       by_cases h1 : t' = t
       ·rw [if_pos h1]; exact hub i hi
       ·rw [if_neg h1]; exact hUb t' (by omega) i hi
      ·unfold Fq
       by_cases h1 : t' = t
       ·rw [if_pos h1, h1]; exact hul i hi
       ·rw [if_neg h1]; exact hUl t' (by omega) i hi
    ·obtain rfl : t = q := by omega
     refine Aw (Aa (Aa (Af (Ab (Ax (Qm rfl (Qm rfl (Qm rfl (Qm rfl (Aq (Ao (CW hVc fun h13 l13 hRc => (CW hOl fun h14 l14 hRl => ?_)))))))))))))
     exact FX rfl rfl rfl (⟨Hp.le_trans l012 (Hp.le_trans lh (Hp.le_trans l13 l14)), t, fun t i => T t (r - 1 - i), U, vc, vl, rfl, ⟨fun F pv hE2 => hrank F pv hE2, hTb, hUb, ⟨top, htop⟩, hUl⟩, (hIc.up (Hp.le_trans l13 l14)).rd (hRc.up l14), (hIl.up (Hp.le_trans l13 l14)).rd hRl, rfl⟩)
end Go.Proofs.YtdnelknieikbaaaGreat
namespace Go.Proofs.YtdnelknieikbaaaGreat
open Go.Eng Go.RowKit Go.Lin
variable {k m i t N : Nat} {S S0 : Nat → SM} {Z : Zg}
section
variable (al : List Nat) (q : Nat) (top : Nat → Nat) (U : Nat → Nat → Int)
def EL (m : Nat) (l : Nat) : Bool := (List.range q).any fun t => decide (m ≤ top t ∧ al.getD (top t) 0 = l)
def DH (l : Nat) : Nat → Int := U (((List.range q).find? fun t => decide (al.getD (top t) 0 = l)).getD 0)
def Cx (k m : Nat) (S : Nat → SM) (l : Nat) : SM := if EL al q top m l then { S l with to := k + 1, v := fun j => if j = k + 1 then DH al q top U l else (S l).v j } else S l
end
section
variable {al : List Nat} {q : Nat} {top : Nat → Nat} {U : Nat → Nat → Int}
theorem stB_iff {l : Nat} : EL al q top m l = true ↔ ∃ t, t < q ∧ m ≤ top t ∧ al.getD (top t) 0 = l := by
 unfold EL
 rw [List.any_eq_true]
 constructor
 ·rintro ⟨t, h1, h2⟩
  exact ⟨t, List.mem_range.1 h1, of_decide_eq_true h2⟩
 ·rintro ⟨t, h1, h2⟩
  exact ⟨t, List.mem_range.2 h1, decide_eq_true h2⟩
theorem Ef {l : List Nat} (hn : l.Nodup) {j : Nat} (hi : i < l.length) (hj : j < l.length) (h : l.getD i 0 = l.getD j 0) : i = j := by
 have e1 : l.getD i 0 = l[i] := by simp [List.getD, hi]
 have e2 : l.getD j 0 = l[j] := by simp [List.getD, hj]
 rw [e1, e2] at h
 exact Ls hn (a := l[i]) (List.getElem?_eq_getElem hi) (by rw [h]; exact List.getElem?_eq_getElem hj)
theorem NN (hn : al.Nodup) (ht : ∀ t, t < q → top t < al.length) (hi : ∀ t t', t < q → t' < q → top t = top t' → t = t') (h : t < q) : DH al q top U (al.getD (top t) 0) = U t := by
 unfold DH
 congr 1
 cases hf : (List.range q).find? fun t' => decide (al.getD (top t') 0 = al.getD (top t) 0) with
 | none =>
  have := List.find?_eq_none.1 hf t (List.mem_range.2 h)
  simp at this
 | some t' =>
  have h1 := List.find?_some hf
  have h2 := List.mem_range.1 (List.mem_of_find?_eq_some hf)
  have h3 := of_decide_eq_true h1
  exact hi t' t h2 h (Ef hn (ht t' h2) (ht t h) h3)
theorem DJ {l : Nat} (h : EL al q top m l = false) : Cx al q top U k m S l = S l := by unfold Cx; rw [h]; rfl
theorem TN (l : Nat) : (Cx al q top U k m S l).g = (S l).g ∧ (Cx al q top U k m S l).fr = (S l).fr := by
 unfold Cx; split <;> exact ⟨rfl, rfl⟩
theorem F8 (hn : al.Nodup) (ht : ∀ t, t < q → top t < al.length) (hi : i < m) (hl : i < al.length) : EL al q top m (al.getD i 0) = false := by
 cases h : EL al q top m (al.getD i 0) with
 | false => rfl
 | true =>
  obtain ⟨t, h1, h2, h3⟩ := stB_iff.1 h
  have := Ef hn (ht t h1) hl h3
  omega
theorem Mu {s : Nat} {p n : Int} (hs : EL al q top m s = false) (ht : EL al q top m t = false) : adds p n s t (Cx al q top U k m S) = Cx al q top U k m (adds p n s t S) := funext fun l => by
 have e1 := DJ (U := U) (k := k) (S := S) hs
 have e2 := DJ (U := U) (k := k) (S := S) ht
 by_cases h : l = s
 ·subst h
  rw [DJ hs]
  unfold adds
  rw [if_pos rfl, if_pos rfl, e1, e2]
 ·have e3 : adds p n s t S l = S l := if_neg h
  have e4 : adds p n s t (Cx al q top U k m S) l = Cx al q top U k m S l := if_neg h
  rw [e4]
  unfold Cx
  rw [e3]
theorem PD (hn : al.Nodup) (ht : ∀ t, t < q → top t < al.length) (hj : ∀ t t', t < q → t' < q → top t = top t' → t = t') (h : t < q) (hi : top t = i) (hk : (S (al.getD i 0)).to = k) : HS (al.getD i 0) (U t) (Cx al q top U k (i + 1) S) = Cx al q top U k i S := funext fun l => by
 have hil : i < al.length := hi ▸ ht t h
 have hlow : EL al q top (i + 1) (al.getD i 0) = false := F8 hn ht (by omega) hil
 by_cases hl : l = al.getD i 0
 ·subst hl
  unfold HS
  rw [if_pos rfl, DJ hlow, hk]
  unfold Cx
  rw [if_pos (stB_iff.2 ⟨t, h, by omega, by rw [hi]⟩)]
  have := NN (U := U) hn ht hj h
  rw [hi] at this
  rw [this]
 ·unfold HS
  rw [if_neg hl]
  unfold Cx
  have e : EL al q top (i + 1) l = EL al q top i l := by
   rw [Bool.eq_iff_iff, stB_iff, stB_iff]
   constructor
   ·rintro ⟨t, h1, h2, h3⟩; exact ⟨t, h1, by omega, h3⟩
   ·rintro ⟨t', h1, h2, h3⟩
    refine ⟨t', h1, ?_, h3⟩
    rcases (by omega : i + 1 ≤ top t' ∨ top t' = i) with h4 | h4
    ·exact h4
    ·exact absurd (by rw [← h3, h4]) hl
  rw [e]
theorem Mo (hno : ∀ t, t < q → top t ≠ i) : Cx al q top U k (i + 1) S = Cx al q top U k i S := funext fun l => by
 unfold Cx
 have e : EL al q top (i + 1) l = EL al q top i l := by
  rw [Bool.eq_iff_iff, stB_iff, stB_iff]
  constructor
  ·rintro ⟨t, h1, h2, h3⟩; exact ⟨t, h1, by omega, h3⟩
  ·rintro ⟨t', h1, h2, h3⟩
   have := hno t' h1
   exact ⟨t', h1, by omega, h3⟩
 rw [e]
theorem K3 (ht : ∀ t, t < q → top t < al.length) (hm : al.length ≤ m) : Cx al q top U k m S = S := funext fun l => DJ (by
 cases h : EL al q top m l with
 | false => rfl
 | true =>
  obtain ⟨t, h1, h2, h3⟩ := stB_iff.1 h
  have := ht t h1
  omega)
end
structure Bw (Z : Zg) (k N : Nat) (S0 S : Nat → SM) (al : List Nat) (q : Nat) (top : Nat → Nat) (U : Nat → Nat → Int) (m : Nat) : Prop where
 val : Valid (Z.tr k) (Dr N S)
 same : ∀ l, (S l).g = (S0 l).g ∧ (S l).fr = (S0 l).fr ∧ (S l).to = (S0 l).to
 bd : ∀ l, l < N → (S l).Bd Z.p Z.d
 low : ∀ i, i < m → i < al.length → S (al.getD i 0) = S0 (al.getD i 0)
 img : ∀ t, t < q → m ≤ top t → ∀ a, a < Z.d k → Cg Z.p (ap (Z.mat k) (Z.d (k + 1)) (U t) a) ((S (al.getD (top t) 0)).v k a)
theorem Bw.start {al en : List Nat} (M : Mch Z k N S al en) {q : Nat} {top : Nat → Nat} {U : Nat → Nat → Int} (ht : ∀ t, t < q → top t < al.length) : Bw Z k N S S al q top U al.length :=
 ⟨M.val, fun _ => ⟨rfl, rfl, rfl⟩, M.bd, fun _ _ _ => rfl, fun t h1 h2 => by have := ht t h1; omega⟩
theorem Bw.skip {al : List Nat} {q : Nat} {top : Nat → Nat} {U : Nat → Nat → Int} (W : Bw Z k N S0 S al q top U (i + 1)) (hno : ∀ t, t < q → top t ≠ i) : Bw Z k N S0 S al q top U i :=
 ⟨W.val, W.same, W.bd, fun j hj => W.low j (by omega), fun t h1 h2 => W.img t h1 (by have := hno t h1; omega)⟩
theorem Bw.step {S' : Nat → SM} {al : List Nat} {q : Nat} {top : Nat → Nat} {X U : Nat → Nat → Int} (W : Bw Z k N S0 S al q top U (i + 1)) (hn : al.Nodup) (hil : i < al.length) (h : t < q) (hti : top t = i) (htl : ∀ t, t < q → top t < al.length) (hj : ∀ t t', t < q → t' < q → top t = top t' → t = t')
  (hX1 : X t i = 1) (hX0 : ∀ j, i < j → j < al.length → X t j = 0) (I : FwI Z k N S S' al (al.getD i 0) (fun j => Z.p - X t j) i)
  (hU : ∀ a, a < Z.d k → Cg Z.p (ap (Z.mat k) (Z.d (k + 1)) (U t) a) (ap (fun a j => (S0 (al.getD j 0)).v k a) al.length (X t) a)) : Bw Z k N S0 S' al q top U i := by
 have hne : ∀ j, j < al.length → j ≠ i → al.getD j 0 ≠ al.getD i 0 := fun j h1 h2 h3 => h2 (Ef hn h1 hil h3)
 refine ⟨I.val, fun l => ?_, I.bd, fun j hji hjl => ?_, fun t' h1 h2 a ha => ?_⟩
 ·have h1 := I.same l
  have h2 := W.same l
  exact ⟨h1.1.trans h2.1, h1.2.1.trans h2.2.1, h1.2.2.trans h2.2.2⟩
 ·rw [I.other _ (hne j hjl (by omega))]; exact W.low j (by omega) hjl
 ·by_cases h3 : top t' = i
  ·have : t' = t := hj t' t h1 h (by omega)
   subst this
   rw [h3]
   refine (hU a ha).trans (Cg.trans ?_ (I.sum a ha).symm)
   rw [W.low i (by omega) hil]
   refine Cg.of_eq ?_
   obtain ⟨d, hd⟩ : ∃ d, al.length = i + 1 + d := ⟨al.length - (i + 1), by omega⟩
   unfold ap
   rw [hd, El (i + 1) d]
   have e1 : (sm d fun j => (S0 (al.getD (i + 1 + j) 0)).v k a * X t' (i + 1 + j)) = 0 := CL fun j hjd => by rw [hX0 (i + 1 + j) (by omega) (by omega), Int.mul_zero]
   rw [e1, Int.add_zero]
   show (sm i fun j => (S0 (al.getD j 0)).v k a * X t' j) + (S0 (al.getD i 0)).v k a * X t' i = _
   rw [hX1, Int.mul_one, Int.add_comm]
   congr 1
   exact AE fun j hji => by
    rw [W.low j (by omega) (by omega), Int.mul_comm]
    congr 1
    omega
  ·rw [I.other _ (hne (top t') (htl t' h1) h3)]
   exact W.img t' h1 (by omega) a ha
theorem T5 {p : Int} (hp : 2 ≤ p) {r c : Nat} {f F : Nat → Nat → Int} {pv : List Nat} (R : Red p r c f F pv c) {n : Nat} (hn : n + pv.length = c) : (Ind p n tt c fun s a => Fy pv p F c a s) ∧ (∀ s, s < n → ∀ i, i < r → Cg p (ap f c (fun a => Fy pv p F c a s) i) 0) ∧ ∀ s, s < n → ∀ a, a < c → 0 ≤ Fy pv p F c a s ∧ Fy pv p F c a s < p := by
 have hfl : (Er pv c).length = n := by
  have := Oc R.sorted R.mem_lt
  omega
 have hmem : ∀ s, s < n → (Er pv c).getD s 0 < c ∧ (Er pv c).getD s 0 ∉ pv := fun s hs => by
  have : (Er pv c).getD s 0 ∈ Er pv c := by simp [List.getD, show s < (Er pv c).length by omega]
  exact frl_mem.1 this
 refine ⟨fun x hx s hs _ => ?_, fun s hs i hi => ?_, fun s hs a ha => ?_⟩
 ·have h1 := hx ((Er pv c).getD s 0) (hmem s hs).1
  rw [Cs, DZ n s _ hs fun t ht hne => ?_] at h1
  ·unfold Fy L5 at h1
   rw [if_pos rfl, Int.mul_one] at h1
   unfold Cg at h1; rwa [Int.sub_zero] at h1
  ·unfold Fy L5
   rw [if_neg, if_neg, Int.mul_zero]
   ·exact fun h => (hmem s hs).2 (List.idxOf_lt_length_iff.1 h)
   ·intro h
    exact hne (Ef (OG pv c) (by omega) (by omega) h.symm)
 ·obtain ⟨hjc, hjp⟩ := hmem s hs
  refine (R.ker fun a => Fy pv p F c a s).1 (fun i hi => ?_) i hi
  have e : ∀ a, Fy pv p F c a s = (if a = (Er pv c).getD s 0 then 1 else 0) + Gg pv (fun k => (p - F k ((Er pv c).getD s 0)) % p) a := fun a => by
   unfold Fy L5 Gg
   by_cases h1 : a = (Er pv c).getD s 0
   ·rw [if_pos h1, if_pos h1, if_neg, Int.add_zero]
    rw [h1]; exact fun h => hjp (List.idxOf_lt_length_iff.1 h)
   ·rw [if_neg h1, if_neg h1, Int.zero_add]
  have e2 : ap F c (fun a => Fy pv p F c a s) i = F i ((Er pv c).getD s 0) + if i < pv.length then (p - F i ((Er pv c).getD s 0)) % p else 0 := by
   rw [show (fun a => Fy pv p F c a s) = fun a => (if a = (Er pv c).getD s 0 then 1 else 0) + Gg pv (fun k => (p - F k ((Er pv c).getD s 0)) % p) a from funext e, Md, Kr F c hjc, Hx R _ hi]
  rw [e2]
  split
  ·have h1 : Cg p (F i ((Er pv c).getD s 0) + (p - F i ((Er pv c).getD s 0)) % p) (F i ((Er pv c).getD s 0) + (p - F i ((Er pv c).getD s 0))) := (Cg.refl _ _).add (Cg.mod _ _)
   refine h1.trans ?_
   rw [show F i ((Er pv c).getD s 0) + (p - F i ((Er pv c).getD s 0)) = p by omega]
   exact Cg.self p
  ·rename_i hl
   rw [R.low i hi (by omega) _ hjc]; exact Cg.refl _ _
 ·unfold Fy L5
  split
  ·omega
  ·split
   ·exact ⟨Int.emod_nonneg _ (by omega), Int.emod_lt_of_pos _ (by omega)⟩
   ·omega
theorem Bw.done (Fp : Lin.Fld Z.p) (hp : 2 ≤ Z.p) {nb q : Nat} {al en : List Nat} {top : Nat → Nat} {U K : Nat → Nat → Int} {gb : Nat → Nat} (M : Mch Z k N S0 al en) (W : Bw Z k N S0 S al q top U 0) (hbk : Z.back k = true) (htl : ∀ t, t < q → top t < al.length) (hj : ∀ t t', t < q → t' < q → top t = top t' → t = t')
  (hK : (Ind Z.p nb tt (Z.d (k + 1)) K) ∧ (∀ s, s < nb → ∀ i, i < Z.d k → Cg Z.p (ap (Z.mat k) (Z.d (k + 1)) (K s) i) 0) ∧ ∀ s, s < nb → ∀ a, a < Z.d (k + 1) → 0 ≤ K s a ∧ K s a < Z.p) (hc : nb + q = Z.d (k + 1)) (hUb : ∀ t, t < q → ∀ i, i < Z.d (k + 1) → 0 ≤ U t i ∧ U t i < Z.p) :
  Mch Z (k + 1) (N + nb) (BY N k gb K (Cx al q top U k 0 S)) (List.range' N nb ++ al.filter (EL al q top 0)) (en ++ al.filter fun l => !EL al q top 0 l) := by
 have hnd := M.nodup
 have hst : (al.filter (EL al q top 0)).Nodup := hnd.sublist List.filter_sublist
 have hmem : ∀ l, l ∈ al.filter (EL al q top 0) ↔ ∃ t, t < q ∧ al.getD (top t) 0 = l := fun l => by
  rw [List.mem_filter]
  constructor
  ·rintro ⟨_, h⟩
   obtain ⟨t, h1, _, h3⟩ := stB_iff.1 h
   exact ⟨t, h1, h3⟩
  ·rintro ⟨t, h1, h3⟩
   exact ⟨by rw [← h3]; exact BF (htl t h1), stB_iff.2 ⟨t, h1, by omega, h3⟩⟩
 have hlen : (al.filter (EL al q top 0)).length = q := by
  have hp2 : (al.filter (EL al q top 0)).Perm ((List.range q).map fun t => al.getD (top t) 0) := by
   refine (List.perm_ext_iff_of_nodup hst ?_).2 fun l => ?_
   ·rw [List.nodup_iff_pairwise_ne, List.pairwise_map]
    refine List.Pairwise.imp_of_mem (R := (· < ·)) (fun {a b} ha hb hab h => ?_) List.pairwise_lt_range
    have h1 := hj a b (List.mem_range.1 ha) (List.mem_range.1 hb) (Ef hnd (htl a (List.mem_range.1 ha)) (htl b (List.mem_range.1 hb)) h)
    omega
   ·rw [hmem, List.mem_map]
    constructor
    ·rintro ⟨t, h1, h2⟩; exact ⟨t, List.mem_range.2 h1, h2⟩
    ·rintro ⟨t, h1, h2⟩; exact ⟨t, List.mem_range.1 h1, h2⟩
  have := hp2.length_eq
  simpa using this
 obtain ⟨st, hste⟩ : ∃ st, st = al.filter (EL al q top 0) := ⟨_, rfl⟩
 rw [← hste] at hst hmem hlen ⊢
 have hsub : st.Sublist al := by rw [hste]; exact List.filter_sublist
 have hgr : Cx al q top U k 0 S = BS k (fun t => DH al q top U (st.getD t 0)) st st.length S := funext fun l => by
  unfold Cx BS
  rw [List.take_length]
  by_cases h : l ∈ st
  ·have h1 : EL al q top 0 l = true := by rw [hste] at h; exact (List.mem_filter.1 h).2
   rw [if_pos h1, if_pos h]
   have h2 : st.getD (st.idxOf l) 0 = l := by
    simp [List.getD, List.idxOf_lt_length_iff.2 h]
   simp only [h2]
  ·have h1 : ¬ EL al q top 0 l = true := fun h2 => h ((hmem l).2 (by
    obtain ⟨t, h3, _, h4⟩ := stB_iff.1 h2
    exact ⟨t, h3, h4⟩))
   rw [if_neg h1, if_neg h]
 have hwt : ∀ l, l ∈ st → (fun t => DH al q top U (st.getD t 0)) (st.idxOf l) = DH al q top U l := fun l h => by
  have h2 : st.getD (st.idxOf l) 0 = l := by simp [List.getD, List.idxOf_lt_length_iff.2 h]
  show DH al q top U (st.getD (st.idxOf l) 0) = _
  rw [h2]
 have hUof : ∀ l ∈ st, ∃ t, t < q ∧ al.getD (top t) 0 = l ∧ DH al q top U l = U t := fun l h => by
  obtain ⟨t, h1, h2⟩ := (hmem l).1 h
  exact ⟨t, h1, h2, by rw [← h2]; exact NN hnd htl hj h1⟩
 have hstN : ∀ l ∈ st, l < N ∧ (S l).to = k := fun l h => ⟨M.lt (hsub.subset h), by rw [(W.same l).2.2]; exact M.live l (hsub.subset h)⟩
 rw [hgr]
 have hallen : (List.range' N nb ++ st).length = nb + q := by rw [List.length_append, List.length_range', hlen]
 refine K4 (st := st) (de := al.filter fun l => !EL al q top 0 l) (w := fun t => DH al q top U (st.getD t 0)) (u := K) M W.val W.same W.bd hsub ?_ _ List.perm_append_comm ?_ (hallen.trans hc) (fun h => by rw [hbk] at h; cases h) (fun _ => ⟨fun l hl i hi => ?_, hK.2.1⟩) (fun t ht i hi => ?_) hK.2.2 ?_
 ·rw [hste]; exact List.filter_append_perm _ al
 ·-- independent
  rw [hallen]
  intro x hx
  have hbg : ∀ b, b < nb → (List.range' N nb ++ st).getD b 0 = N + b := fun b hb => by
   simp [List.getD, List.getElem?_append_left (show b < (List.range' N nb).length by simpa using hb), hb]
  have hsg : ∀ t, (List.range' N nb ++ st).getD (nb + t) 0 = st.getD t 0 := fun t => by
   simp [List.getD, List.getElem?_append_right (show (List.range' N nb).length ≤ nb + t by simp)]
  have hsum : ∀ a, Bj (nb + q) tt x (fun t => Gu N st (fun t => DH al q top U (st.getD t 0)) K ((List.range' N nb ++ st).getD t 0)) a = Bj nb tt x K a + sm q fun t => x (nb + t) * DH al q top U (st.getD t 0) a := fun a => by
   rw [Cs, Cs, El]
   congr 1
   ·refine AE fun b hb => ?_
    rw [hbg b hb]
    unfold Gu
    rw [if_neg (by omega), Nat.add_sub_cancel_left]
   ·refine AE fun t ht => ?_
    have hm : st.getD t 0 ∈ st := BF (by omega)
    rw [hsg t]
    unfold Gu
    rw [if_pos (hstN _ hm).1, hwt _ hm]
  -- what the matrix makes of it
  have hq0 : ∀ t, t < q → Z.p ∣ x (nb + t) := by
   have hI := W.val.ind k (show k < k + 1 by omega)
   have hkey := hI (fun l => if l ∈ st then x (nb + st.idxOf l) else 0) (fun i hi => ?_)
   ·intro t ht
    have hm : st.getD t 0 ∈ st := BF (by omega)
    have h1 := hkey (st.getD t 0) (hstN _ hm).1 (Dc.on_iff.2 ⟨by
     have h2 := (W.val.ends _ (hstN _ hm).1).1
     have h3 : (S (st.getD t 0)).fr ≤ (S (st.getD t 0)).to := h2
     rw [(hstN _ hm).2] at h3; exact h3, by show k ≤ (S (st.getD t 0)).to; rw [(hstN _ hm).2]; omega⟩)
    rwa [if_pos hm, E5 hst (by omega)] at h1
   ·have h0 : Cg Z.p (ap (Z.mat k) (Z.d (k + 1)) (Bj (nb + q) tt x (fun t => Gu N st (fun t => DH al q top U (st.getD t 0)) K ((List.range' N nb ++ st).getD t 0))) i) 0 := (EC (fun a ha => hx a ha) i).trans (Cg.of_eq (J8 _ _ _))
    rw [show (Bj (nb + q) tt x (fun t => Gu N st (fun t => DH al q top U (st.getD t 0)) K ((List.range' N nb ++ st).getD t 0))) = fun a => Bj nb tt x K a + sm q fun t => x (nb + t) * DH al q top U (st.getD t 0) a from funext hsum, Md] at h0
    have h1 : Cg Z.p (ap (Z.mat k) (Z.d (k + 1)) (Bj nb tt x K) i) 0 := by
     rw [FY]
     refine Cg.trans (Cg.sm (g := fun _ => 0) fun b hb => ?_) (Cg.of_eq (CS nb))
     rw [if_pos rfl]
     have := (Cg.refl Z.p (x b)).mul (hK.2.1 b hb i hi)
     rwa [Int.mul_zero] at this
    have h2 : Cg Z.p (ap (Z.mat k) (Z.d (k + 1)) (fun a => sm q fun t => x (nb + t) * DH al q top U (st.getD t 0) a) i) (sm q fun t => x (nb + t) * (S (st.getD t 0)).v k i) := by
     have e1 : ap (Z.mat k) (Z.d (k + 1)) (fun a => sm q fun t => x (nb + t) * DH al q top U (st.getD t 0) a) i = sm q fun t => x (nb + t) * ap (Z.mat k) (Z.d (k + 1)) (DH al q top U (st.getD t 0)) i := by
      have := FY (Z.mat k) (Z.d (k + 1)) q tt (fun t => x (nb + t)) (fun t => DH al q top U (st.getD t 0)) i
      rw [show ap (Z.mat k) (Z.d (k + 1)) (Bj q tt (fun t => x (nb + t)) fun t => DH al q top U (st.getD t 0)) i = ap (Z.mat k) (Z.d (k + 1)) (fun a => sm q fun t => x (nb + t) * DH al q top U (st.getD t 0) a) i from AE fun j _ => by rw [Cs]] at this
      rw [this]
      exact AE fun t _ => if_pos rfl
     rw [e1]
     refine Cg.sm fun t ht => (Cg.refl _ _).mul ?_
     obtain ⟨t', h3, h4, h5⟩ := hUof _ (BF (show t < st.length by omega))
     rw [h5, ← h4]
     exact W.img t' h3 (by omega) i hi
    have h3 : Cg Z.p (sm q fun t => x (nb + t) * (S (st.getD t 0)).v k i) 0 := by
     have h4 := h0.sub h1
     rw [show ap (Z.mat k) (Z.d (k + 1)) (Bj nb tt x K) i + ap (Z.mat k) (Z.d (k + 1)) (fun a => sm q fun t => x (nb + t) * DH al q top U (st.getD t 0) a) i - ap (Z.mat k) (Z.d (k + 1)) (Bj nb tt x K) i = ap (Z.mat k) (Z.d (k + 1)) (fun a => sm q fun t => x (nb + t) * DH al q top U (st.getD t 0) a) i by omega, Int.sub_zero] at h4
     exact h2.symm.trans h4
    refine Cg.trans (Cg.of_eq ?_) h3
    -- az a sum over all strands
    show Bj N ((Dr N S).on k) (fun l => if l ∈ st then x (nb + st.idxOf l) else 0) (fun l => (S l).v k) i = _
    have hson : ∀ l, l ∈ st → (Dr N S).on k l = true := fun l h => Dc.on_iff.2 ⟨by
     have h2 := (W.val.ends _ (hstN _ h).1).1
     have h3 : (S l).fr ≤ (S l).to := h2
     rw [(hstN _ h).2] at h3; exact h3, by show k ≤ (S l).to; rw [(hstN _ h).2]; omega⟩
    have e2 : Bj N ((Dr N S).on k) (fun l => if l ∈ st then x (nb + st.idxOf l) else 0) (fun l => (S l).v k) i = sm N fun l => if decide (l ∈ st) then x (nb + st.idxOf l) * (S l).v k i else 0 := AE fun l _ => by
     show (if (Dr N S).on k l then (if l ∈ st then x (nb + st.idxOf l) else 0) * (S l).v k i else 0) = _
     by_cases h : l ∈ st
     ·rw [hson l h, if_pos h, if_pos rfl, if_pos (decide_eq_true h)]
     ·have e3 : (if decide (l ∈ st) = true then x (nb + st.idxOf l) * (S l).v k i else 0) = 0 := if_neg (by simpa using h)
      rw [e3, if_neg h, Int.zero_mul]; split <;> rfl
    rw [e2, Ki N (fun l => decide (l ∈ st)) fun l => x (nb + st.idxOf l) * (S l).v k i]
    have hps : st.Perm (Df N fun l => decide (l ∈ st)) := FA hst fun l => ⟨fun h => ⟨(hstN l h).1, decide_eq_true h⟩, fun h => of_decide_eq_true h.2⟩
    rw [← Iw hps, Ku, hlen]
    exact AE fun t ht => by rw [E5 hst (by omega)]
  have hn0 : ∀ b, b < nb → Z.p ∣ x b := fun b hb => hK.1 x (fun a ha => by
   have h1 := hx a ha
   rw [hsum a] at h1
   have h2 : Cg Z.p (sm q fun t => x (nb + t) * DH al q top U (st.getD t 0) a) 0 := by
    refine Cg.trans (Cg.sm (g := fun _ => 0) fun t ht => ?_) (Cg.of_eq (CS q))
    unfold Cg; rw [Int.sub_zero]; exact Int.dvd_mul_of_dvd_left (hq0 t ht)
   have h3 := h1.sub h2
   rwa [Int.add_sub_cancel, Int.sub_zero] at h3) b hb rfl
  intro l hl _
  rcases Nat.lt_or_ge l nb with h | h
  ·exact hn0 l h
  ·have := hq0 (l - nb) (by omega)
   rwa [show nb + (l - nb) = l by omega] at this
 ·obtain ⟨t, h1, h2, h3⟩ := hUof l hl
  have hwl : DH al q top U (st.getD (st.idxOf l) 0) = DH al q top U l := hwt l hl
  rw [hwl, h3, ← h2]
  exact W.img t h1 (by omega) i hi
 ·obtain ⟨t', h1, h2, h3⟩ := hUof _ (BF ht)
  show 0 ≤ DH al q top U (st.getD t 0) i ∧ DH al q top U (st.getD t 0) i < Z.p
  rw [h3]
  exact hUb t' h1 i hi
 ·refine List.pairwise_append.2 ⟨?_, ?_, fun a ha b hb => ?_⟩
  ·refine List.Pairwise.imp_of_mem (R := fun _ _ => True) (fun {a b} ha hb _ => .inr (.inl ⟨(List.mem_range'_1.1 ha).1, (List.mem_range'_1.1 hb).1⟩)) ?_
   exact List.pairwise_of_forall fun _ _ => trivial
  ·refine (M.ord.sublist hsub).imp_of_mem fun {a b} ha hb h => .inl ⟨M.lt (hsub.subset ha), M.lt (hsub.subset hb), h⟩
  ·exact .inr (.inr (.inr ⟨(List.mem_range'_1.1 ha).1, M.lt (hsub.subset hb), hbk⟩))
end Go.Proofs.YtdnelknieikbaaaGreat
namespace Go.Proofs.YtdnelknieikbaaaGreat
open Go.Proofs.Tryz
open Go.Eng Go.RowKit Go.Lin
def Wq (n : Nat) (vs : List Value) (k : Nat) : List Value := [.int .i64 ((n : Int) - 1 - k), vs.getD (n - 1 - k) undef]
theorem SN (g n : Nat) (v : Value) (vs : List Value) (h : Hp) (hG : Seg h [] ⟨g, 0, none⟩ [v]) (hR : RdL cV 1 h [] v vs) (hn : vs.length = n) (hn2 : n ≤ 1000000) : Wh Tryz.prog 134 [.pointer (some ⟨g, 0, none⟩)] h n (Wq n vs) := by
 intro lp X h1 ms hl hY h0
 show FnT _ _ #[.func (.yield lp) #[] #[], .pointer (some ⟨g, 0, none⟩)] _ _ _
 have hG := hG.le hl
 have hR := hR.up hl
 have hRn : ∀ h', h1.le h' → Rd h' [] v 1 n (vs.flatMap cV) := fun h' l => by
  have := (hR.up l).rd
  rwa [hn] at this
 refine Av func134 ntmps134 rfl rfl (fun w0 hw0 => ?_)
 simp only [A4]
 refine Ac (B8 (Ct (oL rfl underlying106 ((hG.at0 rfl).any)) rfl rfl rfl (Ct (AJ (hRn _ (Hp.le_refl _)).any rfl underlying106 rfl) rfl rfl rfl (Ct (oS rfl) rfl rfl rfl (Ct (EX rfl rfl) rfl rfl rfl (DD (Ab (Ag ?_))))))))
 refine AD (fun q s hh ms' => ∃ (k : Nat), q = n - k ∧ s = [(0, .func (.yield lp) #[] #[]), (1, .pointer (some ⟨g, 0, none⟩)), (3, .int .i64 ((n : Int) - 1 - k))] ∧ h1.le hh ∧ k ≤ n ∧ X k hh ms')
  (n - 0) [(0, .func (.yield lp) #[] #[]), (1, .pointer (some ⟨g, 0, none⟩)), (3, .int .i64 ((n : Int) - 1))] ⟨0, rfl, by rw [show ((n : Int) - 1 - (0 : Nat)) = (n : Int) - 1 by omega], Hp.le_refl _, by omega, h0⟩ Qs ?_
 rintro q s hh ms' ⟨k, rfl, rfl, lh, hk, hX⟩
 refine Ac (Ac (B8 (Ct (As rfl rfl) rfl rfl rfl (Ct (DU rfl rfl rfl) rfl rfl rfl (DD (Ab ?_))))))
 refine AF rfl (fun hlt => ?_) (fun hlt => ?_)
 ·have hkn : k < n := by omega
  have hG2 := hG.le lh
  have hR2 := hR.up lh
  have hi : n - 1 - k < vs.length := by omega
  have hc : ∀ ms, Cell hh ms ((Bl v).add ((n - 1 - k) * 1)) (vs.getD (n - 1 - k) undef) := fun ms => by
   rw [Ev hi]; exact hR2.any.cell0 hi rfl
  refine Ai (Ab (Ac (Ag (Ac (B8 (Ct (As rfl rfl) rfl rfl rfl (Ct (As rfl rfl) rfl rfl rfl (Ct (oL rfl underlying106 ((hG2.at0 rfl).any)) rfl rfl rfl (Ct (As rfl rfl) rfl rfl rfl (Ct (Ah (n - 1 - k) (hRn _ lh).any rfl underlying106 Cf rfl rfl (by omega) (by omega)) rfl rfl rfl (Ct (oL rfl underlying108 (hc _)) rfl rfl rfl (IF rfl rfl rfl (hY k hh ms' hkn lh hX) rfl rfl rfl (fun r h2 ms2 l2 hr => ?_)))))))))))))
  obtain ⟨rfl, hX2⟩ := hr
  refine Ct (CP rfl rfl) rfl rfl rfl (DD (Ab (Bb rfl (Ai (Aj (Ab (B8 (Ct (As rfl rfl) rfl rfl rfl (Ct (oS rfl) rfl rfl rfl (Ct (EX rfl rfl) rfl rfl rfl (DD ?_)))))))))))
  refine Al (n - (k + 1)) [(0, .func (.yield lp) #[] #[]), (1, .pointer (some ⟨g, 0, none⟩)), (3, .int .i64 ((n : Int) - 1 - k - 1))] (by omega) ⟨k + 1, rfl, by rw [show ((n : Int) - 1 - k - 1) = (n : Int) - 1 - (k + 1 : Nat) by omega], Hp.le_trans lh l2, by omega, hX2⟩ Qs
 ·obtain rfl : k = n := by omega
  refine Aw (Aa (Aa (Af ?_)))
  exact B6 rfl (hX)
theorem MR (v : Value) (n : Nat) (cs : List Value) (h : Hp) (hR : Rd h [] v 1 n cs) : FnT Tryz.prog 109 #[v] h [] (fun r h' ms' => h = h' ∧ ∃ g, r = .func (.func 134) #[] #[.pointer (some ⟨g, 0, none⟩)] ∧ ms' = [AX g 106 [v]]) := by
 refine Av func109 ntmps109 rfl rfl (fun w0 hw0 => ?_)
 simp only [A4]
 refine Ax (AS [_] rfl rfl (Rd.cells ‹_›) rfl rfl rfl (fun g1 => Qm rfl (B3 (Qx (CE rfl rfl rfl) rfl (Qm rfl (Aq (Ao ?_)))))))
 exact Am rfl rfl (⟨rfl, _, rfl, rfl⟩)
end Go.Proofs.YtdnelknieikbaaaGreat
namespace Go.Proofs.YtdnelknieikbaaaGreat
open Go.Proofs.Tryz
open Go.Eng Go.RowKit Go.Lin
def MQ (n : Nat) (pr : Nat → Bool) : Int := match (List.range n).find? pr with | some k => k | none => -1
theorem JA {n k : Nat} {pr : Nat → Bool} (hk : k < n) (h : pr k = true) (hno : ∀ j, j < k → pr j = false) : MQ n pr = k := by
 unfold MQ
 have : (List.range n).find? pr = some k := by
  rw [List.find?_range_eq_some]
  exact ⟨h, List.mem_range.2 hk, fun j hj => by rw [hno j hj]; rfl⟩
 rw [this]
theorem Jw {n : Nat} {pr : Nat → Bool} (hno : ∀ j, j < n → pr j = false) : MQ n pr = -1 := by
 unfold MQ
 have : (List.range n).find? pr = none := List.find?_eq_none.2 fun j hj => by rw [hno j (List.mem_range.1 hj)]; simp
 rw [this]
theorem OC (n d : Nat) (w : Nat → Nat → Int) (vl : Value) (cf : FuncId) (cs : List Value) (pr : Nat → Bool) (h : Hp) (hR : RdV h vl n d w) (hn : n ≤ 100000)
  (hc : ∀ xs w, (callFunc cf xs).run Tryz.prog w = .ok (.enter cf xs) w)
  (hp : ∀ k v, k < n → RdL cI 1 h [] v (vec d (w k)) → ∀ ms, Dq Tryz.prog cf ([] ++ [v] ++ cs).toArray h ms (.bool (pr k))) :
  FnT Tryz.prog 110 #[vl, .func (.func cf) #[] cs.toArray] h [] (fun r _ _ => r = .int .i64 (MQ n pr)) := by
 obtain ⟨vs, hvs, hRv, hRs⟩ := hR
 have hRn : Rd h [] vl 1 n (vs.flatMap cV) := by have := hRv.rd; rwa [hvs] at this
 refine Av func110 ntmps110 rfl rfl (fun w0 hw0 => ?_)
 simp only [A4]
 refine Ax (Qm rfl (Aq (Ac (Ax (Qm rfl (Qx (AJ hRn.any rfl underlying62 rfl) rfl (Qm rfl (Aq (Ag ?_)))))))))
 refine AD (fun q s h' ms' => ∃ (k : Nat), q = n - k ∧ s = [(0, vl), (1, .func (.func cf) #[] cs.toArray), (7, .int .i64 n), (8, .int .i64 k)] ∧ h = h' ∧ ms' = [] ∧ k ≤ n ∧ ∀ j, j < k → pr j = false)
  (n - 0) _ ⟨0, rfl, rfl, rfl, rfl, by omega, fun j hj => by omega⟩ Qs ?_
 rintro q s h' ms' ⟨k, rfl, rfl, rfl, rfl, hk, hno⟩
 refine Ax (Qm rfl (Aq (Ac ?_)))
 refine AF rfl (fun hlt => ?_) (fun hlt => ?_)
 ·have hkn : k < n := by omega
  have hkv : k < vs.length := by omega
  refine Ai (Ab (Ac (Ag (Ax (Qm rfl (Qm rfl (B3 (Qm rfl (Qm rfl (Qm rfl (Qx (Ah _ hRn.any rfl underlying62 BN rfl rfl rfl (by omega)) rfl (Ql rfl underlying24 (hRv.any.cell0 hkv rfl) (Qx (En rfl rfl hc rfl (hp k _ hkn (hRs k hkv) _)) rfl (Aq ?_))))))))))))))
  refine BJ rfl (fun hpk => ?_) (fun hpk => ?_)
  ·refine Ac (Ad (Qm rfl (Qm rfl (Aq (Ao (Ap (Ae (Ae (Ap (Ae ?_))))))))))
   exact Am rfl rfl (by rw [JA hkn hpk hno])
  ·refine Ai (Aj (Ab (Ad (Qx (oA rfl) rfl (Qm rfl (Ak ?_))))))
   refine Al (n - (k + 1)) _ (by omega) ⟨k + 1, rfl, rfl, rfl, rfl, by omega, fun j hj => ?_⟩ Qs
   rcases (by omega : j < k ∨ j = k) with h2 | rfl
   ·exact hno j h2
   ·exact hpk
 ·refine Aw (Aa (Aa (Af (Ab (Ax (Qm rfl (Aq (Ao ?_))))))))
  exact Am rfl rfl (by rw [Jw fun j hj => hno j (by omega)])
def Dm (r : Nat) (x : Nat → Int) (i : Nat) : Bool := decide (x i ≠ 0) && (List.range r).all fun j => decide (i < j → x j = 0)
theorem leads_iff {r i : Nat} {x : Nat → Int} : Dm r x i = true ↔ x i ≠ 0 ∧ ∀ j, i < j → j < r → x j = 0 := by
 unfold Dm
 rw [Bool.and_eq_true, decide_eq_true_iff, List.all_eq_true]
 exact ⟨fun ⟨h1, h2⟩ => ⟨h1, fun j h3 h4 => of_decide_eq_true (h2 j (List.mem_range.2 h4)) h3⟩, fun ⟨h1, h2⟩ => ⟨h1, fun j hj => decide_eq_true fun h3 => h2 j h3 (List.mem_range.1 hj)⟩⟩
theorem Te (r i : Nat) (x : Nat → Int) (v : Value) (g : Nat) (h : Hp) (hr : r ≤ 100000) (hi : i < r) (hR : RdL cI 1 h [] v (vec r x)) (hG : Seg h [] ⟨g, 0, none⟩ [.int .i64 i]) (ms : List Hp) :
  Dq Tryz.prog 111 ([] ++ [v] ++ [Value.pointer (some ⟨g, 0, none⟩)]).toArray h ms (.bool (Dm r x i)) := by
 refine Ds ?_ ms
 show FnT _ _ #[v, .pointer (some ⟨g, 0, none⟩)] _ _ _
 have hRn : Rd h [] v 1 r ((vec r x).flatMap cI) := by have := hR.rd; rwa [AQ] at this
 have hcell : ∀ ms, Cell h ms ((Bl v).add (i * 1)) (.int .i64 (x i)) := fun ms => (hR.any (ms := ms)).ev hi
 have hsub := hR.sub_ (i := i + 1) (j := r) (by omega) (by rw [AQ]; omega)
 have hz : (∀ y ∈ ((vec r x).drop (i + 1)).take (r - (i + 1)), y = 0) ↔ ∀ j, i < j → j < r → x j = 0 := by
  have e : ((vec r x).drop (i + 1)).take (r - (i + 1)) = (vec r x).drop (i + 1) := List.take_of_length_le (by simp [vec])
  rw [e]
  constructor
  ·intro h j h1 h2
   have hm : x j ∈ (vec r x).drop (i + 1) := by
    refine List.mem_iff_getElem.2 ⟨j - (i + 1), by simp [vec]; omega, ?_⟩
    rw [List.getElem_drop]
    simp [vec, show i + 1 + (j - (i + 1)) = j by omega]
   exact h _ hm
  ·intro h y hy
   obtain ⟨j, hj, rfl⟩ := List.mem_iff_getElem.1 hy
   rw [List.getElem_drop]
   simp [vec] at hj ⊢
   exact h _ (by omega) (by omega)
 refine Av func111 ntmps111 rfl rfl (fun w0 hw0 => ?_)
 simp only [A4]
 refine Ax (Qm rfl (B3 (Qm rfl (Ql rfl underlying3 ((hG.at0 rfl).any) (Qx (Ah (i) hRn.any rfl underlying24 A8 rfl rfl (by omega) (by omega)) rfl (Ql rfl underlying3 (hcell _) (Qm rfl (Qm rfl ?_))))))))
 refine AR (t := 9) rfl (fun hs => ?_) (fun hs => ?_)
 ·refine Qg (As rfl rfl) rfl (Qg (oL rfl underlying3 ((hG.at0 rfl).any)) rfl (Qg (oA rfl) rfl (Qg (C3 (i + 1) hRn.any rfl underlying24 A8 rfl rfl (by omega) (by omega)) rfl (Qg (AG rfl call69 rfl (UZ _ _ h hsub _)) rfl (Qm rfl (Qm rfl (Aq (Ao ?_))))))))
  have e1 : ∀ l : List Int, l = ((vec r x).drop (i + 1)).take (r - (i + 1)) → decide (∀ y ∈ l, y = 0) = Dm r x i := fun l hl => by
   subst hl
   rw [Bool.eq_iff_iff, decide_eq_true_iff, leads_iff, hz]
   exact ⟨fun h => ⟨hs, h⟩, fun h => h.2⟩
  exact Am rfl rfl (by rw [e1 _ rfl])
 ·refine Qk rfl (Qk rfl (Qk rfl (Qk rfl (Qk rfl (Qm rfl (Qm rfl (Aq (Ao ?_))))))))
  have e1 : Dm r x i = false := by
   cases h : Dm r x i with
   | false => rfl
   | true => exact absurd (leads_iff.1 h).1 hs
  exact Am rfl rfl (by rw [e1])
end Go.Proofs.YtdnelknieikbaaaGreat
namespace Go.Proofs.YtdnelknieikbaaaGreat
open Go.Proofs.Tryz
open Go.Eng Go.RowKit Go.Lin
variable {i q r : Nat} {top : Nat → Nat} {al : List Nat} {X : Nat → Nat → Int}
def kI (n : Int) : Value := .int .i64 n
def vB (b : Bool) : Value := .bool b
theorem NE : LS Tryz.prog 3 kI Dh where
 law := Maps.int_keyed underlying3
 inj := fun a b h => by unfold kI at h; cases h; rfl
 key := fun a h => ⟨_, Maps.keyOf_int_mk underlying3 (WalkArith.wf_i64 h)⟩
theorem VJ (w : World) : (zeroValue 4).run Tryz.prog w = .ok (vB false) w := by rfl
theorem HC {p : Int} {c : Nat} {A L : Nat → Nat → Int} {U : Nat → Nat → Int} (htop : ∀ t, t < q → top t < r ∧ X t (top t) = 1 ∧ (∀ i, top t < i → i < r → X t i = 0) ∧ ∀ t', t' < q → t' ≠ t → X t' (top t) = 0) {t : Nat} (ht : t < q) (hi : i < r) : Dm r (X t) i = true ↔ top t = i := by
 obtain ⟨h1, h2, h3, h4⟩ := htop t ht
 rw [leads_iff]
 constructor
 ·rintro ⟨h5, h6⟩
  rcases Nat.lt_trichotomy (top t) i with h | h | h
  ·exact absurd (h3 i h hi) h5
  ·exact h
  ·have := h6 (top t) h h1
   rw [h2] at this
   exact absurd this (by decide)
 ·rintro rfl
  exact ⟨by rw [h2]; decide, h3⟩
theorem NF (htop : ∀ t, t < q → top t < r ∧ X t (top t) = 1 ∧ (∀ i, top t < i → i < r → X t i = 0) ∧ ∀ t', t' < q → t' ≠ t → X t' (top t) = 0) (t t' : Nat) (h1 : t < q) (h2 : t' < q) (h : top t = top t') : t = t' := Classical.byContradiction fun hne => by
 have h3 := (htop t' h2).2.2.2 t h1 hne
 rw [← h, (htop t h1).2.1] at h3
 exact absurd h3 (by decide)
theorem Nh (htop : ∀ t, t < q → top t < r ∧ X t (top t) = 1 ∧ (∀ i, top t < i → i < r → X t i = 0) ∧ ∀ t', t' < q → t' ≠ t → X t' (top t) = 0) {t : Nat} (ht : t < q) (hi : i < r) (h : top t = i) : MQ q (fun t => Dm r (X t) i) = t :=
 JA ht ((HC (p := 0) (c := 0) (A := fun _ _ => 0) (L := fun _ _ => 0) (U := X) htop ht hi).2 h) fun j hj => by
  cases h2 : Dm r (X j) i with
  | false => rfl
  | true =>
   have h3 := (HC (p := 0) (c := 0) (A := fun _ _ => 0) (L := fun _ _ => 0) (U := X) htop (show j < q by omega) hi).1 h2
   have := NF htop t j ht (by omega) (by omega)
   omega
theorem UN (htop : ∀ t, t < q → top t < r ∧ X t (top t) = 1 ∧ (∀ i, top t < i → i < r → X t i = 0) ∧ ∀ t', t' < q → t' ≠ t → X t' (top t) = 0) (hi : i < r) (h : ∀ t, t < q → top t ≠ i) : MQ q (fun t => Dm r (X t) i) = -1 :=
 Jw fun j hj => by
  cases h2 : Dm r (X j) i with
  | false => rfl
  | true => exact absurd ((HC (p := 0) (c := 0) (A := fun _ _ => 0) (L := fun _ _ => 0) (U := X) htop hj hi).1 h2) (h j hj)
theorem UD {j : Nat} (hn : al.Nodup) (ht : ∀ t, t < q → top t < al.length) (hi : i < al.length) (hj : j < al.length) (h : j ≠ i) : EL al q top (i + 1) (al.getD j 0) = EL al q top i (al.getD j 0) := by
 rw [Bool.eq_iff_iff, stB_iff, stB_iff]
 constructor
 ·rintro ⟨t, h1, h2, h3⟩; exact ⟨t, h1, by omega, h3⟩
 ·rintro ⟨t, h1, h2, h3⟩
  have := Ef hn (ht t h1) hj h3
  exact ⟨t, h1, by omega, h3⟩
theorem Sx {l : Nat} (hno : ∀ t, t < q → top t ≠ i) : EL al q top (i + 1) l = EL al q top i l := by
 rw [Bool.eq_iff_iff, stB_iff, stB_iff]
 constructor
 ·rintro ⟨t, h1, h2, h3⟩; exact ⟨t, h1, by omega, h3⟩
 ·rintro ⟨t, h1, h2, h3⟩
  have := hno t h1
  exact ⟨t, h1, by omega, h3⟩
theorem Qd {S : Nat → SM} (h : i < al.length) : (al.map (A1 S)).getD i undef = A1 S (al.getD i 0) := by
 simp [List.getD, h]
theorem Vz (q r : Nat) (f : Nat → Nat) (h : ∀ t, t < q → f t < r) (hj : ∀ t t', t < q → t' < q → f t = f t' → t = t') : q ≤ r := by
 have h1 : ((List.range q).map f).Nodup := List.pairwise_map.2 (List.nodup_range.imp_of_mem fun hx hy hne he => hne (hj _ _ (List.mem_range.1 hx) (List.mem_range.1 hy) he))
 have h2 := h1.length_le_of_subset (l₂ := List.range r) fun x hx => by
  obtain ⟨t, ht, rfl⟩ := List.mem_map.1 hx
  exact List.mem_range.2 (h t (List.mem_range.1 ht))
 simpa using h2
theorem PR {S : Nat → SM} : ((al.map (A1 S)).drop 0).take (i - 0) = (al.take i).map (A1 S) := by
 rw [List.drop_zero, Nat.sub_zero, List.map_take]
theorem Ov {j : Nat} (h : j < i) : (al.take i).getD j 0 = al.getD j 0 := by
 simp [List.getD, List.getElem?_take, h]
def JB (Z : Zg) (k N : Nat) (S0 : Nat → SM) (al : List Nat) (q : Nat) (top : Nat → Nat) (U : Nat → Nat → Int) (gT : Nat) (g : Hp) (me : Hp) (m : Nat) (ms : List Hp) : Prop :=
 ∃ (S : Nat → SM) (mB mT : Hp) (T : List (Int × Bool)) (bs : List Nat), ms = [mT, mB, g, me] ∧ Bw Z k N S0 S al q top U m ∧ BagS Z.d N (Cx al q top U k m S) mB ∧ DI kI vB gT Dh mT T bs ∧ ∀ i, i < al.length → (Dg T (i : Int)).getD false = EL al q top m (al.getD i 0)
theorem LK (Z : Zg) (k N : Nat) (S0 : Nat → SM) (al en : List Nat) (gm : Nat) (va ve ev : Value) (me mB h : Hp) (hp : IsP Z.p) (hd : ∀ j, Z.d j ≤ 200) (hk : k ≤ 200) (hN : N ≤ 100000) (M : Mch Z k N S0 al en) (hb : Z.back k = true) (RA : RtM Z.p (Z.d k) (Z.d (k + 1)) (Z.mat k)) (hA : RdL cI 1 h [] ev (mat (Z.d k) (Z.d (k + 1)) (Z.mat k)))
  (ha : RdL cV 1 h [] va (al.map (A1 S0))) (hE : OwnL cV 1 108 me ve (en.map (A1 S0))) (B : BagS Z.d N S0 mB) :
  FnT Tryz.prog 90 #[.pointer (some ⟨gm, 0, none⟩), .agg #[.int .i64 Z.p, .int .i64 (Z.d k), .int .i64 (Z.d (k + 1)), ev]] h [mB, AX gm 132 [.int .i64 Z.p, .int .i64 k, va, ve], me] (fun r h' ms' => h.le h' ∧ ∃ (nb : Nat) (S' : Nat → SM) (al' en' : List Nat) (va' ve' : Value) (me' mB' : Hp), ms' = [mB', AX gm 132 [.int .i64 Z.p, .int .i64 ((k : Int) + 1), va', ve'], me'] ∧ nb ≤ 200 ∧ RdL cV 1 h' [] va' (al'.map (A1 S')) ∧ OwnL cV 1 108 me' ve' (en'.map (A1 S')) ∧ BagS Z.d (N + nb) S' mB' ∧ Mch Z (k + 1) (N + nb) S' al' en') := by
 have hbp := RA.bd
 have hFp := hp.fld
 have d1 := hd (k + 1)
 have d0 := hd k
 have hal := M.cnt_al
 have oev := hA.rd.one
 have oa := ha.rd.one
 refine Gd func90 ntmps90 rfl rfl (fun w0 hw0 => ?_)
 simp only [A4]
 refine Ax ?_
 refine AS [_] rfl rfl (by rfl) rfl rfl rfl (fun g2 => ?_)
 refine AS [_, _, _, _] rfl rfl (by rfl) rfl rfl rfl (fun g3 => ?_)
 refine Aq (AL fun h1 l1 hG3 => (AL fun h2 l2 hG2 => ?_))
 have l02 := Hp.le_trans l1 l2
 have hG3 := hG3.le l2
 have hA := hA.up l02
 have ha := ha.up l02
 refine PQ fun hap => ?_
 have hdj : mB.disj (AX gm 132 [.int .i64 Z.p, .int .i64 k, va, ve]) := (List.pairwise_cons.1 hap).1 _ (by simp)
 refine Tq (CV fun h4 l24 lm dM LM => (BX ?_))
 have lB := Hp.le_trans Hp.le_joinl lm
 have lM := Hp.le_trans (Hp.le_joinr hdj) lm
 have hA0 := hA
 have ha0 := ha
 have hG20 := hG2
 have hG30 := hG3
 have hG2 := hG2.le l24
 have hG3 := hG3.le l24
 have hA := hA.up l24
 have ha := ha.up l24
 have hMA := Seg.all (Seg.ofLe lM)
 have hA2 := Seg.all hG2
 have hA3 := Seg.all hG3
 refine Ax (Qm rfl (Aq ?_))
 refine Bv (fun s hh ms' => ∃ (es : List Value) (v4 : Value) (m4 : Hp), s = [(2, .pointer (some ⟨g2, 0, none⟩)), (3, .pointer (some ⟨g3, 0, none⟩)), (4, v4)] ∧ h4 = hh ∧ ms' = [m4, me] ∧ OwnL cV 1 24 m4 v4 es ∧ ImV h4 (Z.d k) al.length es (fun i => (S0 (al.getD i 0)).v k)) ?_ (fun s h ms hI => ?_)
 ·refine Ac (Ad (Ql rfl underlying130 (hA2 0 _ rfl _) (Qm rfl (Qf DL rfl (Ql rfl underlying106 (hMA 2 _ rfl _) (Qx (AJ (DC ha).any rfl underlying106 rfl) rfl (Qm rfl (Aq (Ag ?_)))))))))
  refine AD (fun n s hh ms' => ∃ (i : Nat) (es : List Value) (v4 : Value) (m4 : Hp), n = al.length - i ∧ s = [(2, .pointer (some ⟨g2, 0, none⟩)), (3, .pointer (some ⟨g3, 0, none⟩)), (4, v4), (23, va), (24, .int .i64 al.length), (25, .int .i64 i)] ∧ h4 = hh ∧ ms' = [m4, me] ∧ i ≤ al.length ∧ OwnL cV 1 24 m4 v4 es ∧ ImV h4 (Z.d k) i es (fun i => (S0 (al.getD i 0)).v k))
   (al.length - 0) _ ⟨0, [], _, _, rfl, rfl, rfl, rfl, by omega, OwnL.nil BK, ⟨rfl, fun t ht => by simp at ht⟩⟩ Qs ?_
  rintro n s hh ms' ⟨i, es, v4, m4, rfl, rfl, rfl, rfl, hi, hO4, hI4⟩
  refine Ax (Qm rfl (Aq (Ac ?_)))
  refine AF rfl (fun hlt => ?_) (fun hlt => ?_)
  ·have hil : i < al.length := Bx hlt
   have hsN : al.getD i 0 < N := M.lt (BF hil)
   have hsk : (S0 (al.getD i 0)).to = k := M.live _ (BF hil)
   have hcs : ∀ ms, Cell h4 ms ((Bl va).add (i * 1)) (A1 S0 (al.getD i 0)) := fun ms => Em ha.any hil
   obtain ⟨u, hu, hRu⟩ := SO Z.d _ _ _ _ h4 (B.rd lB hsN) (by omega)
   rw [hsk] at hRu
   have ou := hRu.rd.one
   refine Ai (Ab (Ac (Ag (Ax (Qx (Ah _ (DC ha).any rfl underlying106 Cf rfl rfl rfl (by omega)) rfl (Ql rfl underlying108 (hcs _) (Qm rfl (IA (Qm rfl (Qm rfl (Qx (AG rfl call107 rfl (hu _)) rfl (AB [_] rfl underlying62 BN rfl ((hRu.rd).cells) rfl rfl (by omega) rfl rfl rfl (fun g32 => ?_)))))))))))))
   have hesl : es.length ≤ 200 := by rw [hI4.1]; omega
   refine Ba 1 hO4 (RdL.one BK (List.Mem.head _) rfl) rfl underlying62 BN rfl (by omega) rfl rfl rfl (Cj ou) (by simp only [List.length_singleton]; omega) (by simp only [List.length_singleton]; omega) rfl rfl rfl (fun v5 m5 hO5 => ?_)
   refine Qm rfl (Ak (Aj (Ab (Ad (Qx (oA rfl) rfl (Qm rfl (Ak (A5 ?_))))))))
   refine Al (al.length - (i + 1)) _ (by omega) ⟨i + 1, es ++ [u], v5, m5, rfl, rfl, rfl, rfl, by omega, hO5, ?_⟩ Qs
   have := hI4.snoc (u := (S0 (al.getD i 0)).v k) hRu
   rwa [show Fq i (fun i => (S0 (al.getD i 0)).v k) ((S0 (al.getD i 0)).v k) = fun i => (S0 (al.getD i 0)).v k from IT i fun i => (S0 (al.getD i 0)).v k] at this
  ·obtain rfl : i = al.length := by omega
   refine Aw (Aa (Aa (Af ?_)))
   exact AA _ ⟨es, v4, m4, rfl, rfl, rfl, hO4, hI4⟩ Qs
 ·obtain ⟨es, v4, m4, rfl, rfl, rfl, hO4, hI4⟩ := hI
  refine Bg hO4 fun h5 l5 hR4 => ?_
  have hG2 := hG2.le l5
  have hG3 := hG3.le l5
  have hA := hA.up l5
  have ha := ha.up l5
  have hRV : RdV h5 v4 al.length (Z.d k) (fun i => (S0 (al.getD i 0)).v k) := (hI4.up l5).rd hR4
  have lB := Hp.le_trans lB l5
  have lM := Hp.le_trans lM l5
  have hMA := Seg.all (Seg.ofLe lM)
  have hA2 := Seg.all hG2
  have hA3 := Seg.all hG3
  have hLb : ∀ i, i < al.length → ∀ a, a < Z.d k → 0 ≤ (S0 (al.getD i 0)).v k a ∧ (S0 (al.getD i 0)).v k a < Z.p := fun i hi a ha => by
   have h1 := M.lt (BF hi)
   exact M.bd _ h1 k (by have := B.fr_to h1; rw [M.live _ (BF hi)] at this; omega) (by rw [M.live _ (BF hi)]; omega) a ha
  have RL : RtM Z.p (Z.d k) (Z.d k) (fun a j => (S0 (al.getD j 0)).v k a) := ⟨hp, by omega, by omega, fun a ha j hj => hLb j (by omega) a ha⟩
  have hIL : Ind Z.p (Z.d k) tt (Z.d k) (fun j a => (S0 (al.getD j 0)).v k a) := by
   have h1 := M.val.ind k (show k < k + 1 by omega)
   have hps : al.Perm (Df N ((Dr N S0).on k)) := FA M.nodup fun l => by
    constructor
    ·intro hl
     have h1 := M.lt hl
     have h2 := M.live l hl
     have h3 := B.fr_to h1
     exact ⟨h1, Dc.on_iff.2 ⟨by show (S0 l).fr ≤ k; omega, by show k ≤ (S0 l).to; omega⟩⟩
    ·rintro ⟨h1, h2⟩
     have h3 := (M.val.ends l h1).2
     have h4 := (Dc.on_iff.1 h2).2
     exact M.in_ h1 (by have h5 : (S0 l).to < k + 1 := h3; have h6 : k ≤ (S0 l).to := h4; omega)
   have h2 := FB hps h1
   rw [hal] at h2
   exact h2
  have hRV' : RdV h5 v4 (Z.d k) (Z.d k) (fun i => (S0 (al.getD i 0)).v k) := by have := hRV; rw [hal] at this; exact this
  refine Bv (fun s hh ms' => ∃ (q : Nat) (X U : Nat → Nat → Int) (vc vl : Value) (g7 g8 : Nat) (hx : Hp), s = [(2, .pointer (some ⟨g2, 0, none⟩)), (3, .pointer (some ⟨g3, 0, none⟩)), (7, .pointer (some ⟨g7, 0, none⟩)), (8, .pointer (some ⟨g8, 0, none⟩))] ∧ h5.le hh ∧ ms' = [AX g8 62 [vl], AX g7 62 [vc], me] ∧ hx.le hh ∧ hx.disj (mB.join (AX gm 132 [.int .i64 Z.p, .int .i64 k, va, ve])) ∧ Uq Z.p (Z.d k) (Z.d (k + 1)) (Z.mat k) (fun a j => (S0 (al.getD j 0)).v k a) q X U ∧ RdV hx vc q (Z.d k) X ∧ RdV hx vl q (Z.d (k + 1)) U) ?_ (fun s h ms hI => ?_)
  ·refine AW (n := 17) (bs := [true, true, true, true, true, true, true, true, false, false, false, false, false, false, false, false, false]) [true, true, true, true, true, true, true, true] Cd (by kernel_rfl) (by kernel_rfl) rfl rfl (Qp rfl (oG rfl underlying42 AI (Seg.any hG3)) (QL rfl underlying130 ((hG2.at0 rfl).any) (Qq rfl (QF EY rfl (QL rfl underlying3 (hMA 0 _ rfl _) (QF Bh rfl (QL rfl underlying3 (hA3 1 _ rfl _) (Qq rfl ?_))))))))
   unfold CD
   simp only [List.cons_append, List.nil_append]
   refine A2 [8, 13, 14] (by kernel_rfl) rfl ?_
   refine Az rfl ?_ ?_
   ·refine Qc call97 rfl (Bi Z.p (Z.d k) (Z.d k) (fun i => (S0 (al.getD i 0)).v k) v4 _ RA.i64 RA.rl RA.rl hRV') (fun x6 h6 ms6 l6 hF => ?_)
    obtain ⟨rfl, ec, mc, rfl, rfl, hOc⟩ := hF
    refine EB fun h7 l7 lc dc _ => ?_
    have hdc := Hp.disj_symm (Hp.disj_le dc (Hp.le_trans lm l5))
    refine Qa (A2 [9, 13, 14] (by kernel_rfl) rfl ?_)
    refine Az rfl ?_ ?_
    ·refine Qc call108 rfl (Cz (Hp.le_trans lm (Hp.le_trans l5 l7)) (Ci Z.p (Z.d k) (Z.d (k + 1)) (Z.mat k) (fun a j => (S0 (al.getD j 0)).v k a) ev ec _ RA RL d0 d1 hIL (hA0.up (Hp.le_minus (Hp.le_trans l24 (Hp.le_trans l5 l7)) dM)) (hOc.rdh (Hp.le_minus lc hdc)))) (fun x8 h8 ms8 l8 hF => ?_)
     obtain ⟨l8', hx, lx, dx, _, _, q, X, U, vc, vl, rfl, hLP, hRX, hRU, rfl⟩ := hF
     have ovc : vc.oneCell' = true := hRX.rdn.elim fun _ h => h.2.one
     have ovl : vl.oneCell' = true := hRU.rdn.elim fun _ h => h.2.one
     have lcur := Hp.le_trans l7 l8
     refine Qa (An 10 35 (by kernel_rfl) rfl (by assumption) rfl (As rfl rfl) (An 11 46 (by kernel_rfl) rfl (by assumption) rfl (AC rfl rfl rfl) (An 12 47 (by kernel_rfl) rfl (by assumption) rfl (AC rfl rfl rfl) (A2 [13, 14] (by kernel_rfl) rfl ?_))))
     refine Az rfl ?_ ?_
     ·refine BZ [.slice none 0 0] rfl Co rfl rfl (fun g7 => Qa (Qo 14 rfl (BZ [.slice none 0 0] rfl Co rfl rfl (fun g8 => Qa (Qo 15 rfl (AK 1 0 rfl Co rfl rfl (by assumption) rfl rfl (by decide) rfl rfl (Qa (Qo 16 rfl (AK 0 0 rfl Co rfl rfl (by assumption) rfl rfl (by decide) rfl rfl (Qa (Qe ?_)))))))))))
      exact AA _ ⟨q, X, U, vc, vl, g7, g8, hx, rfl, lcur, rfl, lx, dx, hLP, hRX, hRU⟩ Qs
     refine Az rfl ?_ ?_
     ·refine BZ [.slice none 0 0] rfl Co rfl rfl (fun g8 => Qa (Qo 13 rfl (BZ [.slice none 0 0] rfl Co rfl rfl (fun g7 => Qa (Qo 15 rfl (AK 0 0 rfl Co rfl rfl (by assumption) rfl rfl (by decide) rfl rfl (Qa (Qo 16 rfl (AK 1 0 rfl Co rfl rfl (by assumption) rfl rfl (by decide) rfl rfl (Qa (Qe ?_)))))))))))
      exact A9 (AA _ ⟨q, X, U, vc, vl, g7, g8, hx, rfl, lcur, rfl, lx, dx, hLP, hRX, hRU⟩ Qs)
     exact A3
    refine Az rfl ?_ ?_
    ·refine BZ [.slice none 0 0] rfl Co rfl rfl (fun g7 => Qa (A2 [9, 14] (by kernel_rfl) rfl ?_))
     refine Az rfl ?_ ?_
     ·refine Qc call108 rfl (Cz (Hp.le_trans lm (Hp.le_trans l5 l7)) (Ci Z.p (Z.d k) (Z.d (k + 1)) (Z.mat k) (fun a j => (S0 (al.getD j 0)).v k a) ev ec _ RA RL d0 d1 hIL (hA0.up (Hp.le_minus (Hp.le_trans l24 (Hp.le_trans l5 l7)) dM)) (hOc.rdh (Hp.le_minus lc hdc)))) (fun x8 h8 ms8 l8 hF => ?_)
      obtain ⟨l8', hx, lx, dx, _, _, q, X, U, vc, vl, rfl, hLP, hRX, hRU, rfl⟩ := hF
      have ovc : vc.oneCell' = true := hRX.rdn.elim fun _ h => h.2.one
      have ovl : vl.oneCell' = true := hRU.rdn.elim fun _ h => h.2.one
      have lcur := Hp.le_trans l7 l8
      refine Qa (An 10 35 (by kernel_rfl) rfl (by assumption) rfl (As rfl rfl) (An 11 46 (by kernel_rfl) rfl (by assumption) rfl (AC rfl rfl rfl) (An 12 47 (by kernel_rfl) rfl (by assumption) rfl (AC rfl rfl rfl) (Qo 14 rfl (BZ [.slice none 0 0] rfl Co rfl rfl (fun g8 => Qa (Qo 15 rfl (AK 1 0 rfl Co rfl rfl (by assumption) rfl rfl (by decide) rfl rfl (Qa (Qo 16 rfl (AK 0 0 rfl Co rfl rfl (by assumption) rfl rfl (by decide) rfl rfl (Qa (Qe ?_)))))))))))))
      exact AA _ ⟨q, X, U, vc, vl, g7, g8, hx, rfl, lcur, rfl, lx, dx, hLP, hRX, hRU⟩ Qs
     refine Az rfl ?_ ?_
     ·refine BZ [.slice none 0 0] rfl Co rfl rfl (fun g8 => Qa (Qo 9 rfl (Qc call108 rfl (Cz (Hp.le_trans lm (Hp.le_trans l5 l7)) (Ci Z.p (Z.d k) (Z.d (k + 1)) (Z.mat k) (fun a j => (S0 (al.getD j 0)).v k a) ev ec _ RA RL d0 d1 hIL (hA0.up (Hp.le_minus (Hp.le_trans l24 (Hp.le_trans l5 l7)) dM)) (hOc.rdh (Hp.le_minus lc hdc)))) (fun x8 h8 ms8 l8 hF => ?_))))
      obtain ⟨l8', hx, lx, dx, _, _, q, X, U, vc, vl, rfl, hLP, hRX, hRU, rfl⟩ := hF
      have ovc : vc.oneCell' = true := hRX.rdn.elim fun _ h => h.2.one
      have ovl : vl.oneCell' = true := hRU.rdn.elim fun _ h => h.2.one
      have lcur := Hp.le_trans l7 l8
      refine Qa (An 10 35 (by kernel_rfl) rfl (by assumption) rfl (As rfl rfl) (An 11 46 (by kernel_rfl) rfl (by assumption) rfl (AC rfl rfl rfl) (An 12 47 (by kernel_rfl) rfl (by assumption) rfl (AC rfl rfl rfl) (Qo 15 rfl (AK 1 0 rfl Co rfl rfl (by assumption) rfl rfl (by decide) rfl rfl (Qa (Qo 16 rfl (AK 0 0 rfl Co rfl rfl (by assumption) rfl rfl (by decide) rfl rfl (Qa (Qe ?_))))))))))
      exact AA _ ⟨q, X, U, vc, vl, g7, g8, hx, rfl, lcur, rfl, lx, dx, hLP, hRX, hRU⟩ Qs
     exact A3
    refine Az rfl ?_ ?_
    ·refine BZ [.slice none 0 0] rfl Co rfl rfl (fun g8 => Qa (A2 [9, 13] (by kernel_rfl) rfl ?_))
     refine Az rfl ?_ ?_
     ·refine Qc call108 rfl (Cz (Hp.le_trans lm (Hp.le_trans l5 l7)) (Ci Z.p (Z.d k) (Z.d (k + 1)) (Z.mat k) (fun a j => (S0 (al.getD j 0)).v k a) ev ec _ RA RL d0 d1 hIL (hA0.up (Hp.le_minus (Hp.le_trans l24 (Hp.le_trans l5 l7)) dM)) (hOc.rdh (Hp.le_minus lc hdc)))) (fun x8 h8 ms8 l8 hF => ?_)
      obtain ⟨l8', hx, lx, dx, _, _, q, X, U, vc, vl, rfl, hLP, hRX, hRU, rfl⟩ := hF
      have ovc : vc.oneCell' = true := hRX.rdn.elim fun _ h => h.2.one
      have ovl : vl.oneCell' = true := hRU.rdn.elim fun _ h => h.2.one
      have lcur := Hp.le_trans l7 l8
      refine Qa (An 10 35 (by kernel_rfl) rfl (by assumption) rfl (As rfl rfl) (An 11 46 (by kernel_rfl) rfl (by assumption) rfl (AC rfl rfl rfl) (An 12 47 (by kernel_rfl) rfl (by assumption) rfl (AC rfl rfl rfl) (Qo 13 rfl (BZ [.slice none 0 0] rfl Co rfl rfl (fun g7 => Qa (Qo 15 rfl (AK 0 0 rfl Co rfl rfl (by assumption) rfl rfl (by decide) rfl rfl (Qa (Qo 16 rfl (AK 1 0 rfl Co rfl rfl (by assumption) rfl rfl (by decide) rfl rfl (Qa (Qe ?_)))))))))))))
      exact A9 (AA _ ⟨q, X, U, vc, vl, g7, g8, hx, rfl, lcur, rfl, lx, dx, hLP, hRX, hRU⟩ Qs)
     refine Az rfl ?_ ?_
     ·refine BZ [.slice none 0 0] rfl Co rfl rfl (fun g7 => Qa (Qo 9 rfl (Qc call108 rfl (Cz (Hp.le_trans lm (Hp.le_trans l5 l7)) (Ci Z.p (Z.d k) (Z.d (k + 1)) (Z.mat k) (fun a j => (S0 (al.getD j 0)).v k a) ev ec _ RA RL d0 d1 hIL (hA0.up (Hp.le_minus (Hp.le_trans l24 (Hp.le_trans l5 l7)) dM)) (hOc.rdh (Hp.le_minus lc hdc)))) (fun x8 h8 ms8 l8 hF => ?_))))
      obtain ⟨l8', hx, lx, dx, _, _, q, X, U, vc, vl, rfl, hLP, hRX, hRU, rfl⟩ := hF
      have ovc : vc.oneCell' = true := hRX.rdn.elim fun _ h => h.2.one
      have ovl : vl.oneCell' = true := hRU.rdn.elim fun _ h => h.2.one
      have lcur := Hp.le_trans l7 l8
      refine Qa (An 10 35 (by kernel_rfl) rfl (by assumption) rfl (As rfl rfl) (An 11 46 (by kernel_rfl) rfl (by assumption) rfl (AC rfl rfl rfl) (An 12 47 (by kernel_rfl) rfl (by assumption) rfl (AC rfl rfl rfl) (Qo 15 rfl (AK 0 0 rfl Co rfl rfl (by assumption) rfl rfl (by decide) rfl rfl (Qa (Qo 16 rfl (AK 1 0 rfl Co rfl rfl (by assumption) rfl rfl (by decide) rfl rfl (Qa (Qe ?_))))))))))
      exact A9 (AA _ ⟨q, X, U, vc, vl, g7, g8, hx, rfl, lcur, rfl, lx, dx, hLP, hRX, hRU⟩ Qs)
     exact A3
    exact A3
   refine Az rfl ?_ ?_
   ·refine BZ [.slice none 0 0] rfl Co rfl rfl (fun g7 => Qw (A2 [8, 14] (by kernel_rfl) rfl ?_))
    refine Az rfl ?_ ?_
    ·refine Qc call97 rfl (Bi Z.p (Z.d k) (Z.d k) (fun i => (S0 (al.getD i 0)).v k) v4 _ RA.i64 RA.rl RA.rl hRV') (fun x6 h6 ms6 l6 hF => ?_)
     obtain ⟨rfl, ec, mc, rfl, rfl, hOc⟩ := hF
     refine EB fun h7 l7 lc dc _ => ?_
     have hdc := Hp.disj_symm (Hp.disj_le dc (Hp.le_trans lm l5))
     refine Qa (A2 [9, 14] (by kernel_rfl) rfl ?_)
     refine Az rfl ?_ ?_
     ·refine Qc call108 rfl (Cz (Hp.le_trans lm (Hp.le_trans l5 l7)) (Ci Z.p (Z.d k) (Z.d (k + 1)) (Z.mat k) (fun a j => (S0 (al.getD j 0)).v k a) ev ec _ RA RL d0 d1 hIL (hA0.up (Hp.le_minus (Hp.le_trans l24 (Hp.le_trans l5 l7)) dM)) (hOc.rdh (Hp.le_minus lc hdc)))) (fun x8 h8 ms8 l8 hF => ?_)
      obtain ⟨l8', hx, lx, dx, _, _, q, X, U, vc, vl, rfl, hLP, hRX, hRU, rfl⟩ := hF
      have ovc : vc.oneCell' = true := hRX.rdn.elim fun _ h => h.2.one
      have ovl : vl.oneCell' = true := hRU.rdn.elim fun _ h => h.2.one
      have lcur := Hp.le_trans l7 l8
      refine Qa (An 10 35 (by kernel_rfl) rfl (by assumption) rfl (As rfl rfl) (An 11 46 (by kernel_rfl) rfl (by assumption) rfl (AC rfl rfl rfl) (An 12 47 (by kernel_rfl) rfl (by assumption) rfl (AC rfl rfl rfl) (Qo 14 rfl (BZ [.slice none 0 0] rfl Co rfl rfl (fun g8 => Qa (Qo 15 rfl (AK 1 0 rfl Co rfl rfl (by assumption) rfl rfl (by decide) rfl rfl (Qa (Qo 16 rfl (AK 0 0 rfl Co rfl rfl (by assumption) rfl rfl (by decide) rfl rfl (Qa (Qe ?_)))))))))))))
      exact AA _ ⟨q, X, U, vc, vl, g7, g8, hx, rfl, lcur, rfl, lx, dx, hLP, hRX, hRU⟩ Qs
     refine Az rfl ?_ ?_
     ·refine BZ [.slice none 0 0] rfl Co rfl rfl (fun g8 => Qa (Qo 9 rfl (Qc call108 rfl (Cz (Hp.le_trans lm (Hp.le_trans l5 l7)) (Ci Z.p (Z.d k) (Z.d (k + 1)) (Z.mat k) (fun a j => (S0 (al.getD j 0)).v k a) ev ec _ RA RL d0 d1 hIL (hA0.up (Hp.le_minus (Hp.le_trans l24 (Hp.le_trans l5 l7)) dM)) (hOc.rdh (Hp.le_minus lc hdc)))) (fun x8 h8 ms8 l8 hF => ?_))))
      obtain ⟨l8', hx, lx, dx, _, _, q, X, U, vc, vl, rfl, hLP, hRX, hRU, rfl⟩ := hF
      have ovc : vc.oneCell' = true := hRX.rdn.elim fun _ h => h.2.one
      have ovl : vl.oneCell' = true := hRU.rdn.elim fun _ h => h.2.one
      have lcur := Hp.le_trans l7 l8
      refine Qa (An 10 35 (by kernel_rfl) rfl (by assumption) rfl (As rfl rfl) (An 11 46 (by kernel_rfl) rfl (by assumption) rfl (AC rfl rfl rfl) (An 12 47 (by kernel_rfl) rfl (by assumption) rfl (AC rfl rfl rfl) (Qo 15 rfl (AK 1 0 rfl Co rfl rfl (by assumption) rfl rfl (by decide) rfl rfl (Qa (Qo 16 rfl (AK 0 0 rfl Co rfl rfl (by assumption) rfl rfl (by decide) rfl rfl (Qa (Qe ?_))))))))))
      exact AA _ ⟨q, X, U, vc, vl, g7, g8, hx, rfl, lcur, rfl, lx, dx, hLP, hRX, hRU⟩ Qs
     exact A3
    refine Az rfl ?_ ?_
    ·refine BZ [.slice none 0 0] rfl Co rfl rfl (fun g8 => Qw (Qo 8 rfl (Qc call97 rfl (Bi Z.p (Z.d k) (Z.d k) (fun i => (S0 (al.getD i 0)).v k) v4 _ RA.i64 RA.rl RA.rl hRV') (fun x6 h6 ms6 l6 hF => ?_))))
     obtain ⟨rfl, ec, mc, rfl, rfl, hOc⟩ := hF
     refine EB fun h7 l7 lc dc _ => ?_
     have hdc := Hp.disj_symm (Hp.disj_le dc (Hp.le_trans lm l5))
     refine Qa (Qo 9 rfl (Qc call108 rfl (Cz (Hp.le_trans lm (Hp.le_trans l5 l7)) (Ci Z.p (Z.d k) (Z.d (k + 1)) (Z.mat k) (fun a j => (S0 (al.getD j 0)).v k a) ev ec _ RA RL d0 d1 hIL (hA0.up (Hp.le_minus (Hp.le_trans l24 (Hp.le_trans l5 l7)) dM)) (hOc.rdh (Hp.le_minus lc hdc)))) (fun x8 h8 ms8 l8 hF => ?_)))
     obtain ⟨l8', hx, lx, dx, _, _, q, X, U, vc, vl, rfl, hLP, hRX, hRU, rfl⟩ := hF
     have ovc : vc.oneCell' = true := hRX.rdn.elim fun _ h => h.2.one
     have ovl : vl.oneCell' = true := hRU.rdn.elim fun _ h => h.2.one
     have lcur := Hp.le_trans l7 l8
     refine Qa (An 10 35 (by kernel_rfl) rfl (by assumption) rfl (As rfl rfl) (An 11 46 (by kernel_rfl) rfl (by assumption) rfl (AC rfl rfl rfl) (An 12 47 (by kernel_rfl) rfl (by assumption) rfl (AC rfl rfl rfl) (Qo 15 rfl (AK 1 0 rfl Co rfl rfl (by assumption) rfl rfl (by decide) rfl rfl (Qa (Qo 16 rfl (AK 0 0 rfl Co rfl rfl (by assumption) rfl rfl (by decide) rfl rfl (Qa (Qe ?_))))))))))
     exact AA _ ⟨q, X, U, vc, vl, g7, g8, hx, rfl, lcur, rfl, lx, dx, hLP, hRX, hRU⟩ Qs
    exact A3
   refine Az rfl ?_ ?_
   ·refine BZ [.slice none 0 0] rfl Co rfl rfl (fun g8 => Qw (A2 [8, 13] (by kernel_rfl) rfl ?_))
    refine Az rfl ?_ ?_
    ·refine Qc call97 rfl (Bi Z.p (Z.d k) (Z.d k) (fun i => (S0 (al.getD i 0)).v k) v4 _ RA.i64 RA.rl RA.rl hRV') (fun x6 h6 ms6 l6 hF => ?_)
     obtain ⟨rfl, ec, mc, rfl, rfl, hOc⟩ := hF
     refine EB fun h7 l7 lc dc _ => ?_
     have hdc := Hp.disj_symm (Hp.disj_le dc (Hp.le_trans lm l5))
     refine Qa (A2 [9, 13] (by kernel_rfl) rfl ?_)
     refine Az rfl ?_ ?_
     ·refine Qc call108 rfl (Cz (Hp.le_trans lm (Hp.le_trans l5 l7)) (Ci Z.p (Z.d k) (Z.d (k + 1)) (Z.mat k) (fun a j => (S0 (al.getD j 0)).v k a) ev ec _ RA RL d0 d1 hIL (hA0.up (Hp.le_minus (Hp.le_trans l24 (Hp.le_trans l5 l7)) dM)) (hOc.rdh (Hp.le_minus lc hdc)))) (fun x8 h8 ms8 l8 hF => ?_)
      obtain ⟨l8', hx, lx, dx, _, _, q, X, U, vc, vl, rfl, hLP, hRX, hRU, rfl⟩ := hF
      have ovc : vc.oneCell' = true := hRX.rdn.elim fun _ h => h.2.one
      have ovl : vl.oneCell' = true := hRU.rdn.elim fun _ h => h.2.one
      have lcur := Hp.le_trans l7 l8
      refine Qa (An 10 35 (by kernel_rfl) rfl (by assumption) rfl (As rfl rfl) (An 11 46 (by kernel_rfl) rfl (by assumption) rfl (AC rfl rfl rfl) (An 12 47 (by kernel_rfl) rfl (by assumption) rfl (AC rfl rfl rfl) (Qo 13 rfl (BZ [.slice none 0 0] rfl Co rfl rfl (fun g7 => Qa (Qo 15 rfl (AK 0 0 rfl Co rfl rfl (by assumption) rfl rfl (by decide) rfl rfl (Qa (Qo 16 rfl (AK 1 0 rfl Co rfl rfl (by assumption) rfl rfl (by decide) rfl rfl (Qa (Qe ?_)))))))))))))
      exact A9 (AA _ ⟨q, X, U, vc, vl, g7, g8, hx, rfl, lcur, rfl, lx, dx, hLP, hRX, hRU⟩ Qs)
     refine Az rfl ?_ ?_
     ·refine BZ [.slice none 0 0] rfl Co rfl rfl (fun g7 => Qa (Qo 9 rfl (Qc call108 rfl (Cz (Hp.le_trans lm (Hp.le_trans l5 l7)) (Ci Z.p (Z.d k) (Z.d (k + 1)) (Z.mat k) (fun a j => (S0 (al.getD j 0)).v k a) ev ec _ RA RL d0 d1 hIL (hA0.up (Hp.le_minus (Hp.le_trans l24 (Hp.le_trans l5 l7)) dM)) (hOc.rdh (Hp.le_minus lc hdc)))) (fun x8 h8 ms8 l8 hF => ?_))))
      obtain ⟨l8', hx, lx, dx, _, _, q, X, U, vc, vl, rfl, hLP, hRX, hRU, rfl⟩ := hF
      have ovc : vc.oneCell' = true := hRX.rdn.elim fun _ h => h.2.one
      have ovl : vl.oneCell' = true := hRU.rdn.elim fun _ h => h.2.one
      have lcur := Hp.le_trans l7 l8
      refine Qa (An 10 35 (by kernel_rfl) rfl (by assumption) rfl (As rfl rfl) (An 11 46 (by kernel_rfl) rfl (by assumption) rfl (AC rfl rfl rfl) (An 12 47 (by kernel_rfl) rfl (by assumption) rfl (AC rfl rfl rfl) (Qo 15 rfl (AK 0 0 rfl Co rfl rfl (by assumption) rfl rfl (by decide) rfl rfl (Qa (Qo 16 rfl (AK 1 0 rfl Co rfl rfl (by assumption) rfl rfl (by decide) rfl rfl (Qa (Qe ?_))))))))))
      exact A9 (AA _ ⟨q, X, U, vc, vl, g7, g8, hx, rfl, lcur, rfl, lx, dx, hLP, hRX, hRU⟩ Qs)
     exact A3
    refine Az rfl ?_ ?_
    ·refine BZ [.slice none 0 0] rfl Co rfl rfl (fun g7 => Qw (Qo 8 rfl (Qc call97 rfl (Bi Z.p (Z.d k) (Z.d k) (fun i => (S0 (al.getD i 0)).v k) v4 _ RA.i64 RA.rl RA.rl hRV') (fun x6 h6 ms6 l6 hF => ?_))))
     obtain ⟨rfl, ec, mc, rfl, rfl, hOc⟩ := hF
     refine EB fun h7 l7 lc dc _ => ?_
     have hdc := Hp.disj_symm (Hp.disj_le dc (Hp.le_trans lm l5))
     refine Qa (Qo 9 rfl (Qc call108 rfl (Cz (Hp.le_trans lm (Hp.le_trans l5 l7)) (Ci Z.p (Z.d k) (Z.d (k + 1)) (Z.mat k) (fun a j => (S0 (al.getD j 0)).v k a) ev ec _ RA RL d0 d1 hIL (hA0.up (Hp.le_minus (Hp.le_trans l24 (Hp.le_trans l5 l7)) dM)) (hOc.rdh (Hp.le_minus lc hdc)))) (fun x8 h8 ms8 l8 hF => ?_)))
     obtain ⟨l8', hx, lx, dx, _, _, q, X, U, vc, vl, rfl, hLP, hRX, hRU, rfl⟩ := hF
     have ovc : vc.oneCell' = true := hRX.rdn.elim fun _ h => h.2.one
     have ovl : vl.oneCell' = true := hRU.rdn.elim fun _ h => h.2.one
     have lcur := Hp.le_trans l7 l8
     refine Qa (An 10 35 (by kernel_rfl) rfl (by assumption) rfl (As rfl rfl) (An 11 46 (by kernel_rfl) rfl (by assumption) rfl (AC rfl rfl rfl) (An 12 47 (by kernel_rfl) rfl (by assumption) rfl (AC rfl rfl rfl) (Qo 15 rfl (AK 0 0 rfl Co rfl rfl (by assumption) rfl rfl (by decide) rfl rfl (Qa (Qo 16 rfl (AK 1 0 rfl Co rfl rfl (by assumption) rfl rfl (by decide) rfl rfl (Qa (Qe ?_))))))))))
     exact A9 (AA _ ⟨q, X, U, vc, vl, g7, g8, hx, rfl, lcur, rfl, lx, dx, hLP, hRX, hRU⟩ Qs)
    exact A3
   exact A3
  ·obtain ⟨q, X, U, vc, vl, g7, g8, hx, rfl, l6, rfl, lx, dx, hLP, hRX, hRU⟩ := hI
   obtain ⟨top, htop⟩ := hLP.top
   have htl : ∀ t, t < q → top t < al.length := fun t ht => by rw [hal]; exact (htop t ht).1
   have hti : ∀ t t', t < q → t' < q → top t = top t' → t = t' := fun t t' h1 h2 h3 => NF htop t t' h1 h2 h3
   have hq : q ≤ al.length := Vz q _ top htl hti
   refine F6 LM (Hp.le_trans lm (Hp.le_trans l5 l6)) fun h6 q6 b6 => ?_
   have hRX := hRX.up (b6 _ lx dx)
   have hRU := hRU.up (b6 _ lx dx)
   have l26 := b6 _ (Hp.le_trans l24 (Hp.le_trans l5 l6)) dM
   refine Il hdj (Cu 2 rfl (AL fun h7 l7 hG8 => (Cu 2 rfl (AL fun h8 l8 hG7 => ?_))))
   have hG8 := hG8.le l8
   have l78 := Hp.le_trans l7 l8
   have hRX := hRX.up l78
   have hRU := hRU.up l78
   have l28 := Hp.le_trans l26 l78
   have hG2 := hG20.le l28
   have hG3 := hG30.le l28
   have hA := hA0.up l28
   have ha := ha0.up l28
   refine Ax (Gl (K := kI) (V := vB) (Ok := Dh) rfl rfl rfl rfl (fun gT mT0 OT0 => BZ [.map none] rfl Ul rfl rfl (fun g9 => ?_)))
   refine AK 0 0 rfl Ul rfl rfl (by rfl) rfl rfl (by decide) rfl rfl ?_
   refine Aq (AL fun h9 l9 hG9 => ?_)
   have hRX := hRX.up l9
   have hRU := hRU.up l9
   have l29 := Hp.le_trans l28 l9
   have hG2 := hG2.le l9
   have hG7 := hG7.le l9
   have hG8 := hG8.le l9
   have ha := ha.up l9
   refine Ac (Ax (Ql rfl underlying130 ((hG2.at0 rfl).any) (Qm rfl (Qf DL rfl (Ql rfl underlying106 (Cell.blk 2 (k := 2) rfl rfl) (Qc call109 rfl (MR va al.length _ h9 (DC ha)) (fun vf h10 ms10 l10 hF => ?_)))))))
   obtain ⟨rfl, gb, rfl, rfl⟩ := hF
   refine Aq (Ag (AL fun h10 l10 hGb => ?_))
   have hRX := hRX.up l10
   have hRU := hRU.up l10
   have l210 := Hp.le_trans l29 l10
   have hG2 := hG2.le l10
   have hG7 := hG7.le l10
   have hG8 := hG8.le l10
   have hG9 := hG9.le l10
   have ha := ha.up l10
   have hI := SN gb al.length va (al.map (A1 S0)) h10 hGb ha E8 (by omega)
   generalize hgb : AX gm 132 [.int .i64 Z.p, .int .i64 k, va, ve] = bg
   refine Fk (fun kk hh ms => JB Z k N S0 al q top U gT bg me (al.length - kk) ms) (fun kk s1 hh ms => ∃ (g10 : Nat) (ms0 : List Hp), s1 = [(2, .pointer (some ⟨g2, 0, none⟩)), (3, .pointer (some ⟨g3, 0, none⟩)), (7, .pointer (some ⟨g7, 0, none⟩)), (8, .pointer (some ⟨g8, 0, none⟩)), (9, .pointer (some ⟨g9, 0, none⟩)), (10, .pointer (some ⟨g10, 0, none⟩)), (11, A1 S0 (al.getD (al.length - 1 - kk) 0))] ∧ ms = AX g10 3 [.int .i64 ((al.length - 1 - kk : Nat) : Int)] :: ms0 ∧ JB Z k N S0 al q top U gT bg me (al.length - kk) ms0) rfl call134 hI (fun k => rfl) rfl ?_ ?_ ?_ ?_
   ·refine ⟨S0, mB, mT0, [], [], rfl, Bw.start M htl, ?_, OT0, fun i hi => ?_⟩
    ·rw [K3 htl (by omega)]; exact B
    ·rw [F8 M.nodup htl (by omega) hi]; rfl
   ·rintro w1 kk hh ms1 hkk lh hJ
    refine DW (BV (by kernel_rfl) (BZ [.int .i64 0] rfl A8 rfl rfl (fun g10 => ?_)))
    refine AK 0 0 rfl A8 rfl rfl (by rfl) rfl rfl (by decide) rfl rfl ?_
    refine Ak (CK (BV (by kernel_rfl) (Qm rfl (Ak ?_))))
    refine AA _ ⟨g10, ms1, rfl, ?_, hJ⟩ ⟨rfl, rfl, rfl, rfl, rfl, rfl, ?_, trivial⟩
    ·show AX g10 3 [.int .i64 ((al.length : Int) - 1 - kk)] :: ms1 = _
     rw [show ((al.length : Int) - 1 - kk) = ((al.length - 1 - kk : Nat) : Int) by omega]
    ·show some ((al.map (A1 S0)).getD (al.length - 1 - kk) undef) = some (A1 S0 (al.getD (al.length - 1 - kk) 0))
     rw [Qd (by omega)]
   ·rintro w1 kk s1 hh ms1 hkk lh ⟨g10, ms0, rfl, rfl, S, mB, mT, T, bs, rfl, W, B, OT, hT⟩
    obtain ⟨i, hi⟩ : ∃ i, i = al.length - 1 - kk := ⟨_, rfl⟩
    have e1 : al.length - kk = i + 1 := by omega
    have e2 : al.length - (kk + 1) = i := by omega
    have hil : i < al.length := by omega
    rw [← hi]
    rw [e1] at W B hT
    rw [e2]
    refine J5 fun h11 l11 lg10 _ _ => (Qu 2 rfl (J5 fun h12 l12 lG dG LG => ?_))
    have lh12 := Hp.le_trans lh (Hp.le_trans l11 l12)
    have hRX := hRX.up lh12
    have hRU := hRU.up lh12
    have hG2 := hG2.le lh12
    have hG7 := hG7.le lh12
    have hG8 := hG8.le lh12
    have hG9 := hG9.le lh12
    have ha := ha.up lh12
    have hG10 := Seg.ofLe (Hp.le_trans lg10 l12)
    have hA2 := Seg.all hG2
    have hA10 := Seg.all hG10
    have hAg := Seg.all (Seg.ofLe (h := h12) (by rw [hgb]; exact lG))
    refine EV (DW (BV (by kernel_rfl) (Ql rfl underlying62 ((hG7.at0 rfl).any) (Qx (CE rfl rfl rfl) rfl (Qx (AG rfl call110 rfl (Ds (OC q (Z.d k) X vc 111 [.pointer (some ⟨g10, 0, none⟩)] (fun t => Dm (Z.d k) (X t) i) h12 hRX (by omega) call111 fun t v ht hv ms => Te (Z.d k) i (X t) v g10 h12 (by omega) (by omega) hv hG10 ms) _)) rfl (Qm rfl (Ak (CK (DW (DW (BV (by kernel_rfl) (Qm rfl (Qm rfl (Ak (CK ?_)))))))))))))))
    refine Uf rfl (fun hneg => ?_) (fun hneg => ?_)
    ·have hno : ∀ t, t < q → top t ≠ i := fun t ht he => by
      rw [Nh htop ht (by omega) he] at hneg
      omega
     refine N2 (Aa (Af (E1 LG lG fun h13 l13 b13 => (CF (ms' := [mT, mB, bg, me]) ((List.Perm.swap mT bg [mB, me]).trans (List.Perm.cons mT (List.Perm.swap mB bg [me]))) ?_))))
     refine AA [] ⟨S, mB, mT, T, bs, rfl, W.skip hno, ?_, OT, fun j hj => ?_⟩ trivial
     ·rw [← Mo hno]; exact B
     ·rw [← Sx hno]; exact hT j hj
    ·obtain ⟨t, ht, hti'⟩ : ∃ t, t < q ∧ top t = i := Classical.byContradiction fun hno => hneg (by
      rw [UN htop (by omega) fun t ht he => hno ⟨t, ht, he⟩]; decide)
     rw [Nh htop ht (by omega) hti']
     refine Ny (CK ?_)
     have hsub := ha.sub_ (i := 0) (j := i) (by omega) (by rw [E8]; omega)
     rw [PR] at hsub
     have hsl : (al.take i).length = i := by rw [List.length_take]; omega
     have hsR : ∀ h', h12.le h' → Rd h' [] (Ch 1 va 0 i) 1 i (((al.take i).map (A1 S0)).flatMap cV) := fun h' l => by
      have := DC (hsub.up l)
      rwa [hsl] at this
     obtain ⟨vs, hvs, hRv, hRs⟩ := hRX
     have htv : t < vs.length := by omega
     have hRvn : Rd h12 [] vc 1 q (vs.flatMap cV) := by have := hRv.rd; rwa [hvs] at this
     have hRt := hRs t htv
     have hRtn : Rd h12 [] vs[t] 1 (Z.d k) ((vec (Z.d k) (X t)).flatMap cI) := by have := hRt.rd; rwa [AQ] at this
     obtain ⟨us, hus, hRw, hRus⟩ := hRU
     have htu : t < us.length := by omega
     have hRwn : Rd h12 [] vl 1 q (us.flatMap cV) := by have := hRw.rd; rwa [hus] at this
     have hsN : al.getD i 0 < N := M.lt (BF hil)
     refine DW (DW (KD (n := 8) (bs := [true, true, true, true, true, true, true, true]) [true, true, true, true, true, true, true, true] Cd (by kernel_rfl) (by kernel_rfl) rfl rfl (by kernel_rfl) (QL rfl underlying130 (hA2 0 _ rfl _) (Qq rfl (QF DL rfl (QL rfl underlying106 (hAg 2 _ rfl _) (QL rfl underlying3 (hA10 0 _ rfl _) (Qp rfl (EA (i) (DC ha).any rfl underlying106 Cf rfl rfl (by omega) (by omega)) (Qp rfl (AJ (hsR _ (Hp.le_refl _)).any rfl underlying106 rfl) (Qq rfl ?_))))))))))
     unfold CD
     simp only [List.cons_append, List.nil_append]
     refine Qe (CK (EV (Qu 1 rfl ?_)))
     refine Uc (fun n s hh ms => ∃ (j : Nat) (S' : Nat → SM) (mB : Hp), n = i - j ∧ s = [(2, .pointer (some ⟨g2, 0, none⟩)), (3, .pointer (some ⟨g3, 0, none⟩)), (7, .pointer (some ⟨g7, 0, none⟩)), (8, .pointer (some ⟨g8, 0, none⟩)), (9, .pointer (some ⟨g9, 0, none⟩)), (10, .pointer (some ⟨g10, 0, none⟩)), (11, A1 S0 (al.getD i 0)), (12, .int .i64 t), (66, Ch 1 va 0 i), (67, .int .i64 i), (68, .int .i64 j)] ∧ h12 = hh ∧ ms = [mB, mT, me] ∧ j ≤ i ∧ FwI Z k N S S' al (al.getD i 0) (fun j => Z.p - X t j) j ∧ BagS Z.d N (Cx al q top U k (i + 1) S') mB)
      (i - 0) _ ⟨0, S, mB, rfl, rfl, rfl, rfl, by omega, FwI.start W.val W.bd, B⟩ Qs ?_
     rintro n s hh2 ms' ⟨j, S', mB, rfl, rfl, rfl, rfl, hj, I, B⟩
     have hgi := DJ (U := U) (k := k) (S := S') (F8 M.nodup htl (Nat.lt_succ_self i) hil)
     have hki : (S' (al.getD i 0)).to = k := by rw [(I.same _).2.2, (W.same _).2.2]; exact M.live _ (BF hil)
     have hgs : A1 S0 (al.getD i 0) = .pointer (some ⟨(Cx al q top U k (i + 1) S' (al.getD i 0)).g, 0, none⟩) := by unfold A1; rw [hgi, (I.same _).1, (W.same _).1]
     refine DW (BV (by kernel_rfl) (Qm rfl (Ak (CK (DW ?_)))))
     refine Uf rfl (fun hltj => ?_) (fun hltj => ?_)
     ·have hji : j < i := Bx hltj
      have hjl : j < al.length := by omega
      have hcs : ∀ ms, Cell h12 ms ((Bl (Ch 1 va 0 i)).add (j * 1)) (A1 S0 (al.getD j 0)) := fun ms => by
       have := Em (hsub.any (ms := ms)) (i := j) (by omega)
       rwa [Ov hji] at this
      have hgj := DJ (U := U) (k := k) (S := S') (F8 M.nodup htl (show j < i + 1 by omega) hjl)
      have hgt : A1 S0 (al.getD j 0) = .pointer (some ⟨(Cx al q top U k (i + 1) S' (al.getD j 0)).g, 0, none⟩) := by unfold A1; rw [hgj, (I.same _).1, (W.same _).1]
      have htN : al.getD j 0 < N := M.lt (BF hjl)
      have hne : al.getD j 0 ≠ al.getD i 0 := fun he => by have := Ef M.nodup hjl hil he; omega
      have hkj : (S' (al.getD j 0)).to = k := by rw [(I.same _).2.2, (W.same _).2.2]; exact M.live _ (BF hjl)
      have hmay : (Dr N S).may Z (al.getD j 0) (al.getD i 0) := by
       have h1 := List.pairwise_iff_getElem.1 M.ord j i hjl hil hji
       have e1 : al[j] = al.getD j 0 := by simp [List.getD, hjl]
       have e2 : al[i] = al.getD i 0 := by simp [List.getD, hil]
       rw [e1, e2] at h1
       unfold Dc.may at h1 ⊢
       show (S (al.getD j 0)).fr = (S (al.getD i 0)).fr ∨ ((S (al.getD i 0)).fr < (S (al.getD j 0)).fr ∧ Z.back ((S (al.getD j 0)).fr - 1) = true) ∨ ((S (al.getD j 0)).fr < (S (al.getD i 0)).fr ∧ Z.back ((S (al.getD i 0)).fr - 1) = false)
       rw [(W.same (al.getD j 0)).2.1, (W.same (al.getD i 0)).2.1]
       exact h1
      have hxb := hLP.bdX t ht j (by omega)
      have hcx : ∀ ms, Cell h12 ms ((Bl vs[t]).add (j * 1)) (.int .i64 (X t j)) := fun ms => by
       exact (hRt.any (ms := ms)).ev (show j < Z.d k by omega)
      refine Ny (CK (DW (EV (DW (BV (by kernel_rfl) (Qm rfl (Qx (Ah _ (hsR _ (Hp.le_refl _)).any rfl underlying106 Cf rfl rfl rfl (by omega)) rfl (Ql rfl underlying108 (hcs _) (Qm rfl (Qm rfl (Ak (CK ?_))))))))))))
      rw [hgs, hgt]
      refine KD (n := 14) (bs := [true, true, true, true, true, true, true, true, true, true, true, true, true, false]) [true, true, true, true, true, true, true, true, true, true, true, true, true] Cd (by kernel_rfl) (by kernel_rfl) rfl rfl (by kernel_rfl) (Qq rfl (QL rfl underlying130 (hA2 0 _ rfl _) (Qq rfl (QF EY rfl (QL rfl underlying3 (hAg 0 _ rfl _) (QL rfl underlying62 ((hG7.at0 rfl).any) (Qq rfl (Qp rfl (Ah (t) hRvn.any rfl underlying62 BN rfl rfl (by omega) (by omega)) (QL rfl underlying24 (hRv.any.cell0 htv rfl) (Qq rfl (Qp rfl (Ah (j) hRtn.any rfl underlying24 A8 rfl rfl (by omega) (by omega)) (QL rfl underlying3 (hcx _) (Qq rfl ?_)))))))))))))
      unfold CD
      simp only [List.cons_append, List.nil_append]
      refine Qo 13 rfl ?_
      refine Bs (pre := [mB]) rfl call112 rfl (Nn Z.p (X t j) Z.d N (al.getD i 0) (al.getD j 0) (Cx al q top U k (i + 1) S') mB h12 hbp (by omega) (fun j => Nat.le_trans (hd j) (by omega)) hsN htN (Ne.symm hne) (by rw [hgi, hgj, hki, hkj]) (by rw [hgi, hki]; omega) (by rw [hgi]; exact I.bd _ hsN) (by rw [hgj]; exact I.bd _ htN) B) rfl rfl rfl rfl (fun x h16 ms16 l16 hF => ?_)
      obtain ⟨rfl, mB', rfl, B'⟩ := hF
      refine Qw (Qe (Aj (CK (BV (by kernel_rfl) (Qx (oA rfl) rfl (Qm rfl (Ak ?_)))))))
      rw [← hgs]
      refine Al (i - (j + 1)) _ (by omega) ⟨j + 1, adds Z.p (X t j) (al.getD i 0) (al.getD j 0) S', mB', rfl, rfl, rfl, rfl, by omega, ?_, ?_⟩ Qs
      ·have := I.step (by omega) hsN htN hne (by rw [(W.same _).2.2]; exact M.live _ (BF hil)) (by rw [(W.same _).2.2]; exact M.live _ (BF hjl)) hmay
       rwa [show Z.p - (Z.p - X t j) = X t j by omega] at this
      ·rw [← Mu (F8 M.nodup htl (Nat.lt_succ_self i) hil) (F8 M.nodup htl (show j < i + 1 by omega) hjl)]
       exact B'
     ·obtain rfl : j = i := by omega
      refine N2 (Aa (Aa (Af (CK ?_))))
      rw [hgs]
      refine DW (BV (by kernel_rfl) (Qm rfl (Ql rfl underlying62 ((hG8.at0 rfl).any) (Qm rfl (Qx (Ah (t) hRwn.any rfl underlying62 BN rfl rfl (by omega) (by omega)) rfl (Ql rfl underlying24 (hRw.any.cell0 htu rfl) ?_))))))
      refine Bs (pre := [mB]) rfl call113 rfl (KZ Z.d N (al.getD j 0) (Cx al q top U k (j + 1) S') (U t) us[t] mB h12 hsN (by rw [hgi, hki]; exact hRus t htu) (by rw [hgi, hki]; omega) (by rw [hgi]; omega) B) rfl rfl rfl rfl (fun x h16 ms16 l16 hF => ?_)
      obtain ⟨rfl, mB', rfl, B'⟩ := hF
      rw [PD M.nodup htl hti ht hti' hki] at B'
      refine Ak (CK (BV (by kernel_rfl) (Ql rfl underlying147 ((hG9.at0 rfl).any) (Ql rfl underlying3 (hA10 0 _ rfl _) ?_))))
      refine GN (z := undef) 1 (j : Int) true NE OT rfl rfl underlying147 rfl rfl rfl (by unfold Dh; omega) rfl rfl (fun mT' bs' OT' => ?_)
      refine Ak (Aj (E1 LG lG fun h13 l13 b13 => (CF (ms' := [mT', mB', bg, me]) ((List.Perm.swap mB' bg [mT', me]).trans ((List.Perm.cons mB' (List.Perm.swap mT' bg [me])).trans (List.Perm.swap mT' mB' [bg, me]))) ?_)))
      refine AA [] ⟨S', mB', mT', _, bs', rfl, ?_, B', OT', fun b hb => ?_⟩ trivial
      ·refine W.step M.nodup hil ht hti' htl hti ?_ (fun b h1 h2 => ?_) I fun a ha => ?_
       ·have := (htop t ht).2.1
        rwa [hti'] at this
       ·exact (htop t ht).2.2.1 b (by omega) (by omega)
       ·have := hLP.lift t ht a ha
        rwa [← hal] at this
      ·rw [F3]
       by_cases hbj : b = j
       ·subst hbj
        rw [if_pos rfl]
        exact (stB_iff.2 ⟨t, ht, by omega, by rw [hti']⟩).symm
       ·rw [if_neg (by omega), hT b hb]
        exact UD M.nodup htl hil hb hbj
   ·intro D hh ms1 lh hJ
    obtain ⟨S, mB, mT, T, bs, rfl, W, B, OT, hT⟩ := hJ
    rw [Nat.sub_self] at W B hT
    rw [← hgb] at *
    have l2h := Hp.le_trans l210 lh
    have hG2 := hG2.le lh
    have hG9 := hG9.le lh
    have ha := ha.up lh
    have hA := hA0.up l2h
    have hG3 := hG30.le l2h
    refine CF (ms' := [mB, AX gm 132 [.int .i64 Z.p, .int .i64 k, va, ve], me, mT, Mk D]) (List.perm_append_comm (l₁ := [mT]) (l₂ := [mB, AX gm 132 [.int .i64 Z.p, .int .i64 k, va, ve], me]) |>.append_right [Mk D]) (Aj (Ab (Ax (Ql rfl underlying130 ((hG2.at0 rfl).any) (Qm rfl (Qf F9 rfl (Ql rfl underlying3 (Cell.blk 1 (k := 1) rfl rfl) (Qx (oA rfl) rfl (Qm rfl (Qf F9 rfl ?_))))))))))
    refine AK 1 _ rfl A8 rfl rfl (by rfl) rfl rfl (by (simp; done)) rfl rfl ?_
    refine B3 (Qm rfl (B3 (Qx (oG rfl underlying42 AI (Seg.any hG3)) rfl (Qc call114 rfl (Oh Z.p (Z.d k) (Z.d (k + 1)) (Z.mat k) ev hh RA hA) (fun xk h11 ms11 l11 hF => ?_)))))
    obtain ⟨l11', F, pv, nb, hEch, hnb, xe, mk, rfl, rfl, hOk⟩ := hF
    have ox : xe.oneCell' = true := (hOk.rd (h := h) (ms := [mk]) (List.Mem.head _)).rd.one
    refine BZ [.int .i64 0, .int .i64 0, .int .i64 0, .slice none 0 0] rfl AI rfl rfl (fun g16 => ?_)
    refine Sa 0 [_, _, _, _] AI rfl (by simp [ox]) ?_
    refine Aq (AL fun h12 l12 hG16 => (Bg hOk fun h13 l13 hRk => ?_))
    have hK := T5 hbp.1 hEch.red hnb
    have hrk := hLP.rank F pv hEch
    have lh13 := Hp.le_trans l11 (Hp.le_trans l12 l13)
    have hG2 := hG2.le lh13
    have hG9 := hG9.le lh13
    have ha := ha.up lh13
    have hG16 := hG16.le l13
    have lh := Hp.le_trans l2h lh13
    refine BX (Cu 1 rfl (Cu 2 rfl (Di ?_)))
    have hA16 := Seg.all hG16
    generalize hu : Fy pv Z.p F (Z.d (k + 1)) = K at *
    generalize hSB : Cx al q top U k 0 S = SB at *
    have hSBg : ∀ l, (SB l).g = (S0 l).g := fun l => by rw [← hSB, (TN l).1, (W.same l).1]
    refine Bv (fun s hh ms' => ∃ (gb : Nat → Nat) (vst : Value) (mB mst : Hp), s = [(2, .pointer (some ⟨g2, 0, none⟩)), (9, .pointer (some ⟨g9, 0, none⟩)), (15, vst)] ∧ h13.le hh ∧ ms' = [mB, AX gm 132 [.int .i64 Z.p, .int .i64 ((k : Int) + 1), va, ve], mst, me, mT, Mk D] ∧ BagS Z.d (N + nb) (BY N k gb (fun s a => K a s) SB) mB ∧ OwnL cV 1 108 mst vst ((List.range' N nb).map (A1 (BY N k gb (fun s a => K a s) SB)))) ?_ (fun s h ms hI => ?_)
    ·refine Ac (Ad (Qf A0 rfl (Ql rfl underlying3 (hA16 2 _ rfl _) (Qm rfl (Aq (Ag ?_))))))
     have hnbl : nb ≤ 200 := by omega
     refine AD (fun n s hh ms' => ∃ (b : Nat) (gb : Nat → Nat) (vst : Value) (mB mst : Hp), n = nb - b ∧ s = [(2, .pointer (some ⟨g2, 0, none⟩)), (9, .pointer (some ⟨g9, 0, none⟩)), (15, vst), (16, .pointer (some ⟨g16, 0, none⟩)), (106, .int .i64 nb), (107, .int .i64 b)] ∧ h13.le hh ∧ ms' = [mB, AX gm 132 [.int .i64 Z.p, .int .i64 ((k : Int) + 1), va, ve], mst, me, mT, Mk D] ∧ b ≤ nb ∧ BagS Z.d (N + b) (BY N k gb (fun s a => K a s) SB) mB ∧ OwnL cV 1 108 mst vst ((List.range' N b).map (A1 (BY N k gb (fun s a => K a s) SB))))
      (nb - 0) _ ⟨0, fun _ => 0, _, mB, _, rfl, rfl, Hp.le_refl _, rfl, by omega, ?_, OwnL.nil BK⟩ Qs ?_
     ·exact B.mono fun l hl x O => by rw [ET hl]; exact O
     rintro n s hh2 ms' ⟨b, gb, vst, mB, mst, rfl, rfl, lb, rfl, hb2, B, hst⟩
     refine Ax (Qm rfl (Aq (Ac ?_)))
     refine AF rfl (fun hltb => ?_) (fun hltb => ?_)
     ·have hbl : b < nb := Bx hltb
      refine Ai (Ab (Ac (Ag (Ax (Qm rfl (Qm rfl (Aq (Di (CV fun h14 l14 lM2 dM2 LM2 => ?_)))))))))
      have hG2 := hG2.le (Hp.le_trans lb l14)
      have hG16 := hG16.le (Hp.le_trans lb l14)
      have hRk := hRk.up (Hp.le_trans lb l14)
      have hstl2 : ((List.range' N b).map (A1 (BY N k gb (fun s a => K a s) SB))).length ≤ 1000 := by simp; omega
      refine AW (n := 9) (bs := [true, true, true, true, false, false, false, false, false]) [true, true, true, true] Cd (by kernel_rfl) (by kernel_rfl) rfl rfl (Qq rfl (QL rfl underlying130 ((hG2.at0 rfl).any) (Qp rfl (oG rfl underlying42 AI (Seg.any hG16)) (Qq rfl ?_))))
      unfold CD
      simp only [List.cons_append, List.nil_append]
      refine Qo 4 rfl (Qc call89 rfl (Eb Z.p (Z.d (k + 1)) nb K xe b h14 (by omega) (by omega) hbl hRk) (fun v h15 ms15 l15 hF => ?_))
      obtain ⟨rfl, mv, rfl, hOv⟩ := hF
      refine AH hOv fun h15 l15 hRv => ?_
      have ov := hRv.rd.one
      refine Qa (Qo 5 rfl (Qc call88 rfl (Hm Z.d gm (k + 1) (fun a => K a b) v _ _ _ h15 (Seg.ofLe (Hp.le_trans lM2 l15)) hRv (by omega)) (fun x h16 ms16 l16 hF => ?_)))
      obtain ⟨rfl, g, m, rfl, rfl, hS⟩ := hF
      refine Qa (Qo 6 rfl ?_)
      refine AB [_] rfl underlying106 Cf rfl (by rfl) rfl rfl (by omega) rfl rfl rfl (fun g116 => ?_)
      refine Qa (Qo 7 rfl ?_)
      refine Ba 3 hst (RdL.one BK (List.Mem.head _) rfl) rfl underlying106 Cf rfl (by omega) rfl rfl rfl (Cj rfl) (by simp only [List.length_singleton]; omega) (by simp only [List.length_singleton]; omega) rfl rfl rfl (fun vst2 mst2 hst2 => ?_)
      refine Qa (Qo 8 rfl (Qm rfl (Qa (Qe (A5 (E1 LM2 (Hp.le_trans lM2 l15) fun h17 q17 b17 => (Ck fun hap => ?_)))))))
      have hdj2 : mB.disj m := by
       have h1 := (List.pairwise_cons.1 hap).2
       exact Hp.disj_symm ((List.pairwise_cons.1 h1).1 _ (by simp))
      refine Db 1 rfl (Db 2 rfl (Cq (Aj (Ab (Ad (Qx (oA rfl) rfl (Qm rfl (Ak ?_))))))))
      refine Al (nb - (b + 1)) _ (by omega) ⟨b + 1, Ja gb (N + b) g, vst2, mB.join m, mst2, rfl, rfl, Hp.le_trans lb (b17 _ (Hp.le_trans l14 l15) dM2), rfl, by omega, ?_, ?_⟩ Qs
      ·refine Bag.snoc (N := N + b) (B.mono fun l hl x O => ?_) ?_ hdj2
       ·rw [Ew (by omega)]; exact O
       ·rw [Dx (Nat.le_add_right N b)]
        show StO Z.d (if N + b = N + b then g else gb (N + b)) (k + 1) (k + 1) (fun _ a => K a (N + b - N)) m
        rw [if_pos rfl, Nat.add_sub_cancel_left]
        exact hS
      ·have e1 : (List.range' N (b + 1)).map (A1 (BY N k (Ja gb (N + b) g) (fun s a => K a s) SB)) = (List.range' N b).map (A1 (BY N k gb (fun s a => K a s) SB)) ++ [.pointer (some ⟨g, 0, none⟩)] := by
        rw [List.range'_1_concat, List.map_append]
        congr 1
        ·refine List.map_congr_left fun l hl => ?_
         unfold A1
         rw [Ew]
         have := List.mem_range'_1.1 hl; omega
        ·show [A1 _ (N + b)] = _
         unfold A1
         rw [Dx (Nat.le_add_right N b)]
         show [Value.pointer (some ⟨(if N + b = N + b then g else gb (N + b)), 0, none⟩)] = _
         rw [if_pos rfl]
       rw [e1]
       exact hst2
     ·obtain rfl : b = nb := by omega
      refine Aw (Aa (Aa (Af ?_)))
      exact AA _ ⟨gb, vst, mB, mst, rfl, lb, rfl, B, hst⟩ Qs
    ·obtain ⟨gb, vst, mB, mst, rfl, lb, rfl, B, hst⟩ := hI
     have hG2 := hG2.le lb
     have hG9 := hG9.le lb
     have ha := ha.up lb
     have hptr : ∀ l, l < N → A1 (BY N k gb (fun s a => K a s) SB) l = A1 S0 l := fun l hl => by unfold A1; rw [ET hl, hSBg]
     generalize hSf : BY N k gb (fun s a => K a s) SB = Sf at *
     have hnbl : nb ≤ 200 := by omega
     have hall := List.Perm.length_eq M.perm
     rw [List.length_append, List.length_range] at hall
     refine Ac (Ax (Ql rfl underlying130 ((hG2.at0 rfl).any) (Qm rfl (Qf DL rfl (Ql rfl underlying106 (Cell.blk 1 (k := 2) rfl rfl) (Qx (AJ (DC ha).any rfl underlying106 rfl) rfl (Qm rfl (Aq (Ag ?_)))))))))
     refine AD (fun n s hh2 ms' => ∃ (i : Nat) (vst ve' : Value) (mst me' : Hp), n = al.length - i ∧ s = [(2, .pointer (some ⟨g2, 0, none⟩)), (9, .pointer (some ⟨g9, 0, none⟩)), (15, vst), (122, va), (123, .int .i64 al.length), (124, .int .i64 i)] ∧ h = hh2 ∧ ms' = [mB, AX gm 132 [.int .i64 Z.p, .int .i64 ((k : Int) + 1), va, ve'], mst, me', mT, Mk D] ∧ i ≤ al.length ∧ OwnL cV 1 108 mst vst ((List.range' N nb ++ (al.take i).filter (EL al q top 0)).map (A1 Sf)) ∧ OwnL cV 1 108 me' ve' ((en ++ (al.take i).filter fun l => !EL al q top 0 l).map (A1 S0)))
      (al.length - 0) _ ⟨0, vst, ve, mst, me, rfl, rfl, rfl, rfl, by omega, by simpa using hst, by simpa using hE⟩ Qs ?_
     rintro n s hh2 ms' ⟨i, vst, ve', mst, me', rfl, rfl, rfl, rfl, hi, hst, hE⟩
     refine Ax (Qm rfl (Aq (Ac ?_)))
     refine AF rfl (fun hlt => ?_) (fun hlt => ?_)
     ·have hil : i < al.length := Bx hlt
      have hiN : al.getD i 0 < N := M.lt (BF hil)
      have hcs : ∀ ms, Cell h ms ((Bl va).add (i * 1)) (A1 S0 (al.getD i 0)) := fun ms => Em ha.any hil
      have hlf : ∀ f : Nat → Bool, ((al.take i).filter f).length ≤ al.length := fun f => Nat.le_trans (List.length_filter_le _ _) (by rw [List.length_take]; omega)
      have hl1 : ((List.range' N nb ++ (al.take i).filter (EL al q top 0)).map (A1 Sf)).length ≤ 400 := by
       have := hlf (EL al q top 0)
       simp only [List.length_map, List.length_append, List.length_range']
       omega
      have hl2 : ((en ++ (al.take i).filter fun l => !EL al q top 0 l).map (A1 S0)).length ≤ 200000 := by
       have := hlf fun l => !EL al q top 0 l
       simp only [List.length_map, List.length_append]
       omega
      refine Ai (Ab ?_)
      refine Bv (fun s hh ms' => ∃ (vst2 ve2 : Value) (mst2 me2 : Hp), s = [(2, .pointer (some ⟨g2, 0, none⟩)), (9, .pointer (some ⟨g9, 0, none⟩)), (15, vst2), (122, va), (123, .int .i64 al.length), (124, .int .i64 i)] ∧ h = hh ∧ ms' = [mB, AX gm 132 [.int .i64 Z.p, .int .i64 ((k : Int) + 1), va, ve2], mst2, me2, mT, Mk D] ∧ OwnL cV 1 108 mst2 vst2 ((List.range' N nb ++ (al.take (i + 1)).filter (EL al q top 0)).map (A1 Sf)) ∧ OwnL cV 1 108 me2 ve2 ((en ++ (al.take (i + 1)).filter fun l => !EL al q top 0 l).map (A1 S0))) ?_ (fun s h ms hI => ?_)
      ·refine Ag (Ax (Qm rfl (Qx (Ah _ (DC ha).any rfl underlying106 Cf rfl rfl rfl (by omega)) rfl (Ql rfl underlying108 (hcs _) (Qm rfl (Qm rfl (B3 (Ql rfl underlying147 ((hG9.at0 rfl).any) (Qm rfl ?_)))))))))
       refine Qx (Jr (V := vB) (z := false) (i : Int) NE OT (by simp) rfl underlying147 VJ rfl rfl (by unfold Dh; omega)) rfl ?_
       rw [hT i hil]
       refine Aq ?_
       refine BJ rfl (fun hsb => ?_) (fun hsb => ?_)
       ·refine Ad (Qm rfl (Qm rfl ?_))
        refine AB [_] rfl underlying106 Cf rfl (by rfl) rfl rfl (by omega) rfl rfl rfl (fun g134 => ?_)
        refine Ba 3 hst (RdL.one BK (List.Mem.head _) rfl) rfl underlying106 Cf rfl (by omega) rfl rfl rfl (Cj rfl) (by simp only [List.length_singleton]; omega) (by simp only [List.length_singleton]; omega) rfl rfl rfl (fun vst2 mst2 hst2 => ?_)
        refine Qm rfl (Ak (Aj (A5 ?_)))
        refine AA _ ⟨vst2, ve', mst2, me', rfl, rfl, rfl, ?_, ?_⟩ Qs
        ·rw [BU hil, List.filter_append, List.filter_cons_of_pos hsb, List.filter_nil, ← List.append_assoc, List.map_append]
         show OwnL _ _ _ _ _ (_ ++ [A1 Sf (al.getD i 0)])
         rw [hptr _ hiN]
         exact hst2
        ·rw [BU hil, List.filter_append, List.filter_cons_of_neg (by rw [hsb]; decide), List.filter_nil, List.append_nil]
         exact hE
       ·have hst3 : OwnL cV 1 108 mst vst ((List.range' N nb ++ (al.take (i + 1)).filter (EL al q top 0)).map (A1 Sf)) := by
         rw [BU hil, List.filter_append, List.filter_cons_of_neg (by rw [hsb]; decide), List.filter_nil, List.append_nil]
         exact hst
        have e3 : ((en ++ (al.take (i + 1)).filter fun l => !EL al q top 0 l).map (A1 S0)) = ((en ++ (al.take i).filter fun l => !EL al q top 0 l).map (A1 S0)) ++ [A1 S0 (al.getD i 0)] := by
         rw [BU hil, List.filter_append, List.filter_cons_of_pos (by rw [hsb]; rfl), List.filter_nil, ← List.append_assoc, List.map_append]
         rfl
        rw [e3]
        refine AW (n := 11) (bs := [true, true, true, true, false, true, false, false, true, true, false]) [true, true, true, true, false, true, false, false, true, true] Cd (by kernel_rfl) (by kernel_rfl) rfl rfl (QL rfl underlying130 ((hG2.at0 rfl).any) (QL rfl underlying130 ((hG2.at0 rfl).any) (Qq rfl (QF Hj rfl (Qq rfl (Qq rfl (QF Hj rfl ?_)))))))
        unfold CD
        simp only [List.cons_append, List.nil_append]
        refine A2 [4, 6] (by kernel_rfl) rfl ?_
        refine Az rfl ?_ ?_
        ·refine Ql rfl underlying106 (Cell.blk 1 (k := 3) rfl rfl) (Qw (Qo 6 rfl ?_))
         refine AB [_] rfl underlying106 Cf rfl (by rfl) rfl rfl (by omega) rfl rfl rfl (fun g142 => ?_)
         refine Qw (Qo 7 rfl ?_)
         refine Ba 4 hE (RdL.one BK (List.Mem.head _) rfl) rfl underlying106 Cf rfl (by omega) rfl rfl rfl (Cj rfl) (by simp only [List.length_singleton]; omega) (by simp only [List.length_singleton]; omega) rfl rfl rfl (fun ve2 me2 hE2 => ?_)
         have oe2 : ve2.oneCell' = true := (hE2.rd (h := h) (ms := [me2]) (List.Mem.head _)).rd.one
         refine Qw (Qo 10 rfl ?_)
         refine AK 2 _ rfl G2 rfl rfl (by assumption) rfl rfl (by (simp; done)) rfl rfl ?_
         refine Qw (Qe (Aj (A5 ?_)))
         exact AA _ ⟨vst, ve2, mst, me2, rfl, rfl, rfl, hst3, hE2⟩ Qs
        refine Az rfl ?_ ?_
        ·refine AB [_] rfl underlying106 Cf rfl (by rfl) rfl rfl (by omega) rfl rfl rfl (fun g142 => ?_)
         refine Qw (Qo 4 rfl (Ql rfl underlying106 (Cell.blk 2 (k := 3) rfl rfl) (Qw (Qo 7 rfl ?_))))
         refine Ba 4 hE (RdL.one BK (List.Mem.head _) rfl) rfl underlying106 Cf rfl (by omega) rfl rfl rfl (Cj rfl) (by simp only [List.length_singleton]; omega) (by simp only [List.length_singleton]; omega) rfl rfl rfl (fun ve2 me2 hE2 => ?_)
         have oe2 : ve2.oneCell' = true := (hE2.rd (h := h) (ms := [me2]) (List.Mem.head _)).rd.one
         refine Qw (Qo 10 rfl ?_)
         refine AK 2 _ rfl G2 rfl rfl (by assumption) rfl rfl (by (simp; done)) rfl rfl ?_
         refine Qw (Qe (Aj (A5 ?_)))
         exact AA _ ⟨vst, ve2, mst, me2, rfl, rfl, rfl, hst3, hE2⟩ Qs
        exact A3
      ·obtain ⟨vst2, ve2, mst2, me2, rfl, rfl, rfl, hst2, hE2⟩ := hI
       refine Ad (Qx (oA rfl) rfl (Qm rfl (Ak ?_)))
       exact Al (al.length - (i + 1)) _ (by omega) ⟨i + 1, vst2, ve2, mst2, me2, rfl, rfl, rfl, rfl, by omega, hst2, hE2⟩ Qs
     ·obtain rfl : i = al.length := by omega
      have ost : vst.oneCell' = true := (hst.rd (h := h) (ms := [mst]) (List.Mem.head _)).rd.one
      refine Aw (Aa (Aa (Af (Ab (Ad (Ql rfl underlying130 ((hG2.at0 rfl).any) (Qm rfl (Qm rfl (Qf DL rfl ?_)))))))))
      refine AK 1 _ rfl G2 rfl rfl (by assumption) rfl rfl (by (simp; done)) rfl rfl ?_
      refine Ak ?_
      rw [List.take_length] at hst hE
      refine Db 2 rfl (CW hst fun h9 l9 hRst => (Db 3 rfl (A5 (In 3 (.inl rfl) rfl ?_))))
      have Mn := Bw.done (gb := gb) hFp hbp.1 M W hb htl hti hK (by omega) hLP.bdU
      rw [hSB, hSf] at Mn
      have e1 : (en ++ al.filter fun l => !EL al q top 0 l).map (A1 Sf) = (en ++ al.filter fun l => !EL al q top 0 l).map (A1 S0) := List.map_congr_left fun l hl => by
       have hlN : l < N := by
        rcases List.mem_append.1 hl with h1 | h1
        ·exact List.mem_range.1 (M.perm.mem_iff.1 (List.mem_append_left _ h1))
        ·exact M.lt (List.mem_filter.1 h1).1
       exact hptr l hlN
      exact B6 rfl (⟨Hp.le_trans l02 (Hp.le_trans lh (Hp.le_trans lb l9)), nb, Sf, _, _, vst, ve', me', mB, rfl, hnbl, hRst, by rw [e1]; exact hE, B, Mn⟩)
end Go.Proofs.YtdnelknieikbaaaGreat
namespace Go.Proofs.YtdnelknieikbaaaGreat
open Go.Proofs.Tryz
open Go.Eng Go.RowKit Go.Lin
variable {k : Nat}
def Zz.zg (Z : Zz) : Zg where
 p := Z.p
 n := Z.dims.length
 d k := (Z.dim k).toNat
 back k := match Z.ars[k]? with | some a => a.b | none => false
 mat k := match Z.ars[k]? with | some a => VE a.M.cols.toNat a.M.e | none => fun _ _ => 0
theorem Zz.dim_lt {Z : Zz} (hR : Z.Rt) (k : Nat) : 0 ≤ Z.dim k ∧ Z.dim k ≤ 200 := by
 unfold Zz.dim
 rcases Nat.lt_or_ge k Z.dims.length with h | h
 ·have e : Z.dims.getD k 0 = Z.dims[k] := by simp [List.getD, h]
  rw [e]
  exact hR.2.2.2.2.1 _ (List.getElem_mem h)
 ·have e : Z.dims.getD k 0 = 0 := by simp [List.getD, h]
  rw [e]; omega
theorem Zz.zg_d {Z : Zz} (hR : Z.Rt) (k : Nat) : (Z.zg.d k : Int) = Z.dim k := by
 show ((Z.dim k).toNat : Int) = _
 have := Z.dim_lt hR k
 omega
theorem Zz.d_le {Z : Zz} (hR : Z.Rt) (k : Nat) : Z.zg.d k ≤ 200 := by
 have := Z.zg_d hR k
 have := Z.dim_lt hR k
 omega
theorem Zz.nars {Z : Zz} (hR : Z.Rt) : Z.ars.length + 1 = Z.dims.length := by
 have h1 := hR.2.2.1
 have h2 := hR.1
 omega
theorem Zz.zg_back {Z : Zz} (hk : k < Z.ars.length) : Z.zg.back k = Z.ars[k].b := by
 show (match Z.ars[k]? with | some a => a.b | none => false) = _
 rw [List.getElem?_eq_getElem hk]
theorem Zz.zg_mat {Z : Zz} (hk : k < Z.ars.length) : Z.zg.mat k = VE Z.ars[k].M.cols.toNat Z.ars[k].M.e := by
 show (match Z.ars[k]? with | some a => VE a.M.cols.toNat a.M.e | none => fun _ _ => 0) = _
 rw [List.getElem?_eq_getElem hk]
theorem Zz.zg_src {Z : Zz} (hk : k < Z.ars.length) : Z.zg.src k = Z.ars[k].src k ∧ Z.zg.tgt k = Z.ars[k].tgt k := by
 unfold Zg.src Zg.tgt Ar.src Ar.tgt
 rw [Z.zg_back hk]
 exact ⟨rfl, rfl⟩
theorem Zz.arrow {Z : Zz} (hR : Z.Rt) (hk : k < Z.ars.length) : Z.ars[k].M.p = Z.p ∧ Z.ars[k].M.rows = Z.zg.d (Z.zg.tgt k) ∧ Z.ars[k].M.cols = Z.zg.d (Z.zg.src k) ∧ Z.ars[k].M.e = mat (Z.zg.d (Z.zg.tgt k)) (Z.zg.d (Z.zg.src k)) (Z.zg.mat k) ∧ RtM Z.p (Z.zg.d (Z.zg.tgt k)) (Z.zg.d (Z.zg.src k)) (Z.zg.mat k) := by
 obtain ⟨⟨h1, h2, h3, h4⟩, h5, h6, h7⟩ := hR.2.2.2.2.2 k hk
 obtain ⟨e1, e2⟩ := Z.zg_src hk
 have hd1 := Z.zg_d hR (Z.zg.tgt k)
 have hd2 := Z.zg_d hR (Z.zg.src k)
 have l1 := Z.d_le hR (Z.zg.tgt k)
 have l2 := Z.d_le hR (Z.zg.src k)
 rw [← e2, ← hd1] at h7
 rw [← e1, ← hd2] at h6
 have hl : Z.ars[k].M.e.length = Z.zg.d (Z.zg.tgt k) * Z.zg.d (Z.zg.src k) := by
  rw [h6, h7] at h3
  exact_mod_cast h3
 have hc : Z.ars[k].M.cols.toNat = Z.zg.d (Z.zg.src k) := by omega
 have hm : Z.ars[k].M.e = mat (Z.zg.d (Z.zg.tgt k)) (Z.zg.d (Z.zg.src k)) (Z.zg.mat k) := by
  rw [Z.zg_mat hk, hc]
  exact Ux hl
 refine ⟨h5, h7, h6, hm, ⟨h5 ▸ h1, by omega, by omega, fun i hi j hj => ?_⟩⟩
 have hlt := Cp hi hj
 have e : Z.zg.mat k i j = Z.ars[k].M.e[i * Z.zg.d (Z.zg.src k) + j] := by
  rw [Z.zg_mat hk, hc]
  unfold VE
  simp [List.getD, show i * Z.zg.d (Z.zg.src k) + j < Z.ars[k].M.e.length by omega]
 rw [e, ← h5]
 exact h4 _ (List.getElem_mem _)
def Cc (gb : Nat → Nat) (l : Nat) : SM := ⟨gb l, 0, 0, fun _ i => Dl i l⟩
theorem Tt (n : Nat) : cnt n tt = n := by
 induction n with
 | zero => rfl
 | succ n ih => rw [BO, ih]; rfl
theorem Pd {Z : Zg} (hp : 2 ≤ Z.p) (gb : Nat → Nat) : Mch Z 0 (Z.d 0) (Cc gb) (List.range (Z.d 0)) [] := by
 have hon : (Dr (Z.d 0) (Cc gb)).on 0 = tt := funext fun l => rfl
 refine ⟨⟨fun l hl => ⟨Nat.le_refl _, Nat.zero_lt_succ 0⟩, fun k hk => ?_, fun k hk => ?_, fun k hk => ?_⟩, by simp, fun _ _ => rfl, by simp, List.pairwise_of_forall fun _ _ => .inl rfl, fun l hl k h1 h2 i hi => ?_⟩
 ·have hk : k < 1 := hk
  obtain rfl : k = 0 := by omega
  rw [hon]
  exact Nw hp (Z.d 0)
 ·have hk : k < 1 := hk
  obtain rfl : k = 0 := by omega
  rw [hon]
  exact Tt _
 ·have hk : k + 1 < 1 := hk
  omega
 ·show 0 ≤ Dl i l ∧ Dl i l < Z.p
  unfold Dl
  split <;> omega
theorem Qy {S : Nat → SM} {L : List Nat} : ∀ a ∈ L.map (A1 S), ∀ c ∈ cV a, c.oneCell' = true := fun a ha c hc => by
 obtain ⟨l, _, rfl⟩ := List.mem_map.1 ha
 simp only [cV, List.mem_singleton] at hc
 subst hc
 rfl
theorem E9 (n : Nat) : List.range (n + 1) = List.range n ++ [n] := List.range_succ
theorem Dp {gb : Nat → Nat} {b g l : Nat} (h : l ≠ b) : Cc (Ja gb b g) l = Cc gb l := by
 unfold Cc Ja
 rw [if_neg h]
theorem Do {gb : Nat → Nat} {b g : Nat} : Cc (Ja gb b g) b = ⟨g, 0, 0, fun _ i => Dl i b⟩ := by
 unfold Cc Ja
 rw [if_pos rfl]
theorem Km (Z : Zz) (vd va : Value) (h : Hp) (hRt : Z.Rt) (hR : RdZ h vd va Z) :
  FnT Tryz.prog 57 #[.agg #[.int .i64 Z.p, vd, va]] h [] (fun r h' ms' => h.le h' ∧ ∃ (N : Nat) (S : Nat → SM) (L : List Nat) (me mB : Hp), ms' = [mB, me] ∧ N ≤ 20400 ∧ OwnL cV 1 108 me r (L.map (A1 S)) ∧ BagS Z.zg.d N S mB ∧ L.Perm (List.range N) ∧ Valid Z.zg (Dr N S) ∧ ∀ l, l < N → (S l).Bd Z.p Z.zg.d) := by
 have o1 := hR.d.rd.one
 have o2 := hR.a.rd.one
 have hp := hRt.2.2.2.1
 have hn1 := hRt.1
 have hn2 := hRt.2.1
 have hna := Z.nars hRt
 have hd := Z.d_le hRt
 have hbp := hp.1
 have hbp2 := hp.2.1
 refine Av func57 ntmps57 rfl rfl (fun w0 hw0 => ?_)
 simp only [A4]
 refine Ax ?_
 refine AS [_, _, _] rfl rfl (by rfl) rfl rfl rfl (fun g1 => ?_)
 refine Qm rfl (Aq (AL fun h1 l1 hG1 => ?_))
 have hR := hR.up l1
 have hA := Seg.all hG1
 have hc0 : ∀ ms, Cell h1 ms ((Bl vd).add (0 * 1)) (.int .i64 (Z.zg.d 0)) := fun ms => by
  rw [Z.zg_d hRt 0]
  exact H8 hR (by omega)
 refine Ax (Qf CG rfl (Ql rfl underlying3 ((hG1.at0 rfl).any) ?_))
 refine Qx (AT V2 [.int .i64 0, .int .i64 0, .slice none 0 0, .slice none 0 0] [(0, _)] [_, _, _, _] rfl V8 rfl rfl (by repeat (first | exact trivial | refine ⟨⟨rfl, rfl, rfl⟩, ?_⟩)) rfl) rfl ?_
 refine AS [_, _, _, _] rfl rfl (by rfl) rfl rfl rfl (fun g11 => ?_)
 refine Qm rfl (Aq ?_)
 refine Bv (fun s hh ms' => ∃ (g4 : Nat) (xe : Value) (mx : Hp), s = [(1, .pointer (some ⟨g1, 0, none⟩)), (3, .pointer (some ⟨g11, 0, none⟩)), (4, .pointer (some ⟨g4, 0, none⟩))] ∧ h1 = hh ∧ ms' = [AX g4 42 [.int .i64 Z.p, .int .i64 (Z.zg.d 0), .int .i64 (Z.zg.d 0), xe], mx, AX g11 132 [.int .i64 Z.p, .int .i64 0, .slice none 0 0, .slice none 0 0]] ∧ OwnL cI 1 3 mx xe (mat (Z.zg.d 0) (Z.zg.d 0) Dl)) ?_ (fun s h ms hI => ?_)
 ·refine AW (n := 9) (bs := [true, true, true, true, true, true, false, false, false]) [true, true, true, true, true, true] Cd (by kernel_rfl) (by kernel_rfl) rfl rfl (QF CG rfl (QL rfl underlying3 ((hG1.at0 rfl).any) (QF Bn rfl (QL rfl underlying24 (hA 1 _ rfl _) (Qp rfl (Ah 0 hR.d.rd.any rfl underlying24 A8 rfl rfl rfl (by omega)) (QL rfl underlying3 (hc0 _) ?_))))))
  unfold CD
  simp only [List.cons_append, List.nil_append]
  refine A2 [6, 7] (by kernel_rfl) rfl ?_
  refine Az rfl ?_ ?_
  ·refine Qc call87 rfl (J3 Z.p (Z.zg.d 0) h1 hp (Nat.le_trans (hd 0) (by omega))) (fun x7 h7 ms7 l7 hF => ?_)
   obtain ⟨rfl, xe, mx, rfl, rfl, hOx⟩ := hF
   have ox : xe.oneCell' = true := (hOx.rd (h := h) (ms := [mx]) (List.Mem.head _)).rd.one
   refine Qw (Qo 7 rfl (BZ [.int .i64 0, .int .i64 0, .int .i64 0, .slice none 0 0] rfl AI rfl rfl (fun g4 => Qw (Qo 8 rfl ?_))))
   refine Sa 0 [_, _, _, _] AI rfl (by simp [ox]) ?_
   refine Qw (Qe ?_)
   exact AA _ ⟨g4, xe, mx, rfl, rfl, rfl, hOx⟩ Qs
  refine Az rfl ?_ ?_
  ·refine BZ [.int .i64 0, .int .i64 0, .int .i64 0, .slice none 0 0] rfl AI rfl rfl (fun g4 => Qw (Qo 6 rfl (Qc call87 rfl (J3 Z.p (Z.zg.d 0) h1 hp (Nat.le_trans (hd 0) (by omega))) (fun x7 h7 ms7 l7 hF => ?_))))
   obtain ⟨rfl, xe, mx, rfl, rfl, hOx⟩ := hF
   have ox : xe.oneCell' = true := (hOx.rd (h := h) (ms := [mx]) (List.Mem.head _)).rd.one
   refine Qw (Qo 8 rfl ?_)
   refine Sa 1 [_, _, _, _] AI rfl (by simp [ox]) ?_
   refine Qw (Qe ?_)
   exact A9 (AA _ ⟨g4, xe, mx, rfl, rfl, rfl, hOx⟩ Qs)
  exact A3
 ·obtain ⟨g4, xe, mx, rfl, rfl, rfl, hOx⟩ := hI
  refine AL fun h2 l2 hG4 => (Bg hOx fun h3 l3 hRx => ?_)
  have hG4 := hG4.le l3
  have hA4 := Seg.all hG4
  have hR := hR.up (Hp.le_trans l2 l3)
  have hG1 := hG1.le (Hp.le_trans l2 l3)
  have hA := Seg.all hG1
  refine BX (BX (Cu 2 rfl (Ac (Ax (Qf A0 rfl (Ql rfl underlying3 (hA4 2 _ rfl _) (Qm rfl (Aq (Ag ?_)))))))))
  refine AD (fun q s hh ms' => ∃ (b : Nat) (gb : Nat → Nat) (va : Value) (mB ml : Hp), q = Z.zg.d 0 - b ∧ s = [(1, .pointer (some ⟨g1, 0, none⟩)), (3, .pointer (some ⟨g11, 0, none⟩)), (4, .pointer (some ⟨g4, 0, none⟩)), (20, .int .i64 (Z.zg.d 0)), (21, .int .i64 b)] ∧ h3.le hh ∧ ms' = [AX g11 132 [.int .i64 Z.p, .int .i64 0, va, .slice none 0 0], mB, ml] ∧ b ≤ Z.zg.d 0 ∧ BagS Z.zg.d b (Cc gb) mB ∧ OwnL cV 1 108 ml va ((List.range b).map (A1 (Cc gb))))
   (Z.zg.d 0 - 0) _ ⟨0, fun _ => 0, _, _, _, rfl, rfl, Hp.le_refl _, rfl, by omega, Bag.zero _, OwnL.nil BK⟩ Qs ?_
  rintro q s hh ms' ⟨b, gb, val, mB, ml, rfl, rfl, lb, rfl, hb, B, hO⟩
  have hd0 := hd 0
  refine Ax (Qm rfl (Aq (Ac ?_)))
  refine AF rfl (fun hlt => ?_) (fun hlt => ?_)
  ·have hbl : b < Z.zg.d 0 := Bx hlt
   have hRx := hRx.up lb
   have hA4 := Seg.all (hG4.le lb)
   have hG4 := hG4.le lb
   have hll : ((List.range b).map (A1 (Cc gb))).length ≤ 400 := by simp; omega
   refine Ai (Ab ?_)
   refine Bv (fun s hh ms' => ∃ (gb : Nat → Nat) (va : Value) (mB ml : Hp), s = [(1, .pointer (some ⟨g1, 0, none⟩)), (3, .pointer (some ⟨g11, 0, none⟩)), (4, .pointer (some ⟨g4, 0, none⟩)), (20, .int .i64 (Z.zg.d 0)), (21, .int .i64 b)] ∧ h3.le hh ∧ ms' = [AX g11 132 [.int .i64 Z.p, .int .i64 0, va, .slice none 0 0], mB, ml] ∧ BagS Z.zg.d (b + 1) (Cc gb) mB ∧ OwnL cV 1 108 ml va ((List.range (b + 1)).map (A1 (Cc gb)))) ?_ (fun s h ms hI => ?_)
   ·refine Ag (Ax (Qm rfl (Qm rfl (Aq (AW (n := 15) (bs := [true, true, true, true, false, true, true, true, false, false, false, false, true, true, false]) [true, true, true, true, false, true, true, true, false, false, false, false, true, true] Cd (by kernel_rfl) (by kernel_rfl) rfl rfl (Qq rfl (Qq rfl (Qq rfl (QF DL rfl (Qq rfl (Qp rfl (oG rfl underlying42 AI (Seg.any hG4)) (Qq rfl (Qq rfl (QF DL rfl ?_))))))))))))))
    unfold CD
    simp only [List.cons_append, List.nil_append]
    refine A2 [4, 8] (by kernel_rfl) rfl ?_
    refine Az rfl ?_ ?_
    ·refine Ql rfl underlying106 (Cell.blk 0 (k := 2) rfl rfl) (Qw (Qo 8 rfl (Qc call89 rfl (Eb Z.p (Z.zg.d 0) (Z.zg.d 0) Dl xe b hh (by omega) (by omega) hbl hRx) (fun v h7 ms7 l7 hF => ?_))))
     obtain ⟨rfl, mv, rfl, hOv⟩ := hF
     refine AH hOv fun h7 l7 hRv => ?_
     have ov := hRv.rd.one
     refine Qa (Qo 9 rfl (EB fun h8 l8 lM dM LM => (Qc call88 rfl (Hm Z.zg.d g11 0 (fun i => Dl i b) v _ _ _ h8 (Seg.ofLe lM) (hRv.up l8) (by omega)) (fun x h9 ms9 l9 hF => ?_))))
     obtain ⟨rfl, g, m, rfl, rfl, hS⟩ := hF
     refine Ig LM lM fun h9 q9 b9 => ?_
     have l9 := Hp.le_trans l7 (b9 _ l8 dM)
     refine Qa (Qo 10 rfl ?_)
     refine AB [_] rfl underlying106 Cf rfl (by rfl) rfl rfl (by omega) rfl rfl rfl (fun g34 => ?_)
     refine Qa (Qo 11 rfl ?_)
     refine Ba 4 hO (RdL.one BK (List.Mem.head _) rfl) rfl underlying106 Cf rfl (by omega) rfl rfl rfl (Cj rfl) (by simp only [List.length_singleton]; omega) (by simp only [List.length_singleton]; omega) rfl rfl rfl (fun vl2 ml2 hO2 => ?_)
     have ol2 : vl2.oneCell' = true := (hO2.rd (h := h) (ms := [ml2]) (List.Mem.head _)).rd.one
     refine Qa (Qo 14 rfl ?_)
     refine AK 1 _ rfl G2 rfl rfl (by assumption) rfl rfl (by (simp; done)) rfl rfl ?_
     refine Qa (Qe (Aj (A5 (Ck fun hap => ?_))))
     have hdj : mB.disj m := Hp.disj_symm ((List.pairwise_cons.1 (List.pairwise_cons.1 hap).2).1 _ (by simp))
     refine Db 1 rfl (Db 2 rfl ?_)
     refine Cq (A9 (AA _ ⟨Ja gb b g, vl2, mB.join m, ml2, rfl, Hp.le_trans lb l9, rfl, Bag.snoc (N := b) (B.mono fun l hl x O => by rw [Dp (by omega)]; exact O) (by rw [Do]; exact hS) hdj, ?_⟩ Qs))
     rw [E9, List.map_append, List.map_congr_left fun l hl => show A1 (Cc (Ja gb b g)) l = A1 (Cc gb) l by unfold A1; rw [Dp (by have := List.mem_range.1 hl; omega)]]
     have e1 : [b].map (A1 (Cc (Ja gb b g))) = [.pointer (some ⟨g, 0, none⟩)] := by show [A1 _ b] = _; unfold A1; rw [Do]
     rw [e1]
     exact hO2
    refine Az rfl ?_ ?_
    ·refine Qc call89 rfl (Eb Z.p (Z.zg.d 0) (Z.zg.d 0) Dl xe b hh (by omega) (by omega) hbl hRx) (fun v h7 ms7 l7 hF => ?_)
     obtain ⟨rfl, mv, rfl, hOv⟩ := hF
     refine AH hOv fun h7 l7 hRv => ?_
     have ov := hRv.rd.one
     refine Qa (A2 [4, 9] (by kernel_rfl) rfl ?_)
     refine Az rfl ?_ ?_
     ·refine Ql rfl underlying106 (Cell.blk 0 (k := 2) rfl rfl) (Qa (Qo 9 rfl (EB fun h8 l8 lM dM LM => (Qc call88 rfl (Hm Z.zg.d g11 0 (fun i => Dl i b) v _ _ _ h8 (Seg.ofLe lM) (hRv.up l8) (by omega)) (fun x h9 ms9 l9 hF => ?_)))))
      obtain ⟨rfl, g, m, rfl, rfl, hS⟩ := hF
      refine Ig LM lM fun h9 q9 b9 => ?_
      have l9 := Hp.le_trans l7 (b9 _ l8 dM)
      refine Qa (Qo 10 rfl ?_)
      refine AB [_] rfl underlying106 Cf rfl (by rfl) rfl rfl (by omega) rfl rfl rfl (fun g34 => ?_)
      refine Qa (Qo 11 rfl ?_)
      refine Ba 4 hO (RdL.one BK (List.Mem.head _) rfl) rfl underlying106 Cf rfl (by omega) rfl rfl rfl (Cj rfl) (by simp only [List.length_singleton]; omega) (by simp only [List.length_singleton]; omega) rfl rfl rfl (fun vl2 ml2 hO2 => ?_)
      have ol2 : vl2.oneCell' = true := (hO2.rd (h := h) (ms := [ml2]) (List.Mem.head _)).rd.one
      refine Qa (Qo 14 rfl ?_)
      refine AK 1 _ rfl G2 rfl rfl (by assumption) rfl rfl (by (simp; done)) rfl rfl ?_
      refine Qa (Qe (Aj (A5 (Ck fun hap => ?_))))
      have hdj : mB.disj m := Hp.disj_symm ((List.pairwise_cons.1 (List.pairwise_cons.1 hap).2).1 _ (by simp))
      refine Db 1 rfl (Db 2 rfl ?_)
      refine Cq (A9 (AA _ ⟨Ja gb b g, vl2, mB.join m, ml2, rfl, Hp.le_trans lb l9, rfl, Bag.snoc (N := b) (B.mono fun l hl x O => by rw [Dp (by omega)]; exact O) (by rw [Do]; exact hS) hdj, ?_⟩ Qs))
      rw [E9, List.map_append, List.map_congr_left fun l hl => show A1 (Cc (Ja gb b g)) l = A1 (Cc gb) l by unfold A1; rw [Dp (by have := List.mem_range.1 hl; omega)]]
      have e1 : [b].map (A1 (Cc (Ja gb b g))) = [.pointer (some ⟨g, 0, none⟩)] := by show [A1 _ b] = _; unfold A1; rw [Do]
      rw [e1]
      exact hO2
     refine Az rfl ?_ ?_
     ·refine EB fun h8 l8 lM dM LM => (Qc call88 rfl (Hm Z.zg.d g11 0 (fun i => Dl i b) v _ _ _ h8 (Seg.ofLe lM) (hRv.up l8) (by omega)) (fun x h9 ms9 l9 hF => ?_))
      obtain ⟨rfl, g, m, rfl, rfl, hS⟩ := hF
      refine Ig LM lM fun h9 q9 b9 => ?_
      have l9 := Hp.le_trans l7 (b9 _ l8 dM)
      refine Qa (A2 [4, 10] (by kernel_rfl) rfl ?_)
      refine Az rfl ?_ ?_
      ·refine Ql rfl underlying106 (Cell.blk 0 (k := 2) rfl rfl) (Qa (Qo 10 rfl ?_))
       refine AB [_] rfl underlying106 Cf rfl (by rfl) rfl rfl (by omega) rfl rfl rfl (fun g34 => ?_)
       refine Qa (Qo 11 rfl ?_)
       refine Ba 4 hO (RdL.one BK (List.Mem.head _) rfl) rfl underlying106 Cf rfl (by omega) rfl rfl rfl (Cj rfl) (by simp only [List.length_singleton]; omega) (by simp only [List.length_singleton]; omega) rfl rfl rfl (fun vl2 ml2 hO2 => ?_)
       have ol2 : vl2.oneCell' = true := (hO2.rd (h := h) (ms := [ml2]) (List.Mem.head _)).rd.one
       refine Qa (Qo 14 rfl ?_)
       refine AK 1 _ rfl G2 rfl rfl (by assumption) rfl rfl (by (simp; done)) rfl rfl ?_
       refine Qa (Qe (Aj (A5 (Ck fun hap => ?_))))
       have hdj : mB.disj m := Hp.disj_symm ((List.pairwise_cons.1 (List.pairwise_cons.1 hap).2).1 _ (by simp))
       refine Db 1 rfl (Db 2 rfl ?_)
       refine Cq (A9 (AA _ ⟨Ja gb b g, vl2, mB.join m, ml2, rfl, Hp.le_trans lb l9, rfl, Bag.snoc (N := b) (B.mono fun l hl x O => by rw [Dp (by omega)]; exact O) (by rw [Do]; exact hS) hdj, ?_⟩ Qs))
       rw [E9, List.map_append, List.map_congr_left fun l hl => show A1 (Cc (Ja gb b g)) l = A1 (Cc gb) l by unfold A1; rw [Dp (by have := List.mem_range.1 hl; omega)]]
       have e1 : [b].map (A1 (Cc (Ja gb b g))) = [.pointer (some ⟨g, 0, none⟩)] := by show [A1 _ b] = _; unfold A1; rw [Do]
       rw [e1]
       exact hO2
      refine Az rfl ?_ ?_
      ·refine AB [_] rfl underlying106 Cf rfl (by rfl) rfl rfl (by omega) rfl rfl rfl (fun g34 => ?_)
       refine Qa (Qo 4 rfl (Ql rfl underlying106 (Cell.blk 1 (k := 2) rfl rfl) (Qa (Qo 11 rfl ?_))))
       refine Ba 4 hO (RdL.one BK (List.Mem.head _) rfl) rfl underlying106 Cf rfl (by omega) rfl rfl rfl (Cj rfl) (by simp only [List.length_singleton]; omega) (by simp only [List.length_singleton]; omega) rfl rfl rfl (fun vl2 ml2 hO2 => ?_)
       have ol2 : vl2.oneCell' = true := (hO2.rd (h := h) (ms := [ml2]) (List.Mem.head _)).rd.one
       refine Qa (Qo 14 rfl ?_)
       refine AK 1 _ rfl G2 rfl rfl (by assumption) rfl rfl (by (simp; done)) rfl rfl ?_
       refine Qa (Qe (Aj (A5 (Ck fun hap => ?_))))
       have hdj : mB.disj m := Hp.disj_symm ((List.pairwise_cons.1 (List.pairwise_cons.1 hap).2).1 _ (by simp))
       refine Db 1 rfl (Db 2 rfl ?_)
       refine Cq (A9 (AA _ ⟨Ja gb b g, vl2, mB.join m, ml2, rfl, Hp.le_trans lb l9, rfl, Bag.snoc (N := b) (B.mono fun l hl x O => by rw [Dp (by omega)]; exact O) (by rw [Do]; exact hS) hdj, ?_⟩ Qs))
       rw [E9, List.map_append, List.map_congr_left fun l hl => show A1 (Cc (Ja gb b g)) l = A1 (Cc gb) l by unfold A1; rw [Dp (by have := List.mem_range.1 hl; omega)]]
       have e1 : [b].map (A1 (Cc (Ja gb b g))) = [.pointer (some ⟨g, 0, none⟩)] := by show [A1 _ b] = _; unfold A1; rw [Do]
       rw [e1]
       exact hO2
      exact A3
     exact A3
    exact A3
   ·obtain ⟨gb, va, mB, ml, rfl, lb, rfl, B, hO⟩ := hI
    refine Ad (Qx (oA rfl) rfl (Qm rfl (Ak ?_)))
    exact Al (Z.zg.d 0 - (b + 1)) _ (by omega) ⟨b + 1, gb, va, mB, ml, rfl, rfl, lb, rfl, by omega, B, hO⟩ Qs
  ·obtain rfl : b = Z.zg.d 0 := by omega
   have hR := hR.up lb
   have hG1 := hG1.le lb
   have hAb := Seg.all hG1
   refine Aw (Aa (Aa (Af (Ab (Cu 2 rfl (Bg hO fun h4 l4 hRal => (Di (BX (Cu 1 rfl (Cu 2 rfl (Di ?_)))))))))))
   have hR := hR.up l4
   have hG1 := hG1.le l4
   have hAb := Seg.all hG1
   refine Ac (Ax (Qf BQ rfl (Ql rfl underlying28 (hAb 2 _ rfl _) (Qx (AJ hR.a.rd.any rfl underlying28 rfl) rfl (Qm rfl (Aq (Ag ?_)))))))
   refine AD (fun q s hh ms' => ∃ (k N : Nat) (S : Nat → SM) (al en : List Nat) (val ve : Value) (mB me : Hp), q = Z.ars.length - k ∧ s = [(3, .pointer (some ⟨g11, 0, none⟩)), (40, va), (41, .int .i64 Z.ars.length), (42, .int .i64 k)] ∧ h4.le hh ∧ ms' = [mB, AX g11 132 [.int .i64 Z.p, .int .i64 k, val, ve], me] ∧ k ≤ Z.ars.length ∧ N ≤ 200 * (k + 1) ∧ RdL cV 1 hh [] val (al.map (A1 S)) ∧ OwnL cV 1 108 me ve (en.map (A1 S)) ∧ BagS Z.zg.d N S mB ∧ Mch Z.zg k N S al en)
    (Z.ars.length - 0) _ ⟨0, Z.zg.d 0, Cc gb, List.range (Z.zg.d 0), [], _, _, mB, _, rfl, rfl, Hp.le_refl _, rfl, by omega, by omega, hRal, OwnL.nil BK, B, Pd hbp gb⟩ Qs ?_
   rintro q s hh ms' ⟨k, N, S, al, en, val, ve, mB, me, rfl, rfl, lk, rfl, hk, hN, hal, hen, B, M⟩
   have hR := hR.up lk
   refine Ax (Qm rfl (Aq (Ac ?_)))
   refine AF rfl (fun hlt => ?_) (fun hlt => ?_)
   ·have hk' : k < Z.ars.length := Bx hlt
    obtain ⟨e1, e2, e3, e4, RA⟩ := Z.arrow hRt hk'
    have hRe := hR.e _ (List.getElem_mem hk')
    have oa := hRe.rd.one
    have hbk := Z.zg_back hk'
    refine Ai (Ab ?_)
    refine Bv (fun s hh2 ms' => ∃ (N : Nat) (S : Nat → SM) (al en : List Nat) (val ve : Value) (mB me : Hp), s = [(3, .pointer (some ⟨g11, 0, none⟩)), (40, va), (41, .int .i64 Z.ars.length), (42, .int .i64 k)] ∧ hh.le hh2 ∧ ms' = [mB, AX g11 132 [.int .i64 Z.p, .int .i64 ((k : Int) + 1), val, ve], me] ∧ N ≤ 200 * (k + 2) ∧ RdL cV 1 hh2 [] val (al.map (A1 S)) ∧ OwnL cV 1 108 me ve (en.map (A1 S)) ∧ BagS Z.zg.d N S mB ∧ Mch Z.zg (k + 1) N S al en) ?_ (fun s h ms hI => ?_)
    ·refine Ag (Ax (Qx (Ah _ hR.a.rd.any rfl underlying28 Cr rfl rfl rfl (by omega)) rfl (Qx (oG rfl underlying45 Cr (hR.a.any.seg hk')) rfl (BZ [.bool false, .int .i64 0, .int .i64 0, .int .i64 0, .slice none 0 0] rfl Cr rfl rfl (fun g7 => ?_)))))
     refine Sa 0 [_, _, _, _, _] Cr rfl (by simp [oa]) ?_
     refine Aq (AL fun h5 l5 hG7 => ?_)
     have hA7 := Seg.all hG7
     have hal := hal.up l5
     have hRe := hRe.up l5
     rw [e4] at hRe
     have hS7 : ∀ ms, Seg h5 ms ((⟨g7, 0, none⟩ : Addr).add 1) [.int .i64 Z.p, .int .i64 (Z.zg.d (Z.zg.tgt k)), .int .i64 (Z.zg.d (Z.zg.src k)), Z.ars[k].v] := fun ms i u hu => by
      rw [A6]
      rw [← e1, ← e2, ← e3] at hu
      exact hA7 (1 + i) u (by rw [Nat.add_comm]; exact hu) ms
     have hval := hal.rd.one
     refine Ax (Qf EK rfl (Ql rfl underlying4 (hA7 0 _ rfl _) (Aq ?_)))
     refine BJ rfl (fun hb => ?_) (fun hb => ?_)
     ·have ht : Z.zg.tgt k = k := by unfold Zg.tgt; rw [hbk, hb]; rfl
      have hs : Z.zg.src k = k + 1 := by unfold Zg.src; rw [hbk, hb]; rfl
      rw [ht, hs] at hS7 hRe RA
      refine Ad (Qm rfl (Qf Ca rfl (Qx (oG rfl underlying42 AI (hS7 _)) rfl (Bs (pre := [mB, AX g11 132 [.int .i64 Z.p, .int .i64 k, val, ve], me]) rfl call90 rfl (LK Z.zg k N S al en g11 val ve Z.ars[k].v me mB h5 hp hd (by omega) (by omega) M (hbk.trans hb) RA hRe hal hen B) rfl rfl rfl rfl (fun x h6 ms6 l6 hF => ?_)))))
      obtain ⟨l6', nb, S', al', en', val', ve', me', mB', rfl, hnb, hal', hen', B', M'⟩ := hF
      refine Ak (Aj ?_)
      exact AA _ ⟨N + nb, S', al', en', val', ve', mB', me', rfl, Hp.le_trans l5 l6, rfl, by omega, hal', hen', B', M'⟩ Qs
     ·have ht : Z.zg.tgt k = k + 1 := by unfold Zg.tgt; rw [hbk, hb]; rfl
      have hs : Z.zg.src k = k := by unfold Zg.src; rw [hbk, hb]; rfl
      rw [ht, hs] at hS7 hRe RA
      refine Ad (Qm rfl (Qf Ca rfl (Qx (oG rfl underlying42 AI (hS7 _)) rfl (Bs (pre := [mB, AX g11 132 [.int .i64 Z.p, .int .i64 k, val, ve], me]) rfl call91 rfl (Mt Z.zg k N S al en g11 val ve Z.ars[k].v me mB h5 hp hd (by omega) (by omega) M (hbk.trans hb) RA hRe hal hen B) rfl rfl rfl rfl (fun x h6 ms6 l6 hF => ?_)))))
      obtain ⟨l6', nb, S', al', en', val', ve', me', mB', rfl, hnb, hal', hen', B', M'⟩ := hF
      refine Ak (Aj ?_)
      exact AA _ ⟨N + nb, S', al', en', val', ve', mB', me', rfl, Hp.le_trans l5 l6, rfl, by omega, hal', hen', B', M'⟩ Qs
    ·obtain ⟨N', S', al', en', val', ve', mB', me', rfl, l6, rfl, hN', hal', hen', B', M'⟩ := hI
     refine Ad (Qx (oA rfl) rfl (Qm rfl (Ak ?_)))
     exact Al (Z.ars.length - (k + 1)) _ (by omega) ⟨k + 1, N', S', al', en', val', ve', mB', me', rfl, rfl, Hp.le_trans lk l6, rfl, by omega, by omega, hal', hen', B', M'⟩ Qs
   ·obtain rfl : k = Z.ars.length := by omega
    refine Aw (Aa (Aa (Af (Ab (Cu 1 rfl (AL fun h5 l5 hGm => ?_))))))
    have hAm := Seg.all hGm
    have hal := hal.up l5
    have hperm := M.perm
    have hlen := hperm.length_eq
    rw [List.length_append, List.length_range] at hlen
    have oal := hal.rd.one
    have oen : ve.oneCell' = true := (hen.rd (h := h) (ms := [me]) (List.Mem.head _)).rd.one
    refine Bv (fun s hh ms' => ∃ (ve2 : Value) (me2 : Hp), s = [(2, ve2)] ∧ h5 = hh ∧ ms' = [mB, me2] ∧ OwnL cV 1 108 me2 ve2 (en.map (A1 S) ++ al.map (A1 S))) ?_ (fun s h ms hI => ?_)
    ·refine AW (n := 10) (bs := [true, true, true, true, true, true, true, true, false, false]) [true, true, true, true, true, true, true, true] Cd (by kernel_rfl) (by kernel_rfl) rfl rfl (Qq rfl (Qq rfl (QF Hj rfl (QL rfl underlying106 (hAm 3 _ rfl _) (Qq rfl (Qq rfl (QF DL rfl (QL rfl underlying106 (hAm 2 _ rfl _) ?_))))))))
     unfold CD
     simp only [List.cons_append, List.nil_append]
     refine Qo 8 rfl ?_
     refine Ba 1 hen hal.any rfl underlying106 Cf rfl (by omega) rfl rfl rfl Qy (by simp only [List.length_map]; omega) (by simp only [List.length_map]; omega) rfl rfl rfl (fun ve2 me2 hen2 => ?_)
     refine Qw (Qo 9 rfl (Qm rfl (Qw (Qe ?_))))
     exact AA _ ⟨ve2, me2, rfl, rfl, rfl, hen2⟩ Qs
    ·obtain ⟨ve2, me2, rfl, rfl, rfl, hen2⟩ := hI
     rw [← List.map_append] at hen2
     have e : Z.zg.tr Z.ars.length = Z.zg := by
      show ({ Z.zg with n := Z.ars.length + 1 } : Zg) = Z.zg
      rw [hna]; rfl
     have hV := M.val
     rw [e] at hV
     refine Ao ?_
     exact Am rfl rfl (⟨Hp.le_trans l1 (Hp.le_trans (Hp.le_trans l2 l3) (Hp.le_trans lb (Hp.le_trans l4 (Hp.le_trans lk l5)))), N, S, en ++ al, me2, mB, rfl, by omega, hen2, B, hperm, hV, M.bd⟩)
end Go.Proofs.YtdnelknieikbaaaGreat
namespace Go.Proofs.YtdnelknieikbaaaGreat
open Go.Proofs.Tryz
open Go.Eng Go.RowKit Go.Lin
def c3 (x y : Int) : Int := if x < y then -1 else if y < x then 1 else 0
def D3 (a b : Int × Int) : Int := if c3 a.1 b.1 ≠ 0 then c3 a.1 b.1 else c3 a.2 b.2
theorem Cm (a b : Int × Int) : D3 a b < 0 ↔ a.1 < b.1 ∨ (a.1 = b.1 ∧ a.2 < b.2) := by
 unfold D3 c3
 repeat' split
 all_goals omega
theorem Oa (x : Int) (h : Hp) (ms : List Hp) : Dq Tryz.prog 105 #[.int .i64 x] h ms (.bool false) := by
 refine Ds ?_ ms
 refine Av func105 ntmps105 rfl rfl (fun w0 hw0 => ?_)
 simp only [A4]
 refine Ax (Qm rfl (B3 (Qm rfl (Qm rfl (Qm rfl (Qm rfl (Aq (Ao ?_))))))))
 exact Am rfl rfl (by simp)
theorem JF (x y : Int) (h : Hp) (ms : List Hp) : Dq Tryz.prog 79 #[.int .i64 x, .int .i64 y] h ms (.int .i64 (c3 x y)) := by
 refine Ds ?_ ms
 refine Av func79 ntmps79 rfl rfl (fun w0 hw0 => ?_)
 simp only [A4]
 refine Ax (Qm rfl (B3 (Qm rfl (Qx (AG rfl call105 rfl (Oa _ _ _)) rfl (Qm rfl (B3 (Qm rfl (Qx (AG rfl call105 rfl (Oa _ _ _)) rfl (Qm rfl (Aq (Ac (Ax (Qm rfl (Aq (Bb rfl (Ai (Ab (Ac (Ax (Qm rfl (Aq (Bb rfl (Ai (Ab (Ac (Ax (Qm rfl (Qm rfl (Qm rfl (Aq ?_))))))))))))))))))))))))))))))
 refine AF rfl (fun h1 => ?_) (fun h1 => ?_)
 ·refine Ac (Ad (Qm rfl (Aq (Ao (Ae ?_)))))
  exact Am rfl rfl (by unfold c3; rw [if_pos h1])
 ·refine Ai (Ab (Ac (Ax (Qm rfl (Qm rfl (Qm rfl (Aq ?_)))))))
  refine AF rfl (fun h2 => ?_) (fun h2 => ?_)
  ·refine Ac (Ad (Qm rfl (Aq (Ao (Ae ?_)))))
   exact Am rfl rfl (by unfold c3; rw [if_neg h1, if_pos h2])
  ·refine Ai (Ab (Ax (Qm rfl (Aq (Ao ?_)))))
   exact Am rfl rfl (by unfold c3; rw [if_neg h1, if_neg h2])
def Vv : List Int → Int
 | [] => 0
 | x :: l => if x ≠ 0 then x else Vv l
theorem Q2 {l : List Int} {k : Nat} (hk : k < l.length) : Vv (l.drop k) = if l[k] ≠ 0 then l[k] else Vv (l.drop (k + 1)) := by
 rw [List.drop_eq_getElem_cons hk]; rfl
theorem Wv (l : List Int) (v : Value) (h : Hp) (hR : RdL cI 1 h [] v l) : Dq Tryz.prog 78 #[v] h [] (.int .i64 (Vv l)) := by
 refine Ds ?_ []
 have hl := hR.len_le
 refine Av func78 ntmps78 rfl rfl (fun w0 hw0 => ?_)
 simp only [A4]
 refine Ax (Qm rfl (B3 (Qm rfl (Aq (Ac (Ax (Qm rfl (Qx (AJ hR.rd.any rfl underlying24 rfl) rfl (Qm rfl (Aq (Ag ?_)))))))))))
 refine AD (fun q s h' ms' => ∃ (k : Nat), q = l.length - k ∧ s = [(3, .int .i64 0), (6, v), (7, .int .i64 l.length), (8, .int .i64 k)] ∧ h = h' ∧ ms' = [] ∧ k ≤ l.length ∧ Vv (l.drop k) = Vv l)
  (l.length - 0) _ ⟨0, rfl, rfl, rfl, rfl, by omega, rfl⟩ Qs ?_
 rintro q s h' ms' ⟨k, rfl, rfl, rfl, rfl, hk, ho⟩
 refine Ax (Qm rfl (Aq (Ac ?_)))
 refine AF rfl (fun hlt => ?_) (fun hlt => ?_)
 ·have hkl : k < l.length := Bx hlt
  rw [Q2 hkl] at ho
  refine Ai (Ab (Ac (Ag (Ax (Qx (Ah _ hR.rd.any rfl underlying24 A8 rfl rfl rfl (by omega)) rfl (Ql rfl underlying3 (hR.any.cell0 hkl rfl) (Qm rfl (B3 (Qm rfl (Qm rfl (Qm rfl (Aq ?_))))))))))))
  refine AF rfl (fun h1 => ?_) (fun h1 => ?_)
  ·refine Ac (Ad (Qm rfl (Qm rfl (Aq (Ao (Ap (Ae (Ae (Ap (Ae ?_))))))))))
   exact Am rfl rfl (by rw [← ho, if_pos h1])
  ·refine Ai (Aj (Ab (Ad (Qx (oA rfl) rfl (Qm rfl (Ak ?_))))))
   refine Al (l.length - (k + 1)) _ (by omega) ⟨k + 1, rfl, rfl, rfl, rfl, by omega, ?_⟩ Qs
   rw [if_neg h1] at ho
   exact ho
 ·obtain rfl : k = l.length := by omega
  refine Aw (Aa (Aa (Af (Ab (Ax (Qm rfl (Qm rfl (Aq (Ao ?_)))))))))
  exact Am rfl rfl (by rw [← ho, List.drop_length]; rfl)
theorem QA {h : Hp} {g : Nat} {x y : Int} (hS : Seg h [] ⟨g, 0, none⟩ [.int .i64 x, .int .i64 y]) : RdL cI 1 h [] (.slice (some ⟨g, 0, none⟩) 2 2) [x, y] :=
 ⟨⟨_, 2, rfl, Nat.le_refl _, by omega, rfl, fun _ => ⟨_, rfl, hS⟩⟩, fun _ => rfl⟩
theorem WF (a b : Int × Int) : Vv [c3 a.1 b.1, c3 a.2 b.2] = D3 a b := by
 unfold D3
 show (if _ then _ else if _ then _ else (0 : Int)) = _
 split
 ·rfl
 ·split
  ·rfl
  ·rename_i h; omega
theorem Uj (a b : Int × Int) (h : Hp) : FnT Tryz.prog 43 #[.agg #[.int .i64 a.1, .int .i64 a.2], .agg #[.int .i64 b.1, .int .i64 b.2]] h [] (fun r h' ms' => r = .int .i64 (D3 a b)) := by
 refine Av func43 ntmps43 rfl rfl (fun w0 hw0 => ?_)
 simp only [A4]
 refine Ax ?_
 refine AS [_, _] rfl rfl (by rfl) rfl rfl rfl (fun g2 => ?_)
 refine AS [_, _] rfl rfl (by rfl) rfl rfl rfl (fun g3 => ?_)
 refine Qm rfl (Aq (AL fun h1 l1 hG3 => (AL fun h2 l2 hG2 => ?_)))
 have hG3 := hG3.le l2
 have hA2 := Seg.all hG2
 have hA3 := Seg.all hG3
 refine Bv (fun s hh ms' => s = [(4, .int .i64 (D3 a b))] ∧ ms' = [] ∧ h2.le hh) ?_ (fun s h ms hI => ?_)
 ·refine AW (n := 13) (bs := [true, true, true, true, true, true, true, true, true, true, false, false, false]) [true, true, true, true, true, true, true, true, true, true] Cd (by kernel_rfl) (by kernel_rfl) rfl rfl (Qp rfl (C8 0 rfl underlying53 A8 rfl rfl rfl (by omega)) (QL rfl underlying3 (hA2 0 _ rfl _) (Qp rfl (C8 0 rfl underlying53 A8 rfl rfl rfl (by omega)) (QL rfl underlying3 (hA3 0 _ rfl _) (Qp rfl (AG rfl call79 rfl (JF _ _ _ _)) (Qp rfl (C8 1 rfl underlying53 A8 rfl rfl rfl (by omega)) (QL rfl underlying3 (hA2 1 _ rfl _) (Qp rfl (C8 1 rfl underlying53 A8 rfl rfl rfl (by omega)) (QL rfl underlying3 (hA3 1 _ rfl _) (Qp rfl (AG rfl call79 rfl (JF _ _ _ _)) ?_))))))))))
  unfold CD
  simp only [List.cons_append, List.nil_append]
  refine Qo 10 rfl ?_
  refine AZ [(0, _), (1, _)] [.int .i64 0, .int .i64 0] [_, _] rfl underlying24 A8 rfl (by omega) (by kernel_rfl) (by repeat (first | exact trivial | refine ⟨⟨by rfl, rfl, rfl⟩, ?_⟩)) rfl rfl rfl rfl (fun g15 => ?_)
  refine Qw (Qo 11 rfl (BD fun h3 l3 hS => (Qx (AG rfl call78 rfl (Wv [c3 a.1 b.1, c3 a.2 b.2] _ h3 (QA hS))) rfl (Qa (Qo 12 rfl (Qm rfl (Qa (Qe ?_))))))))
  rw [WF]
  exact AA _ ⟨rfl, rfl, l3⟩ Qs
 ·obtain ⟨rfl, rfl, hle⟩ := hI
  refine Ao ?_
  exact Am rfl rfl (rfl)
end Go.Proofs.YtdnelknieikbaaaGreat
namespace Go.Proofs.YtdnelknieikbaaaGreat
open Go.Proofs.Tryz
open Go.Eng Go.RowKit Go.Lin Go.Sort Go.Srt
variable {m h : Hp} {v : Value} {ms : List Hp}
structure StE where
 fr : Int
 to : Int
 v : Value
 one : v.oneCell' = true
instance : Inhabited StE := ⟨⟨0, 0, .slice none 0 0, rfl⟩⟩
def StE.key (s : StE) : Int × Int := (s.fr, s.to)
def cS (s : StE) : List Value := [.int .i64 s.fr, .int .i64 s.to, s.v]
theorem ML : ∀ s, (cS s).length = 3 := fun _ => rfl
theorem Mi (s : StE) : ∀ c ∈ cS s, c.oneCell' = true := fun c hc => by
 simp only [cS, List.mem_cons, List.not_mem_nil, or_false] at hc
 rcases hc with rfl | rfl | rfl
 ·rfl
 ·rfl
 ·exact s.one
def Ep (x y : StE) : Bool := decide (D3 x.key y.key < 0)
theorem Ik : SWO Ep := by
 refine ⟨fun x => ?_, fun x y z h1 h2 => ?_, fun x y z h1 h2 => ?_⟩
 ·unfold Ep; rw [decide_eq_false_iff_not, Cm]; omega
 ·unfold Ep at *; rw [decide_eq_true_iff, Cm] at *; omega
 ·unfold Ep at *; rw [decide_eq_false_iff_not, Cm] at *; omega
theorem Kp (x y : StE) (h : Hp) (ms : List Hp) : Dq Tryz.prog 59 #[.agg (cS x).toArray, .agg (cS y).toArray] h ms (.int .i64 (D3 x.key y.key)) := by
 refine Ds ?_ ms
 have o1 := x.one
 have o2 := y.one
 show FnT _ _ #[.agg #[.int .i64 x.fr, .int .i64 x.to, x.v], .agg #[.int .i64 y.fr, .int .i64 y.to, y.v]] _ _ _
 refine Av func59 ntmps59 rfl rfl (fun w0 hw0 => ?_)
 simp only [A4]
 refine Ax ?_
 refine AS [_, _, _] rfl rfl (by rfl) rfl rfl rfl (fun g2 => ?_)
 refine AS [_, _, _] rfl rfl (by rfl) rfl rfl rfl (fun g3 => ?_)
 refine Qm rfl (Aq (AL fun h1 l1 hG3 => (AL fun h2 l2 hG2 => ?_)))
 have hG3 := hG3.le l2
 have hA2 := Seg.all hG2
 have hA3 := Seg.all hG3
 refine Ax (Qf E0 rfl (Ql rfl underlying3 (hA2 0 _ rfl _) (Qf Fd rfl (Ql rfl underlying3 (hA2 1 _ rfl _) ?_))))
 refine Qx (EO [.int .i64 0, .int .i64 0] [(0, [_]), (1, [_])] [_, _] rfl underlying53 Fx rfl A8 rfl (by repeat (first | exact trivial | refine ⟨⟨by rfl, rfl, rfl⟩, ?_⟩)) rfl) rfl ?_
 refine Qf E0 rfl (Ql rfl underlying3 (hA3 0 _ rfl _) (Qf Fd rfl (Ql rfl underlying3 (hA3 1 _ rfl _) ?_)))
 refine Qx (EO [.int .i64 0, .int .i64 0] [(0, [_]), (1, [_])] [_, _] rfl underlying53 Fx rfl A8 rfl (by repeat (first | exact trivial | refine ⟨⟨by rfl, rfl, rfl⟩, ?_⟩)) rfl) rfl ?_
 refine Qx (AG rfl call43 rfl (Ds (Uj x.key y.key _) _)) rfl (Qm rfl (Aq (Ao ?_)))
 exact Am rfl rfl (rfl)
abbrev OS (m : Hp) (v : Value) (d : Array StE) : Prop := OwnL cS 3 64 m v d.toList
theorem OS.rd {d : Array StE} (O : OS m v d) (hm : m ∈ ms) : Rd h ms v 3 d.size (d.toList.flatMap cS) := by
 have := (OwnL.rd O hm (h := h)).rd; rwa [Array.length_toList] at this
theorem OS.get {d : Array StE} (O : OS m v d) (hm : m ∈ ms) {j : Nat} (hj : j < d.size) : Seg h ms ((Bl v).add (j * 3)) (cS d[j]!) := by
 have := (OwnL.rd O hm (h := h)).seg (j := j) (by simpa using hj)
 simpa [hj] using this
theorem Dn {e : Entry} {Q : Exit → Act → World → Prop} {ops : Array Oper} {rest : List Oper} {o : Oper} {s : Ay} {t : TypeId} {x y : Operand} {z : Value} {bytes : Nat} {a : StE} {d : Array StE} (i j : Nat) (O : OS m v d) (ho : o.op = .store t x y) (hs : Elem e.P t 3 z bytes) (hx : ev s x = some (.pointer (some ((Bl v).add (j * 3))))) (hy : ev s y = some (.agg (cS a).toArray))
  (hm : ms[i]? = some m) (hj : j < d.size) (hd : o.dst = none) (hg : o.guard = none)
  (K : ∀ m', (d.setIfInBounds j a).size = d.size → OS m' v (d.setIfInBounds j a) → WL e ops Q rest s h (ms.set i m')) : WL e ops Q (o :: rest) s h ms :=
 M2 i j a O ho hs hx hy rfl (Mi a) hm (by simpa using hj) hd hg fun m' O' => K m' (by simp) (by
  show OwnL cS 3 64 m' v (d.setIfInBounds j a).toList
  rw [Array.toList_setIfInBounds]; exact O')
theorem Fo (d : Array StE) (v cv : Value) (m : Hp) (hO : OS m v d) (a b n lo hi : Nat) (hab : a + n ≤ b) (hb : b + n ≤ d.size) (hsz : d.size ≤ 1000000) (hlo : lo ≤ a) (hhi : b + n ≤ hi) (hhs : hi ≤ d.size) (h : Hp) {a' b' n' : Int} (ea : a' = a) (eb : b' = b) (en : n' = n) :
  FnT Tryz.prog 152 #[v, .int .i64 a', .int .i64 b', .int .i64 n', cv] h [m] (fun _ h' ms' => h = h' ∧ ∃ m' d', ms' = [m'] ∧ OS m' v d' ∧ SwR d d' a b n ∧ PermIn lo hi d d') := by
 subst ea eb en
 refine Av func152 ntmps152 rfl rfl (fun w0 hw0 => ?_)
 simp only [A4]
 refine Ax (Qm rfl (Aq (Ag ?_)))
 refine AD (fun q s h' ms' => ∃ (i : Nat) (d0 : Array StE) (m : Hp), q = n - i ∧ s = [(0, v), (1, .int .i64 a), (2, .int .i64 b), (3, .int .i64 n), (10, .int .i64 i)] ∧ h = h' ∧ ms' = [m] ∧ i ≤ n ∧ OS m v d0 ∧ SwR d d0 a b i ∧ PermIn lo hi d d0)
  (n - 0) _ ⟨0, d, m, rfl, rfl, rfl, rfl, by omega, hO, SwR.start d a b, permIn_refl d lo hi⟩ Qs ?_
 rintro q s h' ms' ⟨i, d0, m0, rfl, rfl, rfl, rfl, hi2, hO0, S, P⟩
 have hds := S.1
 refine Ac (Ax (Qm rfl (Qm rfl (Qm rfl (Aq ?_)))))
 refine AF rfl (fun hlt => ?_) (fun hlt => ?_)
 ·refine Ai (Ab (Ac (Ag (Hd 20 [false, false, false, false, true, true, true, true] Cd (by kernel_rfl) (by kernel_rfl) (by kernel_rfl) (HK rfl rfl rfl rfl (D4 rfl rfl) (HK rfl rfl rfl rfl (D4 rfl rfl) (HK rfl rfl rfl rfl (D4 rfl rfl) (HK rfl rfl rfl rfl (QY rfl rfl rfl (by omega)) ?_))))))))
  refine ⟨rfl, ?_⟩
  simp only [EH, zap, List.cons_append, List.nil_append, List.take_succ_cons, List.take_zero, List.drop_succ_cons, List.drop_zero, List.take_nil, List.drop_nil]
  refine Wm rfl (Wm rfl (Wm rfl (AV (oA rfl) rfl rfl (HL rfl rfl rfl (HL rfl rfl rfl (HL rfl rfl rfl (HL rfl rfl rfl (Wm rfl (Wm rfl (Wm rfl (AV (oA rfl) rfl rfl (AV (Ah (b + i) (hO0.rd (.head _)) rfl underlying60 BP rfl rfl (by omega) (by omega)) rfl rfl (AV (oG rfl underlying64 BP (hO0.get (.head _) (by omega))) rfl rfl (Wm rfl (Wm rfl (Wm rfl (AV (oA rfl) rfl rfl (AV (Ah (a + i) (hO0.rd (.head _)) rfl underlying60 BP rfl rfl (by omega) (by omega)) rfl rfl (AV (oG rfl underlying64 BP (hO0.get (.head _) (by omega))) rfl rfl (BC (Qx (Ah (a + i) (hO0.rd (.head _)) rfl underlying60 BP rfl rfl (by omega) (by omega)) rfl (Dn 0 _ hO0 rfl BP rfl rfl rfl (by omega) rfl rfl (fun mhO1 hzhO1 hO1 => Qx (Ah (b + i) (hO1.rd (.head _)) rfl underlying60 BP rfl rfl (by omega) (by omega)) rfl (Dn 0 _ hO1 rfl BP rfl rfl rfl (by omega) rfl rfl (fun mhO2 hzhO2 hO2 => Ak (NQ (Aj (Ab (Ad (Qm rfl (Qx (oA rfl) rfl (Qm rfl (Ak ?_)))))))))))))))))))))))))))))))))
  refine Al (n - (i + 1)) _ (by omega) ⟨i + 1, _, mhO2, rfl, rfl, rfl, rfl, by omega, hO2, S.step (by omega) (by omega), permIn_trans _ _ _ _ _ P (swp_permIn d0 lo hi (a + i) (b + i) (by omega) (by omega) (by omega) (by omega) (by omega))⟩ Qs
 ·obtain rfl : i = n := by omega
  refine Aw (Aa (Aa (Af ?_)))
  exact B6 rfl (⟨rfl, m0, d0, rfl, hO0, S, P⟩)
theorem Ot (d : Array StE) (v cv : Value) (m : Hp) (hO : OS m v d) (a t b lo hi : Nat) (hat : a < t) (htb : t < b) (hb : b ≤ d.size) (hsz : d.size ≤ 1000000) (hlo : lo ≤ a) (hhi : b ≤ hi) (hhs : hi ≤ d.size) (h : Hp) {a' t' b' : Int} (ea : a' = a) (et : t' = t) (eb : b' = b) :
  FnT Tryz.prog 139 #[v, .int .i64 a', .int .i64 t', .int .i64 b', cv] h [m] (fun _ h' ms' => h = h' ∧ ∃ m' d', ms' = [m'] ∧ OS m' v d' ∧ (∀ k, d'[k]! = EZ d a t b k) ∧ PermIn lo hi d d') := by
 subst ea et eb
 refine Av func139 ntmps139 rfl rfl (fun w0 hw0 => ?_)
 simp only [A4]
 refine Ax (Qm rfl (Qm rfl (Qx (oS rfl) rfl (Qm rfl (B3 (Qm rfl (Qm rfl (Qx (oS rfl) rfl (Qm rfl (Aq (Ac (Ag ?_))))))))))))
 refine AD (fun q s h' ms' => ∃ (i j : Nat) (x y : Int) (d0 : Array StE) (m : Hp), q = i + j ∧ s = [(0, v), (2, .int .i64 t), (4, cv), (10, .int .i64 x), (11, .int .i64 y)] ∧ h = h' ∧ ms' = [m] ∧ x = i ∧ y = j ∧ 0 < i ∧ 0 < j ∧ a + i ≤ t ∧ t + j ≤ b ∧ OS m v d0 ∧ (∀ k, EZ d0 (t - i) t (t + j) k = EZ d a t b k) ∧ PermIn lo hi d d0)
  ((t - a) + (b - t)) _ ⟨t - a, b - t, (t : Int) - a, (b : Int) - t, d, m, rfl, rfl, rfl, rfl, by omega, by omega, by omega, by omega, by omega, by omega, hO, fun k => by rw [show t - (t - a) = a by omega, show t + (b - t) = b by omega], permIn_refl d lo hi⟩ Qs ?_
 rintro q s h' ms' ⟨i, j, x, y, d0, m0, rfl, rfl, rfl, rfl, rfl, rfl, hi0, hj0, hai, hjb, hO0, hR, P⟩
 have hds := P.1
 refine Ac (Ax (Qm rfl (Qm rfl (Qm rfl (Aq ?_)))))
 refine AF rfl (fun hne => ?_) (fun hne => ?_)
 ·refine Ai (Ab (Ag (Ax (Qm rfl (Qm rfl (Qm rfl (Aq ?_)))))))
  refine AF rfl (fun hgt => ?_) (fun hgt => ?_)
  ·refine Ac (Ad (Qm rfl (Qm rfl (Qm rfl (Qx (oS rfl) rfl (Qm rfl (Qm rfl (Qm rfl (Bs (pre := [m0]) rfl call152 rfl (Fo d0 v cv m0 hO0 (t - i) t j lo hi (by omega) (by omega) (by omega) (by omega) (by omega) (by omega) h (by omega) rfl rfl) rfl rfl rfl rfl (fun r h1 ms1 l1 hF => ?_))))))))))
   obtain ⟨rfl, m1, d1, rfl, hO1, S, P1⟩ := hF
   refine IA (Qm rfl (Qm rfl (Qx (oS rfl) rfl (Qm rfl (Ak (Aj ?_))))))
   refine Al ((i - j) + j) _ (by omega) ⟨i - j, j, (i : Int) - j, j, d1, m1, rfl, rfl, rfl, rfl, by omega, rfl, by omega, by omega, by omega, by omega, hO1, fun k => (QZ (by omega) (by omega) S k).trans (hR k), permIn_trans _ _ _ _ _ P P1⟩ Qs
  ·refine Ac (Ad (Qm rfl (Qm rfl (Qm rfl (Qx (oS rfl) rfl (Qm rfl (Qm rfl (Qx (oA rfl) rfl (Qm rfl (Qx (oS rfl) rfl (Qm rfl (Qm rfl (Bs (pre := [m0]) rfl call152 rfl (Fo d0 v cv m0 hO0 (t - i) (t + j - i) i lo hi (by omega) (by omega) (by omega) (by omega) (by omega) (by omega) h (by omega) (by omega) rfl) rfl rfl rfl rfl (fun r h1 ms1 l1 hF => ?_))))))))))))))
   obtain ⟨rfl, m1, d1, rfl, hO1, S, P1⟩ := hF
   refine IA (Qm rfl (Qm rfl (Qx (oS rfl) rfl (Qm rfl (Ak (Aj ?_))))))
   refine Al (i + (j - i)) _ (by omega) ⟨i, j - i, i, (j : Int) - i, d1, m1, rfl, rfl, rfl, rfl, rfl, by omega, by omega, by omega, by omega, by omega, hO1, fun k => (M5 (by omega) (by omega) S k).trans (hR k), permIn_trans _ _ _ _ _ P P1⟩ Qs
 ·obtain rfl : i = j := by omega
  refine Aw (Aa (Aa (Af (Ab (Ad (Qm rfl (Qm rfl (Qm rfl (Qx (oS rfl) rfl (Qm rfl (Qm rfl (Qm rfl (Bs (pre := [m0]) rfl call152 rfl (Fo d0 v cv m0 hO0 (t - i) t i lo hi (by omega) (by omega) (by omega) (by omega) (by omega) (by omega) h (by omega) rfl rfl) rfl rfl rfl rfl (fun r h1 ms1 l1 hF => ?_))))))))))))))
  obtain ⟨rfl, m1, d1, rfl, hO1, S, P1⟩ := hF
  refine Ak ?_
  exact B6 rfl (⟨rfl, m1, d1, rfl, hO1, fun k => (PM (by omega) S k).trans (hR k), permIn_trans _ _ _ _ _ P P1⟩)
end Go.Proofs.YtdnelknieikbaaaGreat
namespace Go.Proofs.YtdnelknieikbaaaGreat
open Go.Proofs.Tryz
open Go.Eng Go.RowKit Go.Lin Go.Sort Go.Srt
variable {h : Hp} {P : Prop}
noncomputable def bl (P : Prop) : Bool := @decide P (Classical.propDecidable P)
theorem Jf (h : P) : bl P = true := @decide_eq_true P (Classical.propDecidable P) h
theorem E6 (h : ¬ P) : bl P = false := @decide_eq_false P (Classical.propDecidable P) h
theorem bl_iff : bl P = true ↔ P := @decide_eq_true_iff P (Classical.propDecidable P)
structure SV where
 e : StE
 es : List Value
 vs : List (List Int)
instance : Inhabited SV := ⟨⟨default, [], []⟩⟩
def VZ (s : SV) : List Value := [.int .i64 s.e.fr, .int .i64 s.e.to, s.e.v]
theorem Ts : ∀ s, (VZ s).length = 3 := fun _ => rfl
structure RdW (h : Hp) (s : SV) : Prop where
 len : s.es.length = s.vs.length
 l : RdL cV 1 h [] s.e.v s.es
 r : ∀ j, j < s.vs.length → RdL cI 1 h [] (s.es.getD j undef) (s.vs.getD j [])
theorem RdW.up {h' : Hp} {s : SV} (R : RdW h s) (hl : h.le h') : RdW h' s := ⟨R.len, R.l.up hl, fun j hj => (R.r j hj).up hl⟩
theorem RdW.cell {s : SV} (R : RdW h s) {j : Nat} (hj : j < s.vs.length) (ms : List Hp) : Cell h ms ((Bl s.e.v).add (j * 1)) (s.es.getD j undef) := by
 have hj' : j < s.es.length := by rw [R.len]; exact hj
 rw [Ev hj']
 exact R.l.any.cell0 hj' rfl
structure RdSs (h : Hp) (v : Value) (l : List SV) : Prop where
 q : RdL VZ 3 h [] v l
 w : ∀ s ∈ l, RdW h s
theorem RdSs.up {h' : Hp} {v : Value} {l : List SV} (R : RdSs h v l) (hl : h.le h') : RdSs h' v l := ⟨R.q.up hl, fun s hs => (R.w s hs).up hl⟩
def SV.on (s : SV) (k : Nat) : Prop := s.e.fr ≤ k ∧ (k : Int) ≤ s.e.to
instance (s : SV) (k : Nat) : Decidable (s.on k) := by unfold SV.on; infer_instance
def SV.at_ (s : SV) (k : Nat) : List Int := s.vs.getD (k - s.e.fr.toNat) []
def SV.vv (s : SV) (k : Nat) : Value := if s.on k then s.es.getD (k - s.e.fr.toNat) undef else .slice none 0 0
def SV.Long (s : SV) : Prop := 0 ≤ s.e.fr ∧ (s.vs.length : Int) = s.e.to - s.e.fr + 1
theorem SV.ix {s : SV} (hL : s.Long) {k : Nat} (h : s.on k) : k - s.e.fr.toNat < s.vs.length := by
 obtain ⟨h1, h2⟩ := hL
 obtain ⟨h3, h4⟩ := h
 omega
theorem RdW.vv {s : SV} (R : RdW h s) (hL : s.Long) {k : Nat} (ho : s.on k) : RdL cI 1 h [] (s.vv k) (s.at_ k) := by
 unfold SV.vv SV.at_
 rw [if_pos ho]
 exact R.r _ (SV.ix hL ho)
theorem RdW.vv_one {s : SV} (R : RdW h s) (hL : s.Long) (k : Nat) : (s.vv k).oneCell' = true := by
 by_cases ho : s.on k
 ·exact (R.vv hL ho).rd.one
 ·unfold SV.vv; rw [if_neg ho]; rfl
def SV.Shp (Z : Zz) (s : SV) : Prop := 0 ≤ s.e.fr ∧ s.e.fr ≤ s.e.to ∧ s.e.to < Z.dims.length ∧ (s.vs.length : Int) = s.e.to - s.e.fr + 1 ∧ ∀ j, j < s.vs.length → ((s.vs.getD j []).length : Int) = Z.dim (s.e.fr.toNat + j) ∧ ∀ x ∈ s.vs.getD j [], 0 ≤ x ∧ x < Z.p
theorem SV.Shp.long {Z : Zz} {s : SV} (h : s.Shp Z) : s.Long := ⟨h.1, h.2.2.2.1⟩
theorem Hq (s : SV) (k : Nat) (h : Hp) (hW : RdW h s) (hL : s.Long) (hk : k ≤ 1000) (ms : List Hp) : Dq Tryz.prog 93 #[.agg #[.int .i64 s.e.fr, .int .i64 s.e.to, s.e.v], .int .i64 k] h ms (.tuple #[s.vv k, .bool (decide (s.on k))]) := by
 refine Ds ?_ ms
 have ov := s.e.one
 have hl := hW.l.len_le
 have hL1 := hL.1
 have hL2 := hL.2
 have hle := hW.len
 refine Av func93 ntmps93 rfl rfl (fun w0 hw0 => ?_)
 simp only [A4]
 refine Ax ?_
 refine AS [_, _, _] rfl rfl (by rfl) rfl rfl rfl (fun g2 => ?_)
 refine Qm rfl (Qm rfl (Aq (AL fun h1 l1 hS => ?_)))
 have hW := hW.up l1
 have hA := Seg.all hS
 have hA0 := hA 0 _ rfl
 refine Ac (Ax (Qm rfl (Qf E0 rfl (Ql rfl underlying3 (hA0 _) (Qm rfl (Qm rfl ?_))))))
 refine AR (t := 10) rfl (fun h1 => ?_) (fun h1 => ?_)
 ·refine Qk rfl (Qk rfl (Qk rfl (Qk rfl (Qm rfl (Aq (AU rfl (Ax (Qm rfl (Qm rfl (Aq (Ao (Ae ?_))))))))))))
  exact FX rfl rfl rfl (by rw [show s.vv k = .slice none 0 0 from if_neg (fun ho => by have := ho.1; omega), decide_eq_false (fun ho : s.on k => by have := ho.1; omega)])
 ·refine Qg (As rfl rfl) rfl (Qg (oF Fd rfl) rfl (Qg (oL rfl underlying3 (hA _ _ rfl _)) rfl (Qg (Dd rfl rfl rfl) rfl (Qm rfl (Aq ?_)))))
  refine AF rfl (fun h2 => ?_) (fun h2 => ?_)
  ·refine Ac (Ad (Qm rfl (Qm rfl (Aq (Ao (Ae ?_))))))
   exact FX rfl rfl rfl (by rw [show s.vv k = .slice none 0 0 from if_neg (fun ho => by have := ho.2; omega), decide_eq_false (fun ho : s.on k => by have := ho.2; omega)])
  ·have ho : s.on k := ⟨by omega, by omega⟩
   have hix := SV.ix hL ho
   have hc := hW.cell hix
   refine Ai (Ab (Ax (Qf CY rfl (Ql rfl underlying62 (hA _ _ rfl _) (Qm rfl (Qf E0 rfl (Ql rfl underlying3 (hA0 _) (Qx (oS rfl) rfl (Qx (Ah (k - s.e.fr.toNat) hW.l.rd.any rfl underlying62 BN rfl rfl (by omega) (by omega)) rfl (Ql rfl underlying24 (hc _) (Qm rfl (Qm rfl (Aq (Ao ?_))))))))))))))
   exact FX rfl rfl rfl (by rw [show s.vv k = s.es.getD (k - s.e.fr.toNat) undef from if_pos ho, decide_eq_true ho])
end Go.Proofs.YtdnelknieikbaaaGreat
namespace Go.Proofs.YtdnelknieikbaaaGreat
open Go.Proofs.Tryz
open Go.Eng Go.RowKit Go.Lin Go.Sort Go.Srt
theorem Ps (Z : Zz) (vd va : Value) (s : SV) (h : Hp) (hRt : Z.Rt) (hR : RdZ h vd va Z) (hW : RdW h s) (ms : List Hp) : Dq Tryz.prog 60 #[.agg #[.int .i64 Z.p, vd, va], .agg #[.int .i64 s.e.fr, .int .i64 s.e.to, s.e.v]] h ms (.bool (bl (s.Shp Z))) := by
 refine Ds ?_ ms
 have o1 := hR.d.rd.one
 have o2 := hR.a.rd.one
 have ov := s.e.one
 have n1 := hRt.2.1
 have hl := hW.l.len_le
 have hle := hW.len
 refine Av func60 ntmps60 rfl rfl (fun w0 hw0 => ?_)
 simp only [A4]
 refine Ax ?_
 refine AS [_, _, _] rfl rfl (by rfl) rfl rfl rfl (fun g2 => ?_)
 refine AS [_, _, _] rfl rfl (by rfl) rfl rfl rfl (fun g3 => ?_)
 refine Qm rfl (Aq (AL fun h1 l1 hS3 => (AL fun h2 l2 hS2 => ?_)))
 have hS3 := hS3.le l2
 have hR := hR.up (Hp.le_trans l1 l2)
 have hW := hW.up (Hp.le_trans l1 l2)
 have hA := Seg.all hS2
 have hA0 := hA 0 _ rfl
 have hB := Seg.all hS3
 have hB0 := hB 0 _ rfl
 refine Ac (Ax (Qf E0 rfl (Ql rfl underlying3 (hB0 _) (Qm rfl (Qm rfl ?_)))))
 refine AR (t := 10) rfl (fun hs1 => ?_) (fun hs1 => ?_)
 ·refine Qk rfl (Qk rfl (Qk rfl (Qk rfl (Qk rfl (Qm rfl (Qm rfl (Qk rfl (Qk rfl (Qk rfl (Qk rfl (Qk rfl (Qk rfl (Qm rfl (Qm rfl (Qk rfl (Qk rfl (Qk rfl (Qk rfl (Qk rfl (Qk rfl (Qk rfl (Qk rfl (Qk rfl (Qk rfl (Qm rfl (Aq (AU rfl (Ax (Qm rfl (Aq (Ao (Ae ?_))))))))))))))))))))))))))))))))
  exact Am rfl rfl (by rw [E6]; rintro ⟨h, _⟩; omega)
 ·refine Qg (oF E0 rfl) rfl (Qg (oL rfl underlying3 (hB0 _)) rfl (Qg (oF Fd rfl) rfl (Qg (oL rfl underlying3 (hB _ _ rfl _)) rfl (Qg (Dd rfl rfl rfl) rfl (Qm rfl (Qm rfl ?_))))))
  refine AR (t := 17) rfl (fun hs2 => ?_) (fun hs2 => ?_)
  ·refine Qk rfl (Qk rfl (Qk rfl (Qk rfl (Qk rfl (Qk rfl (Qm rfl (Qm rfl (Qk rfl (Qk rfl (Qk rfl (Qk rfl (Qk rfl (Qk rfl (Qk rfl (Qk rfl (Qk rfl (Qk rfl (Qm rfl (Aq (AU rfl (Ax (Qm rfl (Aq (Ao (Ae ?_)))))))))))))))))))))))))
   exact Am rfl rfl (by rw [E6]; rintro ⟨_, h, _⟩; omega)
  ·refine Qg (oF Fd rfl) rfl (Qg (oL rfl underlying3 (hB _ _ rfl _)) rfl (Qg (oF Bn rfl) rfl (Qg (oL rfl underlying24 (hA _ _ rfl _)) rfl (Qg (AJ hR.d.rd.any rfl underlying24 rfl) rfl (Qg (DU rfl rfl rfl) rfl (Qm rfl (Qm rfl ?_)))))))
   refine AR (t := 25) rfl (fun hs3 => ?_) (fun hs3 => ?_)
   ·refine Qk rfl (Qk rfl (Qk rfl (Qk rfl (Qk rfl (Qk rfl (Qk rfl (Qk rfl (Qk rfl (Qk rfl (Qm rfl (Aq (AU rfl (Ax (Qm rfl (Aq (Ao (Ae ?_)))))))))))))))))
    exact Am rfl rfl (by rw [E6]; rintro ⟨_, _, h, _⟩; omega)
   ·refine Qg (oF CY rfl) rfl (Qg (oL rfl underlying62 (hB _ _ rfl _)) rfl (Qg (AJ hW.l.rd.any rfl underlying62 rfl) rfl (Qg (oF Fd rfl) rfl (Qg (oL rfl underlying3 (hB _ _ rfl _)) rfl (Qg (oF E0 rfl) rfl (Qg (oL rfl underlying3 (hB0 _)) rfl (Qg (oS rfl) rfl (Qg (oA rfl) rfl (Qg (B4 rfl rfl rfl) rfl (Qm rfl (Aq ?_)))))))))))
    refine AF rfl (fun hs4 => ?_) (fun hs4 => ?_)
    ·refine Ac (Ad (Qm rfl (Aq (Ao (Ae ?_)))))
     exact Am rfl rfl (by rw [E6]; rintro ⟨_, _, _, h, _⟩; omega)
    ·have hlen : (s.vs.length : Int) = s.e.to - s.e.fr + 1 := by omega
     refine Ai (Ab (Ac (Ax (Qm rfl (Aq (Ag ?_))))))
     refine AD (fun q sl hh ms' => ∃ (j : Nat), q = s.es.length - j ∧ sl = [(2, .pointer (some ⟨g2, 0, none⟩)), (3, .pointer (some ⟨g3, 0, none⟩)), (5, .int .i64 j)] ∧ h2 = hh ∧ ms' = [] ∧ j ≤ s.es.length ∧ ∀ j', j' < j → ((s.vs.getD j' []).length : Int) = Z.dim (s.e.fr.toNat + j') ∧ ∀ x ∈ s.vs.getD j' [], 0 ≤ x ∧ x < Z.p)
      (s.es.length - 0) _ ⟨0, rfl, rfl, rfl, rfl, by omega, fun j' h => by omega⟩ Qs ?_
     rintro q sl hh ms' ⟨j, rfl, rfl, rfl, rfl, hj, hno⟩
     refine Ac (Ax (Qm rfl (Qf CY rfl (Ql rfl underlying62 (hB _ _ rfl _) (Qx (AJ hW.l.rd.any rfl underlying62 rfl) rfl (Qm rfl (Aq ?_)))))))
     refine AF rfl (fun hlt => ?_) (fun hlt => ?_)
     ·have hjl : j < s.vs.length := by omega
      have hc := hW.cell hjl
      have hRj := hW.r j hjl
      have hk : s.e.fr.toNat + j < Z.dims.length := by omega
      refine Ai (Ab (Ac (Ag (Ac (Ac (BB 14 Cd (by kernel_rfl) rfl (Wf CY rfl (Wl rfl underlying62 (hB _ _ rfl _) (Wm rfl (AV (Ah (j) hW.l.rd.any rfl underlying62 BN rfl rfl (by omega) (by omega)) rfl rfl (Wl rfl underlying24 (hc _) (AV (AJ hRj.rd.any rfl underlying24 rfl) rfl rfl (Wf Bn rfl (Wl rfl underlying24 (hA _ _ rfl _) (Wf E0 rfl (Wl rfl underlying3 (hB0 _) (Wm rfl (AV (oA rfl) rfl rfl (AV (Ah (s.e.fr.toNat + j) hR.d.rd.any rfl underlying24 A8 rfl rfl (by omega) (by omega)) rfl rfl (Wl rfl underlying3 (H8 hR hk) (BC (Qm rfl (Aq ?_)))))))))))))))))))))))
      refine AF rfl (fun h5 => ?_) (fun h5 => ?_)
      ·refine Ac (Ad (Qm rfl (Aq (Ao (Ae (Ap (Ae (Ae (Ap (Ae ?_))))))))))
       exact Am rfl rfl (by rw [E6]; rintro ⟨_, _, _, _, h⟩; exact h5 (h j hjl).1)
      ·refine Ai (Ab (Ax (Qm rfl (Aq (Ag ?_)))))
       have hll := hRj.len_le
       refine AD (fun q sl hh ms' => ∃ (i : Nat), q = (s.vs.getD j []).length - i ∧ sl = [(2, .pointer (some ⟨g2, 0, none⟩)), (3, .pointer (some ⟨g3, 0, none⟩)), (5, .int .i64 j), (6, .int .i64 i)] ∧ h2 = hh ∧ ms' = [] ∧ i ≤ (s.vs.getD j []).length ∧ ∀ x ∈ (s.vs.getD j []).take i, 0 ≤ x ∧ x < Z.p)
        ((s.vs.getD j []).length - 0) _ ⟨0, rfl, rfl, rfl, rfl, by omega, fun x h => by simp at h⟩ Qs ?_
       rintro q sl hh ms' ⟨i, rfl, rfl, rfl, rfl, hi, hin⟩
       refine Ac (Ax (Qm rfl (Qf CY rfl (Ql rfl underlying62 (hB _ _ rfl _) (Qm rfl (Qx (Ah (j) hW.l.rd.any rfl underlying62 BN rfl rfl (by omega) (by omega)) rfl (Ql rfl underlying24 (hc _) (Qx (AJ hRj.rd.any rfl underlying24 rfl) rfl (Qm rfl (Aq ?_))))))))))
       refine AF rfl (fun hlt2 => ?_) (fun hlt2 => ?_)
       ·have hil : i < (s.vs.getD j []).length := Bx hlt2
        refine Ai (Ab (Ac (Ag (Ac (BB 20 Cd (by kernel_rfl) rfl (Wf CY rfl (Wl rfl underlying62 (hB _ _ rfl _) (Wm rfl (AV (Ah (j) hW.l.rd.any rfl underlying62 BN rfl rfl (by omega) (by omega)) rfl rfl (Wl rfl underlying24 (hc _) (Wm rfl (AV (Ah (i) hRj.rd.any rfl underlying24 A8 rfl rfl (by omega) (by omega)) rfl rfl (Wl rfl underlying3 (hRj.any.cell0 hil rfl) (Wm rfl (Wm rfl ?_)))))))))))))))
        refine DR (t := 78) rfl (fun h6 => ?_) (fun h6 => ?_)
        ·refine AN rfl rfl rfl rfl rfl (AN rfl rfl rfl rfl rfl (AN rfl rfl rfl rfl rfl (AN rfl rfl rfl rfl rfl (AN rfl rfl rfl rfl rfl (AN rfl rfl rfl rfl rfl (AN rfl rfl rfl rfl rfl (AN rfl rfl rfl rfl rfl (AN rfl rfl rfl rfl rfl (AN rfl rfl rfl rfl rfl (BC (Qk rfl (Qm rfl (Aq (AU rfl (Ax (Qm rfl (Aq (Ao (Ap (Ae (Ae (Ap (Ap (Ae (Ae (Ap (Ae ?_)))))))))))))))))))))))))))
         exact Am rfl rfl (by rw [E6]; rintro ⟨_, _, _, _, h⟩; have := (h j hjl).2 _ (List.getElem_mem hil); omega)
        ·refine Bp (oF CY rfl) rfl rfl rfl rfl (Bp (oL rfl underlying62 (hB _ _ rfl _)) rfl rfl rfl rfl (Bp (As rfl rfl) rfl rfl rfl rfl (Bp (Ah (j) hW.l.rd.any rfl underlying62 BN rfl rfl (by omega) (by omega)) rfl rfl rfl rfl (Bp (oL rfl underlying24 (hc _)) rfl rfl rfl rfl (Bp (As rfl rfl) rfl rfl rfl rfl (Bp (Ah (i) hRj.rd.any rfl underlying24 A8 rfl rfl (by omega) (by omega)) rfl rfl rfl rfl (Bp (oL rfl underlying3 (hRj.any.cell0 hil rfl)) rfl rfl rfl rfl (Bp (oF CG rfl) rfl rfl rfl rfl (Bp (oL rfl underlying3 (hA0 _)) rfl rfl rfl rfl (BC (Qg (DU rfl rfl rfl) rfl (Qm rfl (Aq ?_)))))))))))))
         refine AF rfl (fun h7 => ?_) (fun h7 => ?_)
         ·refine Ac (Ad (Qm rfl (Aq (Ao (Ap (Ae (Ae (Ap (Ap (Ae (Ae (Ap (Ae ?_)))))))))))))
          exact Am rfl rfl (by rw [E6]; rintro ⟨_, _, _, _, h⟩; have := (h j hjl).2 _ (List.getElem_mem hil); omega)
         ·refine Ai (Aj (Ab (Ad (Qm rfl (Qx (oA rfl) rfl (Qm rfl (Ak ?_)))))))
          refine Al ((s.vs.getD j []).length - (i + 1)) _ (by omega) ⟨i + 1, rfl, rfl, rfl, rfl, by omega, fun x hx => ?_⟩ Qs
          rw [List.take_succ_eq_append_getElem hil] at hx
          rcases List.mem_append.1 hx with hx | hx
          ·exact hin x hx
          ·have := List.mem_singleton.1 hx
           subst this
           omega
       ·obtain rfl : i = (s.vs.getD j []).length := by omega
        rw [List.take_length] at hin
        refine Aw (Aa (Aa (Af (Aj (Ab (Ad (Qm rfl (Qx (oA rfl) rfl (Qm rfl (Ak ?_))))))))))
        refine Al (s.es.length - (j + 1)) _ (by omega) ⟨j + 1, rfl, rfl, rfl, rfl, by omega, fun j' hj' => ?_⟩ Qs
        rcases (by omega : j' < j ∨ j' = j) with h | rfl
        ·exact hno j' h
        ·exact ⟨Decidable.not_not.1 h5, hin⟩
     ·refine Aw (Aa (Aa (Af (Ab (Ax (Qm rfl (Aq (Ao ?_))))))))
      exact Am rfl rfl (by rw [Jf]; exact ⟨by omega, by omega, by omega, hlen, fun j' hj' => hno j' (by omega)⟩)
end Go.Proofs.YtdnelknieikbaaaGreat
namespace Go.Proofs.YtdnelknieikbaaaGreat
open Go.Proofs.Tryz
open Go.Eng Go.RowKit Go.Lin
theorem LZ (p : Int) (r c : Nat) (f : Nat → Nat → Int) (ev : Value) (h : Hp) (R : RtM p r c f) (hR : RdL cI 1 h [] ev (mat r c f)) :
  FnT Tryz.prog 56 #[.agg #[.int .i64 p, .int .i64 r, .int .i64 c, ev]] h [] (fun x h' ms' => h.le h' ∧ ∃ (F : Nat → Nat → Int) (pv : List Nat) (eu vp : Value) (m m2 : Hp), x = .tuple #[.agg #[.int .i64 p, .int .i64 r, .int .i64 c, eu], vp] ∧ ms' = [m, m2] ∧ OwnL cI 1 3 m eu (mat r c F) ∧ OwnL cI 1 3 m2 vp (HY pv) ∧ Ho p r c f F pv) := by
 refine Av func56 ntmps56 rfl rfl (fun w0 hw0 => ?_)
 simp only [A4]
 refine Ax ?_
 refine AS [_, _, _, _] rfl rfl (by rfl) rfl rfl rfl (fun g1 => ?_)
 refine BZ [.int .i64 0, .int .i64 0, .int .i64 0, .slice none 0 0] rfl AI rfl rfl (fun g2 => Qm rfl (B3 (Qx (oG rfl underlying42 AI (Seg.blk 1 rfl)) rfl (Qx (AG rfl call46 rfl (Sn R hR _)) rfl (Qm rfl (Aq (Ac (Ax (Qm rfl (Qm rfl (Aq (Bb rfl (Ai (Ab (Ax (Qx (oG rfl underlying42 AI (Seg.blk 1 rfl)) rfl ?_))))))))))))))))
 refine Qc call86 rfl (MA p r c f ev h R.pr R.rl (by have := R.cl; omega) R.en hR) (fun x h1 ms1 l1 hF => ?_)
 obtain ⟨l2, F, pv, eu, vp, m, m2, rfl, rfl, hO, hO2, hE⟩ := hF
 have oe : eu.oneCell' = true := (hO.rd (h := h) (ms := [m]) (List.Mem.head _)).rd.one
 refine Qm rfl (Qm rfl ?_)
 refine Sa 2 [_, _, _, _] AI rfl (by simp [oe]) ?_
 refine Qm rfl (Aq (Ao (AP 3 rfl ?_)))
 exact CX (vs := [_, _, _, _]) 2 rfl rfl rfl underlying42 rfl AI rfl rfl (⟨l1, F, pv, eu, vp, m, m2, rfl, rfl, hO, hO2, hE⟩)
theorem Q9 (p : Int) (r c : Nat) (f : Nat → Nat → Int) (ev : Value) (h : Hp) (R : RtM p r c f) (hR : RdL cI 1 h [] ev (mat r c f)) :
  FnT Tryz.prog 29 #[.agg #[.int .i64 p, .int .i64 r, .int .i64 c, ev]] h [] (fun x h' ms' => h.le h' ∧ ms' = [] ∧ ∃ (F : Nat → Nat → Int) (pv : List Nat), x = .int .i64 pv.length ∧ Ho p r c f F pv) := by
 refine Av func29 ntmps29 rfl rfl (fun w0 hw0 => ?_)
 simp only [A4]
 refine Ax ?_
 refine AS [_, _, _, _] rfl rfl (by rfl) rfl rfl rfl (fun g1 => ?_)
 refine Qm rfl (B3 (Qx (oG rfl underlying42 AI (Seg.blk 0 rfl)) rfl (Qc call56 rfl (LZ p r c f ev h R hR) (fun x h1 ms1 l1 hF => ?_))))
 obtain ⟨l2, F, pv, eu, vp, m, m2, rfl, rfl, hO, hO2, hE⟩ := hF
 have oe : eu.oneCell' = true := (hO.rd (h := h) (ms := [m]) (List.Mem.head _)).rd.one
 refine Qm rfl (Qm rfl (Qm rfl (BZ [.int .i64 0, .int .i64 0, .int .i64 0, .slice none 0 0] rfl AI rfl rfl (fun g3 => ?_))))
 refine Sa 0 [_, _, _, _] AI rfl (by simp [oe]) ?_
 refine Qm rfl (B3 (Qm rfl (Qx (CH (DA (h := h) (ms := [m2]) hO2 (List.Mem.head _)) rfl underlying24 rfl) rfl (Qm rfl (Aq (Ao (AP 3 rfl (AP 2 rfl (AP 1 rfl (AP 0 rfl ?_))))))))))
 exact Am rfl rfl (⟨l1, rfl, F, pv, rfl, hE⟩)
end Go.Proofs.YtdnelknieikbaaaGreat
namespace Go.Proofs.YtdnelknieikbaaaGreat
open Go.Proofs.Tryz
open Go.Eng Go.RowKit Go.Lin Go.Sort Go.Srt
variable {k r c n t : Nat} {p : Int} {f : Nat → Nat → Int}
theorem QM (Fp : Lin.Fld p) {F F' : Nat → Nat → Int} {pv pv' : List Nat} (E : Ho p r c f F pv) (E' : Ho p r c f F' pv') : pv.length = pv'.length := by
 have go : ∀ {F F' : Nat → Nat → Int} {pv pv' : List Nat}, Red p r c f F pv c → Red p r c f F' pv' c → pv.length ≤ pv'.length := fun {F F' pv pv'} R R' => by
  have := CA Fp (F7 R) fun l hl _ => F4 R' hl
  rwa [C6 R, C6 R'] at this
 exact Nat.le_antisymm (go E.red E'.red) (go E'.red E.red)
open Classical in
noncomputable def VF (p : Int) (r c : Nat) (f : Nat → Nat → Int) : Nat := if h : ∃ (F : Nat → Nat → Int) (pv : List Nat), Ho p r c f F pv then (Classical.choose (Classical.choose_spec h)).length else 0
theorem MS (Fp : Lin.Fld p) {F : Nat → Nat → Int} {pv : List Nat} (E : Ho p r c f F pv) : VF p r c f = pv.length := by
 unfold VF
 rw [dif_pos ⟨F, pv, E⟩]
 exact QM Fp (Classical.choose_spec (Classical.choose_spec (⟨F, pv, E⟩ : ∃ (F : Nat → Nat → Int) (pv : List Nat), Ho p r c f F pv))) E
theorem Nz (p : Int) (r c : Nat) (f : Nat → Nat → Int) (ev : Value) (h : Hp) (R : RtM p r c f) (hR : RdL cI 1 h [] ev (mat r c f)) (ms : List Hp) : Dq Tryz.prog 29 #[.agg #[.int .i64 p, .int .i64 r, .int .i64 c, ev]] h ms (.int .i64 (VF p r c f)) :=
 Ds ((Q9 p r c f ev h R hR).mono fun x h' ms' ⟨_, _, F, pv, e, hE⟩ => by rw [e, MS R.pr.fld hE]) ms
theorem SJ (Fp : Lin.Fld p) (hf : UO p r c f) : ∃ (F : Nat → Nat → Int) (pv : List Nat), Ho p r c f F pv := by
 have key : ∀ j, j ≤ c → ∃ (F : Nat → Nat → Int) (pv : List Nat), Red p r c f F pv j := fun j => by
  induction j with
  | zero => exact fun _ => ⟨f, [], Red.start hf⟩
  | succ j ih =>
   intro hj
   obtain ⟨F, pv, R⟩ := ih (by omega)
   by_cases hz : ∃ i, i < r ∧ pv.length ≤ i ∧ F i j ≠ 0
   ·obtain ⟨i, hi, hl, hne⟩ := hz
    have hb := R.bd i hi j (by omega)
    obtain ⟨v, hv⟩ := Fp.inv (F i j) fun hd => by
     have := Int.le_of_dvd (by omega) hd
     omega
    have h1 := Cg.iff_mod.1 hv
    have h2 := Fp.two
    rw [Int.emod_eq_of_lt (show (0 : Int) ≤ 1 by omega) (by omega)] at h1
    exact ⟨_, _, R.step Fp.two hi hl (by omega) h1⟩
   ·exact ⟨F, pv, R.skip fun i hi hl => Classical.byContradiction fun hn => hz ⟨i, hi, hl, hn⟩⟩
 obtain ⟨F, pv, R⟩ := key c (Nat.le_refl _)
 exact ⟨F, pv, ⟨R⟩⟩
theorem PY (Fp : Lin.Fld p) (hf : UO p r c f) : VF p r c f = c ↔ Ind p c tt r (fun l i => f i l) := by
 obtain ⟨F, pv, E⟩ := SJ Fp hf
 rw [MS Fp E]
 exact LN Fp E.red
theorem Gw {l : List Int} {j : Nat} (h : j < l.length) : l.getD j 0 = l[j] := by simp [List.getD, h]
def Fj (l : List SV) : Dc := ⟨l.length, fun t => (l.getD t default).e.fr.toNat, fun t => (l.getD t default).e.to.toNat, fun t k i => ((l.getD t default).at_ k).getD i 0⟩
theorem Et {l : List SV} (ht : t < l.length) : l.getD t default = l[t] := by simp [List.getD, ht]
theorem IX {Z : Zz} {l : List SV} (hS : ∀ s ∈ l, s.Shp Z) (ht : t < l.length) (k : Nat) : (Fj l).on k t = decide (l[t].on k) := by
 have h := hS _ (List.getElem_mem ht)
 have h1 := h.1
 have h2 := h.2.1
 rw [Bool.eq_iff_iff, Dc.on_iff, decide_eq_true_iff]
 show (l.getD t default).e.fr.toNat ≤ k ∧ k ≤ (l.getD t default).e.to.toNat ↔ l[t].e.fr ≤ k ∧ (k : Int) ≤ l[t].e.to
 rw [Et ht]
 omega
theorem SV.Shp.row {Z : Zz} (hRt : Z.Rt) {s : SV} (h : s.Shp Z) (ho : s.on k) : (s.at_ k).length = Z.zg.d k ∧ ∀ x ∈ s.at_ k, 0 ≤ x ∧ x < Z.p := by
 have h1 := h.2.2.2.2 _ (SV.ix h.long ho)
 have h2 := h.1
 have h3 := ho.1
 rw [show s.e.fr.toNat + (k - s.e.fr.toNat) = k by omega, ← Z.zg_d hRt k] at h1
 exact ⟨by have := h1.1; unfold SV.at_; omega, h1.2⟩
def Gj (l : List SV) (k n : Nat) : List Int := (Df n ((Fj l).on k)).flatMap fun t => (l.getD t default).at_ k
theorem Jm {l : List SV} (h : (Fj l).on k n = true) : Gj l k (n + 1) = Gj l k n ++ (l.getD n default).at_ k ∧ cnt (n + 1) ((Fj l).on k) = cnt n ((Fj l).on k) + 1 := by
 unfold Gj
 rw [EP, h, BO, h]
 simp
theorem KL {l : List SV} (h : (Fj l).on k n = false) : Gj l k (n + 1) = Gj l k n ∧ cnt (n + 1) ((Fj l).on k) = cnt n ((Fj l).on k) := by
 unfold Gj
 rw [EP, h, BO, h]
 simp
theorem PP {d : Nat} (f : Nat → List Int) : ∀ (L : List Nat), (∀ t ∈ L, (f t).length = d) → L.flatMap f = mat L.length d fun i j => (f (L.getD i 0)).getD j 0 := by
 intro L
 have key : ∀ n, n ≤ L.length → (∀ t ∈ L, (f t).length = d) → (L.take n).flatMap f = mat n d fun i j => (f (L.getD i 0)).getD j 0 := fun n => by
  induction n with
  | zero => intro _ _; simp [mat]
  | succ n ih =>
   intro hn hl
   have hn' : n < L.length := by omega
   rw [List.take_succ_eq_append_getElem hn', List.flatMap_append, ih (by omega) hl, ← Hh]
   congr 1
   have e : L.getD n 0 = L[n] := by simp [List.getD, hn']
   rw [List.flatMap_singleton, e]
   have h2 := I2 (f L[n])
   rw [hl _ (List.getElem_mem hn')] at h2
   exact h2
 intro hl
 have := key L.length (Nat.le_refl _) hl
 rwa [List.take_length] at this
def IH (l : List SV) (k i j : Nat) : Int := ((l.getD ((Df l.length ((Fj l).on k)).getD i 0) default).at_ k).getD j 0
def OK (Z : Zz) (l : List SV) (k : Nat) : Prop := cnt l.length ((Fj l).on k) = Z.zg.d k ∧ Ind Z.p l.length ((Fj l).on k) (Z.zg.d k) fun t => (Fj l).vec t k
section
variable {Z : Zz} {l : List SV}
theorem RZ (hS : ∀ s ∈ l, s.Shp Z) (hn : n ≤ l.length) (h : t ∈ Df n ((Fj l).on k)) : ∃ ht : t < l.length, l[t].on k := by
 obtain ⟨h1, h2⟩ := mem_sel.1 h
 have ht : t < l.length := by omega
 rw [IX hS ht] at h2
 exact ⟨ht, of_decide_eq_true h2⟩
theorem Pg (hRt : Z.Rt) (hS : ∀ s ∈ l, s.Shp Z) (k : Nat) : Gj l k l.length = mat (cnt l.length ((Fj l).on k)) (Z.zg.d k) (IH l k) :=
 PP (fun t => (l.getD t default).at_ k) _ fun t ht => by
  obtain ⟨h1, h2⟩ := RZ hS (Nat.le_refl _) ht
  rw [Et h1]
  exact ((hS _ (List.getElem_mem h1)).row hRt h2).1
theorem Tj (hRt : Z.Rt) (hS : ∀ s ∈ l, s.Shp Z) {i j : Nat} (hi : i < cnt l.length ((Fj l).on k)) (hj : j < Z.zg.d k) : 0 ≤ IH l k i j ∧ IH l k i j < Z.p := by
 have hi' : i < (Df l.length ((Fj l).on k)).length := hi
 have hm : (Df l.length ((Fj l).on k)).getD i 0 ∈ Df l.length ((Fj l).on k) := by simp [List.getD, hi']
 obtain ⟨h1, h2⟩ := RZ hS (Nat.le_refl _) hm
 obtain ⟨h3, h4⟩ := (hS _ (List.getElem_mem h1)).row hRt h2
 unfold IH
 rw [Et h1]
 have hj' : j < (l[(Df l.length ((Fj l).on k)).getD i 0].at_ k).length := by omega
 rw [Gw hj']
 exact h4 _ (List.getElem_mem hj')
theorem R8 (Fp : Lin.Fld Z.p) (hn : cnt l.length ((Fj l).on k) = n) : Ind Z.p n tt n (fun t i => IH l k i t) ↔ Ind Z.p l.length ((Fj l).on k) n fun t => (Fj l).vec t k := by
 have h1 : Ind Z.p n tt n (fun t i => IH l k i t) ↔ Ind Z.p n tt n (fun t i => IH l k t i) := ⟨fun h => LP (f := IH l k) Fp h, fun h => LP (f := fun i j => IH l k j i) Fp h⟩
 rw [h1]
 subst hn
 exact ⟨fun h => FJ (L := Df l.length ((Fj l).on k)) (v := fun t => (Fj l).vec t k) (List.Perm.refl _) h, fun h => FB (v := fun t => (Fj l).vec t k) (List.Perm.refl _) h⟩
end
theorem JM {Z : Zz} (hRt : Z.Rt) {l : List SV} (hS : ∀ s ∈ l, s.Shp Z) (k : Nat) : ∀ n, n ≤ l.length → (Gj l k n).length ≤ n * 200
 | 0, _ => by simp [Gj, Df]
 | n + 1, hn => by
  have ih := JM hRt hS k n (by omega)
  have hn' : n < l.length := by omega
  cases h : (Fj l).on k n with
  | false => rw [(KL h).1]; omega
  | true =>
   rw [(Jm h).1, List.length_append, Et hn']
   rw [IX hS hn'] at h
   have := ((hS _ (List.getElem_mem hn')).row hRt (of_decide_eq_true h)).1
   have := Z.d_le hRt k
   omega
theorem QK (n : Nat) (b : Nat → Bool) : cnt n b ≤ n := by
 unfold cnt Df
 exact Nat.le_trans (List.length_filter_le _ _) (by simp)
theorem ON (Z : Zz) (vd va : Value) (l : List SV) (vl : Value) (k : Nat) (h : Hp) (hRt : Z.Rt) (hR : RdZ h vd va Z) (hL : RdSs h vl l) (hS : ∀ s ∈ l, s.Shp Z) (hk : k < Z.dims.length) (hN : l.length ≤ 1000000) :
  FnT Tryz.prog 61 #[.agg #[.int .i64 Z.p, vd, va], vl, .int .i64 k] h [] (fun r _ _ => r = .bool (bl (OK Z l k))) := by
 have o1 := hR.d.rd.one
 have o2 := hR.a.rd.one
 have hp := hRt.2.2.2.1
 have hbp := hp.1
 have hbp2 := hp.2.1
 have n1 := hRt.2.1
 have hd := Z.d_le hRt k
 refine Av func61 ntmps61 rfl rfl (fun w0 hw0 => ?_)
 simp only [A4]
 refine Ax ?_
 refine AS [_, _, _] rfl rfl (by rfl) rfl rfl rfl (fun g3 => ?_)
 refine Qm rfl (Aq (AL fun h1 l1 hS3 => ?_))
 have hR := hR.up l1
 have hL := hL.up l1
 have hA := Seg.all hS3
 have hA0 := hA 0 _ rfl
 have hdk : ∀ ms, Cell h1 ms ((Bl vd).add (k * 1)) (.int .i64 (Z.zg.d k)) := fun ms => by
  rw [Z.zg_d hRt k]
  exact H8 hR hk
 refine Bv (fun s hh ms' => ∃ (g7 : Nat) (xe : Value) (mx : Hp), s = [(1, vl), (2, .int .i64 k), (3, .pointer (some ⟨g3, 0, none⟩)), (7, .pointer (some ⟨g7, 0, none⟩))] ∧ h1 = hh ∧ ms' = [AX g7 42 [.int .i64 Z.p, .int .i64 (0 : Nat), .int .i64 (Z.zg.d k), xe], mx] ∧ OwnL cI 1 3 mx xe []) ?_ (fun s h ms hI => ?_)
 ·refine AW (n := 10) (bs := [true, true, true, true, true, true, true, false, false, false]) [true, true, true, true, true, true, true] Cd (by kernel_rfl) (by kernel_rfl) rfl rfl (QF CG rfl (QL rfl underlying3 (hA0 _) (QF Bn rfl (QL rfl underlying24 (hA _ _ rfl _) (Qq rfl (Qp rfl (Ah (k) hR.d.rd.any rfl underlying24 A8 rfl rfl (by omega) (by omega)) (QL rfl underlying3 (hdk _) ?_)))))))
  unfold CD
  simp only [List.cons_append, List.nil_append]
  refine A2 [7, 8] (by kernel_rfl) rfl ?_
  refine Az rfl ?_ ?_
  ·refine Qc call23 rfl (FN Z.p ((0 : Nat) : Int) (Z.zg.d k) h1 ⟨by omega, by omega⟩) (fun x7 h7 ms7 l7 hF => ?_)
   rw [DO hp (show 0 ≤ 400 by omega) (show Z.zg.d k ≤ 400 by omega)] at hF
   obtain ⟨rfl, xe, mx, rfl, rfl, hOx⟩ := hF
   have ox : xe.oneCell' = true := (hOx.rd (h := h) (ms := [mx]) (List.Mem.head _)).rd.one
   have e0 : (EM Z.p 0 (Z.zg.d k) fun _ _ => 0).e = [] := by simp [EM, mat]
   rw [e0] at hOx
   refine Qw (Qo 8 rfl (BZ [.int .i64 0, .int .i64 0, .int .i64 0, .slice none 0 0] rfl AI rfl rfl (fun g7 => Qw (Qo 9 rfl ?_))))
   refine Sa 0 [_, _, _, _] AI rfl (by simp [ox]) ?_
   refine Qw (Qe ?_)
   exact AA _ ⟨g7, xe, mx, rfl, rfl, rfl, hOx⟩ Qs
  refine Az rfl ?_ ?_
  ·refine BZ [.int .i64 0, .int .i64 0, .int .i64 0, .slice none 0 0] rfl AI rfl rfl (fun g7 => Qw (Qo 7 rfl ?_))
   refine Qc call23 rfl (FN Z.p ((0 : Nat) : Int) (Z.zg.d k) h1 ⟨by omega, by omega⟩) (fun x7 h7 ms7 l7 hF => ?_)
   rw [DO hp (show 0 ≤ 400 by omega) (show Z.zg.d k ≤ 400 by omega)] at hF
   obtain ⟨rfl, xe, mx, rfl, rfl, hOx⟩ := hF
   have ox : xe.oneCell' = true := (hOx.rd (h := h) (ms := [mx]) (List.Mem.head _)).rd.one
   have e0 : (EM Z.p 0 (Z.zg.d k) fun _ _ => 0).e = [] := by simp [EM, mat]
   rw [e0] at hOx
   refine Qw (Qo 9 rfl ?_)
   refine Sa 1 [_, _, _, _] AI rfl (by simp [ox]) ?_
   refine Qw (Qe ?_)
   exact A9 (AA _ ⟨g7, xe, mx, rfl, rfl, rfl, hOx⟩ Qs)
  exact A3
 ·obtain ⟨g7, xe, mx, rfl, rfl, rfl, hOx⟩ := hI
  refine Ac (Ax (Qm rfl (Aq (Ag ?_))))
  refine AD (fun q sl hh ms' => ∃ (i : Nat) (xe : Value) (mx : Hp), q = l.length - i ∧ sl = [(1, vl), (2, .int .i64 k), (3, .pointer (some ⟨g3, 0, none⟩)), (7, .pointer (some ⟨g7, 0, none⟩)), (8, .int .i64 i)] ∧ h1 = hh ∧ ms' = [AX g7 42 [.int .i64 Z.p, .int .i64 (cnt i ((Fj l).on k)), .int .i64 (Z.zg.d k), xe], mx] ∧ i ≤ l.length ∧ OwnL cI 1 3 mx xe (Gj l k i))
   (l.length - 0) _ ⟨0, xe, mx, rfl, rfl, rfl, rfl, by omega, hOx⟩ Qs ?_
  rintro q sl hh ms' ⟨i, xe, mx, rfl, rfl, rfl, rfl, hi, hOx⟩
  refine Ac (Ax (Qm rfl (Qm rfl (Qx (AJ hL.q.rd.any rfl underlying60 rfl) rfl (Qm rfl (Aq ?_))))))
  refine AF rfl (fun hlt => ?_) (fun hlt => ?_)
  ·have hil : i < l.length := Bx hlt
   have hmem : l[i] ∈ l := List.getElem_mem hil
   have hsh := hS _ hmem
   have hW := hL.w _ hmem
   have hseg : ∀ ms, Seg h1 ms ((Bl vl).add (i * 3)) (VZ l[i]) := fun ms => (hL.q.any (ms := ms)).seg hil
   have hvo := hW.vv_one hsh.long k
   have hon := IX hS hil k
   have hrl := JM hRt hS k i hi
   have hcl := QK i ((Fj l).on k)
   refine Ai (Ab (Ac (Ag (Ax (Qm rfl (Qm rfl (Qx (Ah (i) hL.q.rd.any rfl underlying60 BP rfl rfl (by omega) (by omega)) rfl (Qx (oG rfl underlying64 BP (hseg _)) rfl (Qm rfl (Qx (AG rfl call93 rfl (Hq l[i] k h1 hW hsh.long (by omega) _)) rfl (Qm rfl (Qm rfl (Qm rfl (Qm rfl (Qm rfl (B3 (Qm rfl (Aq ?_))))))))))))))))))
   refine AF rfl (fun hc => ?_) (fun hc => ?_)
   ·have hRv := hW.vv hsh.long hc
    have hrw := hsh.row hRt hc
    rw [decide_eq_true hc] at hon
    obtain ⟨e1, e2⟩ := Jm hon
    rw [Et hil] at e1
    refine Ax (Qf Bc rfl (Ql rfl underlying24 (Cell.blk 0 (k := 3) rfl rfl) (Qm rfl (Bm 1 hOx hRv.any rfl underlying24 A8 rfl (by omega) rfl rfl rfl Cv (by omega) (by omega) rfl rfl rfl (fun xe2 mx2 hOx2 => ?_)))))
    have ox2 : xe2.oneCell' = true := (hOx2.rd (h := h1) (ms := [mx2]) (List.Mem.head _)).rd.one
    refine Qf Bc rfl ?_
    refine AK 0 _ rfl BN rfl rfl (by assumption) rfl rfl (by (simp; done)) rfl rfl ?_
    refine IA (Qf Bh rfl (Ql rfl underlying3 (Cell.blk 0 (k := 1) rfl rfl) (Qx (oA rfl) rfl (Qf Bh rfl ?_))))
    refine AK 0 _ rfl A8 rfl rfl (by rfl) rfl rfl (by (simp; done)) rfl rfl ?_
    refine Ak (Aj (Ab (Ad (Qm rfl (Qx (oA rfl) rfl (Qm rfl (Ak ?_)))))))
    refine Al (l.length - (i + 1)) _ (by omega) ⟨i + 1, xe2, mx2, rfl, rfl, rfl, by rw [e2]; rfl, by omega, by rw [e1]; exact hOx2⟩ Qs
   ·rw [decide_eq_false hc] at hon
    obtain ⟨e1, e2⟩ := KL hon
    refine Ai (Aj (Ab (Ad (Qm rfl (Qx (oA rfl) rfl (Qm rfl (Ak ?_)))))))
    refine Al (l.length - (i + 1)) _ (by omega) ⟨i + 1, xe, mx, rfl, rfl, rfl, by rw [e2], by omega, by rw [e1]; exact hOx⟩ Qs
  ·obtain rfl : i = l.length := by omega
   rw [Pg hRt hS k] at hOx
   have hone : xe.oneCell' = true := (hOx.rd (h := h1) (ms := [mx]) (List.Mem.head _)).rd.one
   refine AL fun h4 l4 hS7 => (Bg hOx fun h5 l5 hRx => ?_)
   have hS7 := hS7.le l5
   have hC := Seg.all hS7
   have hR := hR.up (Hp.le_trans l4 l5)
   have hA := Seg.all (hS3.le (Hp.le_trans l4 l5))
   have hdk : ∀ ms, Cell h5 ms ((Bl vd).add (k * 1)) (.int .i64 (Z.zg.d k)) := fun ms => by
    rw [Z.zg_d hRt k]
    exact H8 hR hk
   refine Aw (Aa (Aa (Af (Ab (Ac (BB 16 Cd (by kernel_rfl) rfl (Wf Bh rfl (Wl rfl underlying3 (hC _ _ rfl _) (Wf Bn rfl (Wl rfl underlying24 (hA _ _ rfl _) (Wm rfl (AV (Ah (k) hR.d.rd.any rfl underlying24 A8 rfl rfl (by omega) (by omega)) rfl rfl (Wl rfl underlying3 (hdk _) (Wm rfl (Wm rfl ?_)))))))))))))))
   refine DR (t := 52) rfl (fun hc => ?_) (fun hc => ?_)
   ·have hce : cnt l.length ((Fj l).on k) = Z.zg.d k := by omega
    have RM : RtM Z.p (cnt l.length ((Fj l).on k)) (Z.zg.d k) (IH l k) := ⟨hp, by omega, by omega, fun a ha b hb => Tj hRt hS ha hb⟩
    refine Bp (oG rfl underlying42 AI (Seg.any hS7)) rfl rfl rfl rfl (Bp (AG rfl call29 rfl (Nz Z.p _ _ (IH l k) xe h5 RM hRx _)) rfl rfl rfl rfl (Bp (oF Bn rfl) rfl rfl rfl rfl (Bp (oL rfl underlying24 (hA _ _ rfl _)) rfl rfl rfl rfl (Bp (As rfl rfl) rfl rfl rfl rfl (Bp (Ah (k) hR.d.rd.any rfl underlying24 A8 rfl rfl (by omega) (by omega)) rfl rfl rfl rfl (Bp (oL rfl underlying3 (hdk _)) rfl rfl rfl rfl (BC (Qg (EJ rfl rfl rfl) rfl (Qm rfl (Qm rfl (Aq (Ao ?_))))))))))))
    exact Am rfl rfl (by unfold bl; congr 1; rw [decide_eq_decide, OK, ← R8 hp.fld hce, hce]; rw [← PY hp.fld (hce ▸ RM.en)]; exact ⟨fun h => ⟨rfl, by omega⟩, fun h => by rw [h.2]⟩)
   ·refine AN rfl rfl rfl rfl rfl (AN rfl rfl rfl rfl rfl (AN rfl rfl rfl rfl rfl (AN rfl rfl rfl rfl rfl (AN rfl rfl rfl rfl rfl (AN rfl rfl rfl rfl rfl (AN rfl rfl rfl rfl rfl (BC (Qk rfl (Qm rfl (Qm rfl (Aq (Ao ?_))))))))))))
    exact Am rfl rfl (by rw [E6]; rintro ⟨h, _⟩; omega)
end Go.Proofs.YtdnelknieikbaaaGreat
