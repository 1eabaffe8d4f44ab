/- Parts of the proof: Lo Lt Lp Lq Lr Eng39 Eng40 Eng41 Uw Xn Xo Xp Vg Vh Vi Vj Vk Va Vb Vl Rp Ra Rb Rc Rd Re Rf Rg Rh Rq Uz. -/
import Derived.Test.YtdnelknieikbaaaGreatTJ
set_option linter.unusedSimpArgs false
set_option linter.unusedVariables false
namespace Go.Lin
def mmB (n : Nat) (A B : Nat → Nat → Int) (i j : Nat) : Int := sm n fun t => A i t * B t j
theorem ap_mmB (n c : Nat) (A B : Nat → Nat → Int) (v : Nat → Int) (i : Nat) : ap (mmB n A B) c v i = ap A n (ap B c v) i := by
  unfold ap mmB
  rw [AE (g := fun j => sm n fun t => A i t * B t j * v j) fun j _ => (Iy n (v j) _).symm, D9]
  refine AE fun t _ => ?_
  rw [← Cb]
  exact AE fun j _ => Int.mul_assoc _ _ _
theorem ap_inv {p : Int} {n : Nat} {A B : Nat → Nat → Int} (h : ∀ i, i < n → ∀ j, j < n → Cg p (mmB n B A i j) (if j = i then 1 else 0)) (v : Nat → Int) {i : Nat} (hi : i < n) : Cg p (ap B n (ap A n v) i) (v i) := by
  rw [← ap_mmB]
  have h1 : Cg p (ap (mmB n B A) n v i) (sm n fun j => if j = i then v j else 0) := Cg.sm fun j hj => by
    have := (h i hi j hj).mul (Cg.refl p (v j))
    refine this.trans (Cg.of_eq ?_)
    by_cases e : j = i
    · rw [if_pos e, if_pos e, Int.one_mul]
    · rw [if_neg e, if_neg e, Int.zero_mul]
  exact h1.trans (Cg.of_eq (DP n i v hi))
def Zg.chg (Z : Zg) (k : Nat) (A B : Nat → Nat → Int) : Zg where
  p := Z.p
  n := Z.n
  d := Z.d
  back := Z.back
  mat a := if Z.tgt a = k then mmB (Z.d k) A (Z.mat a) else if Z.src a = k then mmB (Z.d k) (Z.mat a) B else Z.mat a
def Dc.chg (D : Dc) (k n : Nat) (A : Nat → Nat → Int) : Dc where
  N := D.N
  fr := D.fr
  to := D.to
  vec l a := if a = k then ap A n (D.vec l a) else D.vec l a
theorem chg_ok {Z : Zg} {D : Dc} (V : Valid Z D) {k : Nat} {A B : Nat → Nat → Int} (hBA : ∀ i, i < Z.d k → ∀ j, j < Z.d k → Cg Z.p (mmB (Z.d k) B A i j) (if j = i then 1 else 0)) : Valid (Z.chg k A B) (D.chg k (Z.d k) A) := by
  have hne : ∀ a, Z.src a ≠ Z.tgt a := fun a => by rcases Z.src_tgt a with ⟨e1, e2, _⟩ | ⟨e1, e2, _⟩ <;> omega
  refine ⟨fun l hl => V.ends l hl, fun a ha => ?_, fun a ha => V.cnt a ha, fun a ha l hl ho i hi => ?_⟩
  · by_cases e : a = k
    · subst e
      intro c hc
      refine V.ind a ha c fun i hi => ?_
      have h1 : ∀ i, i < Z.d a → Cg Z.p (ap A (Z.d a) (Bj D.N (D.on a) c fun l => D.vec l a) i) 0 := fun i hi => by
        rw [FY]
        refine Cg.trans (Cg.of_eq ?_) (hc i hi)
        unfold Bj
        refine AE fun l _ => ?_
        show _ = if D.on a l then c l * (if a = a then ap A (Z.d a) (D.vec l a) else D.vec l a) i else 0
        rw [if_pos rfl]
      have h2 := ap_inv hBA (Bj D.N (D.on a) c fun l => D.vec l a) hi
      refine h2.symm.trans ((EC (w := fun _ => 0) (fun j hj => h1 j hj) i).trans (Cg.of_eq (J8 _ _ _)))
    · have := V.ind a ha
      refine Eq.mp (congrArg (Ind Z.p D.N (D.on a) (Z.d a)) (funext fun l => ?_)) this
      show D.vec l a = if a = k then _ else D.vec l a
      rw [if_neg e]
  · have h := V.arr a ha l hl ho
    have ht : (Z.chg k A B).tgt a = Z.tgt a := rfl
    have hs : (Z.chg k A B).src a = Z.src a := rfl
    rw [ht] at hi ⊢
    rw [hs]
    have hi : i < Z.d (Z.tgt a) := hi
    show Cg Z.p (ap (if Z.tgt a = k then mmB (Z.d k) A (Z.mat a) else if Z.src a = k then mmB (Z.d k) (Z.mat a) B else Z.mat a) (Z.d (Z.src a)) (if Z.src a = k then ap A (Z.d k) (D.vec l (Z.src a)) else D.vec l (Z.src a)) i) (if D.on (Z.tgt a) l then (if Z.tgt a = k then ap A (Z.d k) (D.vec l (Z.tgt a)) else D.vec l (Z.tgt a)) i else 0)
    by_cases e1 : Z.tgt a = k
    · have e2 : Z.src a ≠ k := fun e => hne a (e.trans e1.symm)
      rw [if_pos e1, if_pos e1, if_neg e2, ap_mmB]
      rw [e1] at h hi ⊢
      refine (EC (w := if D.on k l then D.vec l k else fun _ => 0) (fun j hj => (h j hj).trans (Cg.of_eq (by split <;> rfl))) i).trans (Cg.of_eq ?_)
      split
      · rfl
      · exact J8 _ _ _
    · rw [if_neg e1, if_neg e1]
      by_cases e2 : Z.src a = k
      · rw [if_pos e2, if_pos e2, ap_mmB]
        rw [e2] at h ⊢
        exact (EC (fun j hj => ap_inv hBA (D.vec l k) hj) i).trans (h i hi)
      · rw [if_neg e2, if_neg e2]
        exact h i hi
theorem valid_cg {Z Z' : Zg} {D : Dc} (V : Valid Z D) (hp : Z'.p = Z.p) (hn : Z'.n = Z.n) (hd : ∀ k, k < Z.n → Z'.d k = Z.d k) (hb : ∀ k, k + 1 < Z.n → Z'.back k = Z.back k) (hm : ∀ k, k + 1 < Z.n → ∀ i, i < Z.d (Z.tgt k) → ∀ j, j < Z.d (Z.src k) → Cg Z.p (Z'.mat k i j) (Z.mat k i j)) : Valid Z' D := by
  refine ⟨fun l hl => ?_, fun k hk => ?_, fun k hk => ?_, fun k hk l hl ho i hi => ?_⟩
  · rw [hn]; exact V.ends l hl
  · rw [hn] at hk; rw [hp, hd k hk]; exact V.ind k hk
  · rw [hn] at hk; rw [hd k hk]; exact V.cnt k hk
  · rw [hn] at hk
    have e : Z'.src k = Z.src k ∧ Z'.tgt k = Z.tgt k := by unfold Zg.src Zg.tgt; rw [hb k hk]; exact ⟨rfl, rfl⟩
    have hs : Z.src k < Z.n ∧ Z.tgt k < Z.n := by rcases Z.src_tgt k with ⟨e1, e2, _⟩ | ⟨e1, e2, _⟩ <;> omega
    rw [e.1] at ho
    rw [e.2, hd _ hs.2] at hi
    rw [e.1, e.2, hd _ hs.1, hp]
    exact Cg.trans (Cg.sm fun j hj => (hm k hk i hi j hj).mul (Cg.refl Z.p _)) (V.arr k hk l hl ho i hi)
end Go.Lin
namespace Go.Lin
structure Rows (p : Int) (d n : Nat) (w : Nat → Nat → Int) (pl : Nat → Nat) : Prop where
  bd : ∀ k, k < n → ∀ i, i < d → 0 ≤ w k i ∧ w k i < p
  lt : ∀ k, k < n → pl k < d
  one : ∀ k, k < n → w k (pl k) = 1
  low : ∀ k, k < n → ∀ i, i < pl k → w k i = 0
  inc : ∀ k l, k < l → l < n → pl k < pl l
structure Less (p : Int) (d : Nat) (w : Nat → Nat → Int) (pl : Nat → Nat) (am : Nat) (v : Nat → Int) (k : Nat) (out : Nat → Int) : Prop where
  sum : ∃ c : Nat → Int, ∀ i, i < d → Cg p (out i) (v i - sm k fun l => c l * w l i)
  zero : ∀ l, l < k → pl l < am → out (pl l) = 0
  bd : ∀ i, i < d → 0 ≤ out i ∧ out i < p
end Go.Lin
namespace Go.Lin
structure Sub (p : Int) (d : Nat) (W : (Nat → Int) → Prop) : Prop where
  zero : W fun _ => 0
  cg : ∀ x y, (∀ i, i < d → Cg p (y i) (x i)) → W x → W y
  lin : ∀ x y c, W x → W y → W fun i => x i + c * y i
section
variable {p : Int} {d : Nat} {W W' : (Nat → Int) → Prop} {v x out z : Nat → Int}
end
end Go.Lin
namespace Go.Lin
section
variable {Z : Zg} {a b : Nat} {u y : Nat → Int}
end
section
variable {Z : Zg} {a b N N' : Nat} {w w' V : Nat → Nat → Int}
end
end Go.Lin
namespace Go.Eng
open Go.RowKit
section
variable {P : Program} {o : Oper} {s : Ay} {h : Hp} {ms : List Hp} {e : Entry} {Q : Exit → Act → World → Prop} {ops : Array Oper} {rest : List Oper}
end
end Go.Eng
namespace Go.Eng
open Go.RowKit Go.Lin
section
variable {e : Entry} {Q : Exit → Act → World → Prop} {ops : Array Oper} {rest : List Oper} {o : Oper} {s : Ay} {h : Hp} {ms : List Hp}
end
end Go.Eng
namespace Go.Eng
open Go.RowKit
theorem Lb {α : Type} {P E S vl : List α} {p off n : Nat} (hP : P.length = p) (hn : vl.length = n) (hE : off + n ≤ E.length) : (P ++ (E ++ S)).take (p + off) ++ vl ++ (P ++ (E ++ S)).drop (p + off + n) = P ++ ((E.take off ++ vl ++ E.drop (off + n)) ++ S) := by
  subst hP
  rw [Nat.add_assoc, List.take_length_add_append, List.drop_length_add_append, List.take_append_of_le_length (by omega), List.drop_append_of_le_length (by omega)]
  simp only [List.append_assoc]
section
variable {e : Entry} {Q : Exit → Act → World → Prop} {ops : Array Oper} {rest : List Oper} {o : Oper} {s : Ay} {h : Hp} {ms : List Hp} {α : Type} {F : α → List Value} {l : List α} {v : Value} {m : Hp} {el : TypeId} {sz : Nat}
theorem wl_storePart {t : TypeId} {x y : Operand} {u z : Value} {bytes n : Nat} (i j off : Nat) (a : α) (vl : List Value) (O : OwnL F sz el m v l) (ho : o.op = .store t x y) (hs : Elem e.P t n z bytes) (hx : ev s x = some (.pointer (some (((Bl v).add (j * sz)).add off)))) (hy : ev s y = some u) (hv : u.cells = vl.toArray) (hl : vl.length = n) (h1 : ∀ c ∈ vl, c.oneCell' = true)
    (hm : ms[i]? = some m) (hj : j < l.length) (hoff : off + n ≤ sz) (hFa : F a = (F l[j]).take off ++ vl ++ (F l[j]).drop (off + n)) (hd : o.dst = none) (hg : o.guard = none)
    (K : ∀ m', OwnL F sz el m' v (l.set j a) → WL e ops Q rest s h (ms.set i m')) : WL e ops Q (o :: rest) s h ms := by
  obtain ⟨⟨h2, h3⟩, hF⟩ := O
  rcases h3 with ⟨rfl, h4, rfl⟩ | ⟨g, cap, spare, rfl, rfl, e1, e2, e3⟩
  · rw [h4] at hj; simp at hj
  · have hle : (j + 1) * sz ≤ l.length * sz := Nat.mul_le_mul_right sz hj
    have hjs : (j + 1) * sz = j * sz + sz := by rw [Nat.add_mul, Nat.one_mul]
    have hx' : ev s x = some (.pointer (some ((⟨g, 0, none⟩ : Addr).add (j * sz + off)))) := by
      rw [hx]
      show some (Value.pointer (some (((⟨g, 0, none⟩ : Addr).add (j * sz)).add off))) = _
      rw [A6]
    have hP : ((l.take j).flatMap F).length = j * sz := by rw [BL hF, List.length_take, Nat.min_eq_left (Nat.le_of_lt hj)]
    have hsp : l.flatMap F ++ spare = (l.take j).flatMap F ++ (F l[j] ++ ((l.drop (j + 1)).flatMap F ++ spare)) := by
      have e0 : l.flatMap F = (l.take j).flatMap F ++ (F l[j] ++ (l.drop (j + 1)).flatMap F) := by
        have e1 : l = l.take j ++ l[j] :: l.drop (j + 1) := by rw [← List.drop_eq_getElem_cons hj, List.take_append_drop]
        have e2 := congrArg (fun q => q.flatMap F) e1
        simp only [List.flatMap_append, List.flatMap_cons] at e2
        exact e2
      rw [e0]; simp only [List.append_assoc]
    have hst : (l.set j a).flatMap F ++ spare = (l.take j).flatMap F ++ (F a ++ ((l.drop (j + 1)).flatMap F ++ spare)) := by
      rw [List.set_eq_take_append_cons_drop, if_pos hj, List.flatMap_append, List.flatMap_cons]; simp only [List.append_assoc]
    have hlen : (l.flatMap F ++ spare).length = l.length * sz + spare.length := by rw [List.length_append, BL hF]
    refine L7 i (j * sz + off) vl ho hs hx' hy hv hl h1 hm (by omega) hd hg ?_
    have key : (l.flatMap F ++ spare).take (j * sz + off) ++ vl ++ (l.flatMap F ++ spare).drop (j * sz + off + n) = (l.set j a).flatMap F ++ spare := by
      rw [hsp, hst, hFa]
      exact Lb hP hl (by rw [hF]; exact hoff)
    rw [key]
    refine K _ ⟨⟨?_, .inr ⟨g, cap, spare, by rw [List.length_set], rfl, ?_, by rw [List.length_set]; omega, e3⟩⟩, hF⟩
    · rw [BL hF, List.length_set]
    · rw [List.length_append, BL hF, List.length_set, ← BL hF l, ← List.length_append]; exact e1
end
end Go.Eng
set_option maxRecDepth 100000
set_option maxHeartbeats 4000000
namespace Go.Proofs.YtdnelknieikbaaaGreat
open Go.Eng Go.RowKit Go.Lin Go.Sort Go.Srt
theorem I2 (l : List Int) : vec l.length (fun i => l.getD i 0) = l := List.ext_getElem (by simp [vec]) fun i h1 h2 => by simp [vec, List.getD, h2]
end Go.Proofs.YtdnelknieikbaaaGreat
namespace Go.Proofs.YtdnelknieikbaaaGreat
open Go.Eng Go.RowKit Go.Lin Go.Sort Go.Srt
section
variable {Z Z' : Zz}
theorem I8 {p : Int} {ds : List Int} {A : List Ar} {vdo vao : Value} {md ma mB h : Hp} (hOd : OwnL cI 1 3 md vdo ds) (kd : md.le h) (hOa : OwnL cA 5 45 ma vao A) (ka : ma.le h) (B : BagE A mB) (kB : mB.le h) : RdZ h vdo vao ⟨p, ds, A⟩ := by
 refine ⟨hOd.rdh kd, hOa.rdh ka, fun a ha => ?_⟩
 obtain ⟨k, hk, rfl⟩ := List.mem_iff_getElem.1 ha
 obtain ⟨y, hy, O⟩ := B.all k hk
 have e : A.getD k default = A[k] := by simp [List.getD, hk]
 rw [e] at O
 exact O.rdh (Hp.le_trans hy kB)
end
theorem KQ {l : List StE} {bl : List Iv} (hl : l.length ≤ 20400) (hB : DE (fun a => (l.map StE.key).count a) bl) : bl.length ≤ 20400 ∧ ∀ y ∈ bl, 0 ≤ y.n ∧ y.n ≤ 20400 := by
 obtain ⟨ks, rfl, hs, hm⟩ := hB
 have hn : ks.Nodup := hs.imp fun {a b} h e => by
  subst e
  rw [Cm] at h
  omega
 constructor
 ·rw [List.length_map]
  have h1 : ks.length ≤ (l.map StE.key).length := hn.length_le_of_subset fun a ha => List.count_pos_iff.1 ((hm a).1 ha)
  rw [List.length_map] at h1; omega
 ·intro y hy
  obtain ⟨a, ha, rfl⟩ := List.mem_map.1 hy
  have h1 : (l.map StE.key).count a ≤ (l.map StE.key).length := List.count_le_length
  rw [List.length_map] at h1
  show (0 : Int) ≤ (((l.map StE.key).count a : Nat) : Int) ∧ (((l.map StE.key).count a : Nat) : Int) ≤ 20400
  omega
theorem Na {Z : Zz} {bl : List Iv} (hR : Z.Rt) (h : EI Z bl) : ∀ y ∈ bl, 0 ≤ y.fr ∧ y.fr ≤ y.to ∧ y.to < (Z.dims.length : Int) := by
 obtain ⟨D, V, ks, rfl, h1, h2⟩ := h.2 hR
 intro y hy
 obtain ⟨a, ha, rfl⟩ := List.mem_map.1 hy
 have h3 := (h2 a).1 ha
 unfold Dc.ct at h3
 obtain ⟨l, hl⟩ := List.exists_mem_of_length_pos h3
 obtain ⟨h4, h5⟩ := mem_sel.1 hl
 have h6 := V.ends l h4
 have h5 := of_decide_eq_true h5
 have h7 : Z.zg.n = Z.dims.length := rfl
 subst h5
 refine ⟨?_, ?_, ?_⟩ <;> simp only <;> omega
end Go.Proofs.YtdnelknieikbaaaGreat
set_option maxHeartbeats 800000
namespace Go.Proofs.YtdnelknieikbaaaGreat
open Go.Proofs.Tryz
open Go.Eng Go.RowKit Go.Lin Go.Sort Go.Srt
variable {Z : Zz} {i j : Nat} {p : Int}
def eyeB (i j : Nat) (n : Int) : Nat → Nat → Int := if i = j then Dl else DB Dl i j n
theorem eyeB_at (n : Int) (a b : Nat) : eyeB i j n a b = Dl a b + if i ≠ j ∧ a = i ∧ b = j then n else 0 := by
 unfold eyeB
 by_cases h : i = j
 ·rw [if_pos h, if_neg (fun q => q.1 h), Int.add_zero]
 ·rw [if_neg h]
  by_cases h2 : a = i ∧ b = j
  ·have e1 : DB Dl i j n a b = n := if_pos h2
   have e2 : (if i ≠ j ∧ a = i ∧ b = j then n else 0) = n := if_pos ⟨h, h2⟩
   have e3 : Dl a b = 0 := if_neg fun q => h (by rw [← h2.1, ← h2.2, q])
   rw [e1, e2, e3, Int.zero_add]
  ·have e1 : DB Dl i j n a b = Dl a b := if_neg h2
   have e2 : (if i ≠ j ∧ a = i ∧ b = j then n else 0) = 0 := if_neg fun q => h2 q.2
   rw [e1, e2, Int.add_zero]
theorem sm_eye (d a : Nat) (f : Nat → Int) (ha : a < d) : sm d (fun t => Dl a t * f t) = f a := by
 rw [DZ d a _ ha fun t _ hne => by unfold Dl; rw [if_neg (fun e => hne e.symm), Int.zero_mul]]
 unfold Dl; rw [if_pos rfl, Int.one_mul]
theorem eyeB_inv {d : Nat} {n n' : Int} (hj : j < d) (hs : Cg p (n + n') 0) : ∀ a, a < d → ∀ b, b < d → Cg p (mmB d (eyeB i j n') (eyeB i j n) a b) (if b = a then 1 else 0) := fun a ha b hb => by
 have e1 : mmB d (eyeB i j n') (eyeB i j n) a b = eyeB i j n a b + (if i ≠ j ∧ a = i then n' * eyeB i j n j b else 0) := by
  unfold mmB
  rw [AE (g := fun t => Dl a t * eyeB i j n t b + (if t = j then (if i ≠ j ∧ a = i then n' * eyeB i j n t b else 0) else 0)) fun t _ => by
   rw [eyeB_at n' a t, Int.add_mul]
   congr 1
   by_cases h1 : i ≠ j ∧ a = i
   ·by_cases h2 : t = j
    ·rw [if_pos ⟨h1.1, h1.2, h2⟩, if_pos h2, if_pos h1]
    ·rw [if_neg (fun q => h2 q.2.2), if_neg h2, Int.zero_mul]
   ·rw [if_neg (fun q => h1 ⟨q.1, q.2.1⟩), Int.zero_mul, if_neg h1, ite_self]]
  rw [FF, sm_eye d a _ ha, DP d j _ hj]
 rw [e1, eyeB_at n a b, eyeB_at n j b]
 have he : Dl a b = if b = a then 1 else 0 := by
  unfold Dl
  by_cases h : a = b
  ·rw [if_pos h, if_pos h.symm]
  ·rw [if_neg h, if_neg (fun q => h q.symm)]
 rw [← he]
 by_cases h1 : i ≠ j ∧ a = i
 ·have z1 : (if i ≠ j ∧ j = i ∧ b = j then n else 0) = 0 := if_neg fun q => h1.1 q.2.1.symm
  rw [if_pos h1, z1, Int.add_zero]
  by_cases h2 : b = j
  ·have z2 : (if i ≠ j ∧ a = i ∧ b = j then n else 0) = n := if_pos ⟨h1.1, h1.2, h2⟩
   have z3 : Dl j b = 1 := if_pos h2.symm
   rw [z2, z3, Int.mul_one, Int.add_assoc]
   exact ((Cg.refl p _).add hs).trans (Cg.of_eq (Int.add_zero _))
  ·have z2 : (if i ≠ j ∧ a = i ∧ b = j then n else 0) = 0 := if_neg fun q => h2 q.2.2
   have z3 : Dl j b = 0 := if_neg fun q => h2 q.symm
   rw [z2, z3, Int.mul_zero, Int.add_zero, Int.add_zero]
   exact Cg.refl p _
 ·have z2 : (if i ≠ j ∧ a = i ∧ b = j then n else 0) = 0 := if_neg fun q => h1 ⟨q.1, q.2.1⟩
  rw [if_neg h1, z2, Int.add_zero, Int.add_zero]
  exact Cg.refl p _
theorem eyeB_bd (hp : 2 ≤ p) {n : Int} (hn : 0 ≤ n ∧ n < p) (a b : Nat) : 0 ≤ eyeB i j n a b ∧ eyeB i j n a b < p := by
 unfold eyeB
 split
 ·unfold Dl; split <;> omega
 ·unfold DB Dl; split
  ·exact hn
  ·split <;> omega
def Pl.tgtB (x : Pl) (a : Nat) : Nat := if x.bk a then a else a + 1
def Pl.srcB (x : Pl) (a : Nat) : Nat := if x.bk a then a + 1 else a
def Pl.bm (x : Pl) (k : Nat) (A B : Nat → Nat → Int) (a : Nat) : FM := if x.tgtB a = k then EM x.P (x.rows a) (x.cols a) (Fb x.P (x.d k) A (VE (x.cols a) (x.mat a).e)) else if x.srcB a = k then EM x.P (x.rows a) (x.cols a) (Fb x.P (x.d k) (VE (x.cols a) (x.mat a).e) B) else x.mat a
def Pl.bcore (x : Pl) (k : Nat) (A B : Nat → Nat → Int) (t : Nat) : List (Bool × FM) := (List.range (x.dims.length - 1)).map fun a => (x.bk a, if a < t then x.bm k A B a else x.mat a)
section
variable (x : Pl)
theorem Pl.bm_shape (k : Nat) (A B : Nat → Nat → Int) (a : Nat) : (x.bm k A B a).p = x.P ∧ (x.bm k A B a).rows = x.rows a ∧ (x.bm k A B a).cols = x.cols a ∧ (x.bm k A B a).e.length = x.rows a * x.cols a ∧ ∀ y ∈ (x.bm k A B a).e, 0 ≤ y ∧ y < x.P := by
 have hp := x.P_bd
 unfold Pl.bm
 split
 ·refine ⟨rfl, rfl, rfl, AY _ _ _, fun y hy => ?_⟩
  obtain ⟨i, j, _, _, rfl⟩ := mem_mat.1 hy
  exact ⟨Int.emod_nonneg _ (by omega), Int.emod_lt_of_pos _ (by omega)⟩
 ·split
  ·refine ⟨rfl, rfl, rfl, AY _ _ _, fun y hy => ?_⟩
   obtain ⟨i, j, _, _, rfl⟩ := mem_mat.1 hy
   exact ⟨Int.emod_nonneg _ (by omega), Int.emod_lt_of_pos _ (by omega)⟩
  ·refine ⟨rfl, rfl, rfl, by simp [Pl.mat], fun y hy => ?_⟩
   obtain ⟨j, _, rfl⟩ := List.mem_map.1 hy
   exact x.ent_bd _
theorem Pl.bcore_len (k : Nat) (A B : Nat → Nat → Int) (t : Nat) : (x.bcore k A B t).length = x.dims.length - 1 := by simp [Pl.bcore]
theorem Pl.bcore_zero (k : Nat) (A B : Nat → Nat → Int) : x.bcore k A B 0 = x.core := by
 unfold Pl.bcore Pl.core
 exact List.map_congr_left fun a _ => by rw [if_neg (by omega)]
theorem Pl.bcore_set (k : Nat) (A B : Nat → Nat → Int) {t : Nat} (ht : t < x.dims.length - 1) : (x.bcore k A B t).set t (x.bk t, x.bm k A B t) = x.bcore k A B (t + 1) := by
 refine List.ext_getElem (by simp [Pl.bcore]) fun a h1 h2 => ?_
 rw [List.getElem_set]
 by_cases e : t = a
 ·subst e; simp [Pl.bcore]
 ·rw [if_neg e]
  simp only [Pl.bcore, List.getElem_map, List.getElem_range]
  by_cases h3 : a < t
  ·rw [if_pos h3, if_pos (by omega)]
  ·rw [if_neg h3, if_neg (by omega)]
theorem Pl.bcore_self (k : Nat) (A B : Nat → Nat → Int) {t : Nat} (ht : t < x.dims.length - 1) : (x.bcore k A B t).set t (x.bk t, x.mat t) = x.bcore k A B t := by
 refine List.ext_getElem (by simp [Pl.bcore]) fun a h1 h2 => ?_
 rw [List.getElem_set]
 by_cases e : t = a
 ·subst e; simp [Pl.bcore]
 ·rw [if_neg e]
theorem Pl.mat_bdB (k a b : Nat) : 0 ≤ VE (x.cols k) (x.mat k).e a b ∧ VE (x.cols k) (x.mat k).e a b < x.P := by
 have hp := x.P_bd
 unfold VE
 rw [List.getD_eq_getElem?_getD]
 cases h : (x.mat k).e[a * x.cols k + b]? with
 | none => exact ⟨Int.le_refl _, by show (0 : Int) < _; omega⟩
 | some y =>
  obtain ⟨j, _, rfl⟩ := List.mem_map.1 (List.mem_of_getElem? h)
  exact x.ent_bd _
theorem ar_seg {h : Hp} {ms : List Hp} {v : Value} {A : List Ar} (R : RdL cA 5 h ms v A) {k : Nat} (hk : k < A.length) : Seg h ms (((Bl v).add (k * 5)).add 1) [.int .i64 A[k].M.p, .int .i64 A[k].M.rows, .int .i64 A[k].M.cols, A[k].v] := fun i u hu => by
 rw [A6]
 refine R.cell hk (f := 1 + i) ?_
 rw [Nat.add_comm]
 exact hu
theorem Pl.rt_of {M : Nat → FM} (h1 : Z.p = x.P) (h2 : Z.dims = x.dims) (h3 : Z.ars.map Ar.core = (List.range (x.dims.length - 1)).map fun a => (x.bk a, M a)) (hM : ∀ a, a < x.dims.length - 1 → (M a).p = x.P ∧ (M a).rows = x.rows a ∧ (M a).cols = x.cols a ∧ (M a).e.length = x.rows a * x.cols a ∧ ∀ y ∈ (M a).e, 0 ≤ y ∧ y < x.P) : Z.Rt := by
 rw [N9 h3, h1, h2]
 have hd := x.dims_len
 have hb := x.dims_bd
 refine ⟨hd.1, by show x.dims.length ≤ 100; omega, ?_, x.P_is, fun y hy => ?_, fun k hk => ?_⟩
 ·show (((List.map _ (List.map _ _)).length : Nat) : Int) = (x.dims.length : Int) - 1
  rw [List.length_map, List.length_map, List.length_range]; omega
 ·have := hb y hy; omega
 ·have hk' : k < x.dims.length - 1 := by
   have : k < (List.map _ (List.map _ _)).length := hk
   rwa [List.length_map, List.length_map, List.length_range] at this
  have e : (Lu x.P x.dims ((List.range (x.dims.length - 1)).map fun a => (x.bk a, M a))).ars[k] = ⟨x.bk k, M k, .slice none 0 0⟩ := by
   have e2 : (Lu x.P x.dims ((List.range (x.dims.length - 1)).map fun a => (x.bk a, M a))).ars[k]? = some ⟨x.bk k, M k, .slice none 0 0⟩ := by
    show (List.map _ (List.map _ _))[k]? = _
    rw [List.getElem?_map, List.getElem?_map, List.getElem?_range hk']; rfl
   rw [List.getElem?_eq_getElem hk] at e2
   exact Option.some.inj e2
  rw [e]
  have h4 := x.rc_le k
  obtain ⟨m1, m2, m3, m4, m5⟩ := hM k hk'
  refine ⟨⟨by show IsP (M k).p; rw [m1]; exact x.P_is, ⟨?_, ?_, ?_, ?_⟩, ?_, fun y hy => ?_⟩, m1, ?_, ?_⟩
  ·show (0 : Int) ≤ (M k).rows; omega
  ·show (0 : Int) ≤ (M k).cols; omega
  ·show (M k).rows ≤ 400; omega
  ·show (M k).cols ≤ 400; omega
  ·show (((M k).e.length : Nat) : Int) = (M k).rows * (M k).cols
   rw [m2, m3, m4]; exact Int.natCast_mul _ _
  ·show 0 ≤ y ∧ y < (M k).p
   rw [m1]; exact m5 y hy
  ·show (M k).cols = x.dims.getD (if x.bk k then k + 1 else k) 0
   rw [m3, ← x.d_eq]; unfold Pl.cols; split <;> rfl
  ·show (M k).rows = x.dims.getD (if x.bk k then k else k + 1) 0
   rw [m2, ← x.d_eq]; unfold Pl.rows; split <;> rfl
theorem Pl.brt (k : Nat) (A B : Nat → Nat → Int) (h1 : Z.p = x.P) (h2 : Z.dims = x.dims) (h3 : Z.ars.map Ar.core = x.bcore k A B (x.dims.length - 1)) : Z.Rt := by
 refine x.rt_of (M := x.bm k A B) h1 h2 (h3.trans ?_) fun a _ => x.bm_shape k A B a
 unfold Pl.bcore
 exact List.map_congr_left fun a ha => by rw [if_pos (List.mem_range.1 ha)]
theorem core_at {n : Nat} {f : Nat → Bool × FM} (h : Z.ars.map Ar.core = (List.range n).map f) {k : Nat} (hk : k < n) : Z.zg.back k = (f k).1 ∧ Z.zg.mat k = VE (f k).2.cols.toNat (f k).2.e := by
 have h2 := congrArg (fun l => l[k]?) h
 simp only [List.getElem?_map, List.getElem?_range hk, Option.map_some] at h2
 cases e : Z.ars[k]? with
 | none => rw [e] at h2; cases h2
 | some a =>
  rw [e] at h2
  have h3 : a.core = f k := Option.some.inj h2
  unfold Zz.zg
  simp only [e]
  exact ⟨congrArg Prod.fst h3, by rw [show a.M = (f k).2 from congrArg Prod.snd h3]⟩
theorem Pl.b_valid {W : Zz} (k : Nat) {A B : Nat → Nat → Int} (z1 : Z.p = x.P) (z2 : Z.dims = x.dims) (z3 : Z.ars.map Ar.core = x.core) (w1 : W.p = x.P) (w2 : W.dims = x.dims) (w3 : W.ars.map Ar.core = x.bcore k A B (x.dims.length - 1)) (hBA : ∀ i, i < x.d k → ∀ j, j < x.d k → Cg x.P (mmB (x.d k) B A i j) (if j = i then 1 else 0)) {D : Dc} (V : Valid Z.zg D) : Valid W.zg (D.chg k (x.d k) A) := by
 have hd : ∀ k, Z.zg.d k = x.d k := fun k => by show (Z.dims.getD k 0).toNat = _; rw [z2]; rfl
 have hd' : ∀ k, W.zg.d k = x.d k := fun k => by show (W.dims.getD k 0).toNat = _; rw [w2]; rfl
 have hp : Z.zg.p = x.P := z1
 have hn : Z.zg.n = x.dims.length := by show Z.dims.length = _; rw [z2]
 have V1 := chg_ok V (k := k) (A := A) (B := B) (by rw [hd, hp]; exact hBA)
 rw [hd] at V1
 have c1 : ∀ a, a < x.dims.length - 1 → Z.zg.back a = x.bk a ∧ Z.zg.mat a = VE (x.cols a) (x.mat a).e := fun a ha => core_at (f := fun k => (x.bk k, x.mat k)) z3 ha
 have c2 : ∀ a, a < x.dims.length - 1 → W.zg.back a = x.bk a ∧ W.zg.mat a = VE (x.cols a) (x.bm k A B a).e := fun a ha => by
  have h := core_at (f := fun a => (x.bk a, if a < x.dims.length - 1 then x.bm k A B a else x.mat a)) w3 ha
  simp only [if_pos ha] at h
  rw [(x.bm_shape k A B a).2.2.1] at h
  exact h
 refine valid_cg V1 (w1.trans z1.symm) (by show W.dims.length = Z.dims.length; rw [w2, z2]) (fun a _ => by show W.zg.d a = Z.zg.d a; rw [hd, hd']) (fun a ha => ?_) (fun a ha i hi j hj => ?_)
 ·have ha : a < x.dims.length - 1 := by have : a + 1 < Z.zg.n := ha; omega
  show W.zg.back a = Z.zg.back a
  rw [(c1 a ha).1, (c2 a ha).1]
 ·have ha : a < x.dims.length - 1 := by have : a + 1 < Z.zg.n := ha; omega
  have ht : Z.zg.tgt a = x.tgtB a := by show (if Z.zg.back a then _ else _) = _; rw [(c1 a ha).1]; rfl
  have hs : Z.zg.src a = x.srcB a := by show (if Z.zg.back a then _ else _) = _; rw [(c1 a ha).1]; rfl
  have er : x.d (x.tgtB a) = x.rows a := by unfold Pl.tgtB Pl.rows; split <;> rfl
  have ec : x.d (x.srcB a) = x.cols a := by unfold Pl.srcB Pl.cols; split <;> rfl
  have hi : i < x.rows a := by have : i < Z.zg.d (Z.zg.tgt a) := hi; rwa [hd, ht, er] at this
  have hj : j < x.cols a := by have : j < Z.zg.d (Z.zg.src a) := hj; rwa [hd, hs, ec] at this
  have hget : ∀ f : Nat → Nat → Int, VE (x.cols a) (Lin.mat (x.rows a) (x.cols a) f) i j = f i j := fun f => by
   unfold VE
   rw [List.getD_eq_getElem?_getD, List.getElem?_eq_getElem (by rw [AY]; exact Cp hi hj), Tz hi hj]; rfl
  show Cg Z.zg.p (W.zg.mat a i j) ((if Z.zg.tgt a = k then mmB (Z.zg.d k) A (Z.zg.mat a) else if Z.zg.src a = k then mmB (Z.zg.d k) (Z.zg.mat a) B else Z.zg.mat a) i j)
  rw [hp, (c2 a ha).2, (c1 a ha).2, ht, hs, hd]
  unfold Pl.bm
  by_cases e1 : x.tgtB a = k
  ·rw [if_pos e1, if_pos e1]
   show Cg x.P (VE (x.cols a) (Lin.mat _ _ _) i j) _
   rw [hget]
   exact Cg.mod _ _
  ·rw [if_neg e1, if_neg e1]
   by_cases e2 : x.srcB a = k
   ·rw [if_pos e2, if_pos e2]
    show Cg x.P (VE (x.cols a) (Lin.mat _ _ _) i j) _
    rw [hget]
    exact Cg.mod _ _
   ·rw [if_neg e2, if_neg e2]
    exact Cg.refl _ _
theorem Pl.b_bars {W : Zz} (k : Nat) {A B : Nat → Nat → Int} (z1 : Z.p = x.P) (z2 : Z.dims = x.dims) (z3 : Z.ars.map Ar.core = x.core) (w1 : W.p = x.P) (w2 : W.dims = x.dims) (w3 : W.ars.map Ar.core = x.bcore k A B (x.dims.length - 1)) (hBA : ∀ i, i < x.d k → ∀ j, j < x.d k → Cg x.P (mmB (x.d k) B A i j) (if j = i then 1 else 0)) {bl bl' : List Iv} (h : EI Z bl) (h' : EI W bl') : bl = bl' := by
 obtain ⟨D, V, hb⟩ := h.2 (x.rt z1 z2 z3)
 exact (JU (x.brt k A B w1 w2 w3) (x.b_valid k z1 z2 z3 w1 w2 w3 hBA V) h' hb).symm
end
theorem Pl.mtlB (x : Pl) (k : Nat) : (x.mat k).e.length = x.rows k * x.cols k := by simp [Pl.mat]
theorem bars_p (e : Z.p = p) (vd va : Value) (h : Hp) (hRt : Z.Rt) (hR : RdZ h vd va Z) :
  FnT Tryz.prog 17 #[.agg #[.int .i64 p, vd, va]] h [] (fun r h' ms' => h.le h' ∧ ∃ (bl : List Iv) (m : Hp), ms' = [m] ∧ OwnL GO 3 37 m r bl ∧ bl.length ≤ 20400 ∧ (∀ y ∈ bl, 0 ≤ y.n ∧ y.n ≤ 20400) ∧ (∀ y ∈ bl, Mj (y.fr, y.to)) ∧ EI Z bl) := by
 subst e
 refine (Hn Z vd va h hRt.ok hR).mono fun r h' ms' ⟨l, bl, m, lst, e1, hO, hl, hS, hB⟩ => ?_
 have hI := GH hS hB
 obtain ⟨h1, h2⟩ := KQ hl hB
 have n2 := hRt.2.1
 refine ⟨l, bl, m, e1, hO, h1, h2, fun y hy => ?_, hI⟩
 have := Na hRt hI y hy
 exact ⟨by unfold Dh; simp only; omega, by unfold Dh; simp only; omega⟩
end Go.Proofs.YtdnelknieikbaaaGreat
set_option maxHeartbeats 4000000
namespace Go.Proofs.YtdnelknieikbaaaGreat
open Go.Proofs.Tryz
open Go.Eng Go.RowKit Go.Lin Go.Sort Go.Srt
theorem OY {Z : Zz} {vd va : Value} {h : Hp} (hRt : Z.Rt) (hR : RdZ h vd va Z) (ms : List Hp) : Dq Tryz.prog 22 #[.agg #[.int .i64 Z.p, vd, va]] h ms (.bool true) := by
 have := Ds (Ff Z vd va _ hRt.ok hR) ms
 rwa [decide_eq_true hRt] at this
end Go.Proofs.YtdnelknieikbaaaGreat
namespace Go.Proofs.YtdnelknieikbaaaGreat
open Go.Proofs.Tryz
open Go.Eng Go.RowKit Go.Lin Go.Sort Go.Srt
theorem bagE_rd {A : List Ar} {mB h : Hp} (B : BagE A mB) (kB : mB.le h) : ∀ a ∈ A, RdL cI 1 h [] a.v a.M.e := fun a ha => by
 obtain ⟨k, hk, rfl⟩ := List.mem_iff_getElem.1 ha
 obtain ⟨y, hy, O⟩ := B.all k hk
 have e : A.getD k default = A[k] := by simp [List.getD, hk]
 rw [e] at O
 exact O.rdh (Hp.le_trans hy kB)
theorem Pl.same_bars (x : Pl) {Z W : Zz} (z1 : Z.p = x.P) (z2 : Z.dims = x.dims) (z3 : Z.ars.map Ar.core = x.core) (w1 : W.p = x.P) (w2 : W.dims = x.dims) (w3 : W.ars.map Ar.core = x.core) {bl bl' : List Iv} (h : EI Z bl) (h' : EI W bl') : bl = bl' := by
 obtain ⟨D, V, hb⟩ := h.2 (x.rt z1 z2 z3)
 have hn : Z.zg.n = x.dims.length := by show Z.dims.length = _; rw [z2]
 have c1 := fun a (ha : a < x.dims.length - 1) => core_at (f := fun k => (x.bk k, x.mat k)) z3 ha
 have c2 := fun a (ha : a < x.dims.length - 1) => core_at (f := fun k => (x.bk k, x.mat k)) w3 ha
 refine (JU (x.rt w1 w2 w3) (valid_cg V (w1.trans z1.symm) (by show W.dims.length = Z.dims.length; rw [w2, z2]) (fun a _ => by show (W.dims.getD a 0).toNat = (Z.dims.getD a 0).toNat; rw [w2, z2]) (fun a ha => ?_) (fun a ha i _ j _ => ?_)) h' hb).symm
 ·rw [(c1 a (by omega)).1, (c2 a (by omega)).1]
 ·rw [(c1 a (by omega)).2, (c2 a (by omega)).2]; exact Cg.refl _ _
theorem lbasis_ok (x : Pl) (vd vs : Value) (sp q0 q1 q2 : Int) (h : Hp) (hx : x.Ok) (hR : RdP h vd vs x) (hsp : 0 ≤ sp ∧ sp ≤ 255) (hq0 : 0 ≤ q0 ∧ q0 ≤ 255) (hq1 : 0 ≤ q1 ∧ q1 ≤ 255) (hq2 : 0 ≤ q2 ∧ q2 ≤ 255) : FnT Tryz.prog 5 #[.agg #[.int .u8 x.p, vd, .int .u16 x.back, vs, .bool x.thin], .int .u8 sp, .agg #[.int .u8 q0, .int .u8 q1, .int .u8 q2]] h [] (fun r _ _ => r = .bool true) := by
 have o1 := hR.d.rd.one
 have o2 := hR.s.rd.one
 refine Av func5 ntmps5 rfl rfl (fun w0 hw0 => ?_)
 simp only [A4]
 refine Ax ?_
 refine AS [_, _, _, _, _] rfl rfl (by rfl) rfl rfl rfl (fun g3 => ?_)
 refine AS [_, _, _] rfl rfl (by rfl) rfl rfl rfl (fun g5 => ?_)
 refine Qm rfl (B3 (Qx (AG rfl call14 rfl (GW _ _)) rfl (Qm rfl (Aq (AL fun h1 l1 hS5 => (AL fun h2 l2 hS3 => ?_))))))
 have hR := hR.up (Hp.le_trans l1 l2)
 have hS5 := hS5.le l2
 refine Bv (fun sl hh ms' => ∃ (g8 g9 : Nat) (Z : Zz) (arw : List Ar) (vz vza vw vwa : Value) (ma : Hp), sl = [(1, .int .u8 sp), (5, .pointer (some ⟨g5, 0, none⟩)), (7, .bool true), (8, .pointer (some ⟨g8, 0, none⟩)), (9, .pointer (some ⟨g9, 0, none⟩))] ∧ h2.le hh ∧ ms' = [AX g9 30 [.int .i64 x.P, vw, vwa], AX g8 30 [.int .i64 x.P, vz, vza], ma] ∧ RdZ hh vz vza Z ∧ Z.p = x.P ∧ Z.dims = x.dims ∧ Z.ars.map Ar.core = x.core ∧ RdL cI 1 hh [] vw x.dims ∧ OwnL cA 5 45 ma vwa arw ∧ arw.map Ar.core = x.core ∧ ∀ a ∈ arw, RdL cI 1 hh [] a.v a.M.e) ?_ (fun s h ms hI => ?_)
 ·refine AW (n := 8) (bs := [true, false, true, false, false, false, false, false]) [true, false, true] Cd (by kernel_rfl) (by kernel_rfl) rfl rfl (Qp rfl (oG rfl underlying26 ST (Seg.any hS3)) (Qp rfl (oG rfl underlying26 ST (Seg.any hS3)) ?_))
  unfold CD
  simp only [List.cons_append, List.nil_append]
  refine A2 [1, 4, 5] (by kernel_rfl) rfl ?_
  refine Az rfl ?_ ?_
  ·refine Qc call15 rfl (Kf x vd vs _ hx hR) (fun rz h3 ms3 l3 hF => ?_)
   obtain ⟨l3', vdo, vao, md, ma, mB, A, rfl, rfl, hOd, hOa, hAc, hB⟩ := hF
   refine A7 fun h4 l4 k4 => (A7 fun h5 l5 k5 => (A7 fun h6 l6 k6 => ?_))
   have hRZ : RdZ h6 vdo vao ⟨x.P, x.dims, A⟩ := I8 hOd (Hp.le_trans k5 l6) hOa (Hp.le_trans k4 (Hp.le_trans l5 l6)) hB k6
   have l26 := Hp.le_trans l3 (Hp.le_trans l4 (Hp.le_trans l5 l6))
   have hR := hR.up l26
   have o3 := hRZ.d.rd.one
   have o4 := hRZ.a.rd.one
   refine Qa (A2 [3, 4, 5] (by kernel_rfl) rfl ?_)
   refine Az rfl ?_ ?_
   ·refine Qc call15 rfl (Kf x vd vs _ hx hR) (fun rw_ h7 ms7 l7 hF => ?_)
    obtain ⟨l7', vdw, vaw, mdw, maw, mBw, arw, rfl, rfl, hOdw, hOaw, hAw, hBw⟩ := hF
    refine Fe (A7 fun h8 l8 k8 => (Fe (A7 fun h9 l9 k9 => ?_)))
    have hDw : RdL cI 1 h9 [] vdw x.dims := hOdw.rdh (Hp.le_trans k8 l9)
    have hEw := bagE_rd hBw k9
    have l69 := Hp.le_trans l7 (Hp.le_trans l8 l9)
    have hcur := Hp.le_trans l26 l69
    have hRZ := hRZ.up l69
    have o5 := hDw.rd.one
    have o6 : vaw.oneCell' = true := (hOaw.rd (h := h) (ms := [maw]) (List.Mem.head _)).rd.one
    refine Qa (A2 [4, 5] (by kernel_rfl) rfl ?_)
    refine Az rfl ?_ ?_
    ·refine BZ [.int .i64 0, .slice none 0 0, .slice none 0 0] rfl Bz rfl rfl (fun g8 => Qa (Qo 5 rfl (BZ [.int .i64 0, .slice none 0 0, .slice none 0 0] rfl Bz rfl rfl (fun g9 => Qa (Qo 6 rfl ?_)))))
     refine Sa 1 [_, _, _] Bz rfl (by simp [o3, o4, o5, o6]) ?_
     refine Qa (Qo 7 rfl ?_)
     refine Sa 0 [_, _, _] Bz rfl (by simp [o3, o4, o5, o6]) ?_
     refine Qa (Qe ?_)
     refine CF (List.Perm.refl _) (AA _ ⟨_, _, ⟨x.P, x.dims, A⟩, arw, _, _, _, _, maw, rfl, hcur, rfl, hRZ, rfl, rfl, hAc, hDw, hOaw, hAw, hEw⟩ Qs)
    refine Az rfl ?_ ?_
    ·refine BZ [.int .i64 0, .slice none 0 0, .slice none 0 0] rfl Bz rfl rfl (fun g9 => Qa (Qo 4 rfl (BZ [.int .i64 0, .slice none 0 0, .slice none 0 0] rfl Bz rfl rfl (fun g8 => Qa (Qo 6 rfl ?_)))))
     refine Sa 0 [_, _, _] Bz rfl (by simp [o3, o4, o5, o6]) ?_
     refine Qa (Qo 7 rfl ?_)
     refine Sa 1 [_, _, _] Bz rfl (by simp [o3, o4, o5, o6]) ?_
     refine Qa (Qe ?_)
     refine CF (List.Perm.swap _ _ _) (AA _ ⟨_, _, ⟨x.P, x.dims, A⟩, arw, _, _, _, _, maw, rfl, hcur, rfl, hRZ, rfl, rfl, hAc, hDw, hOaw, hAw, hEw⟩ Qs)
    exact A3
   refine Az rfl ?_ ?_
   ·refine BZ [.int .i64 0, .slice none 0 0, .slice none 0 0] rfl Bz rfl rfl (fun g8 => Qa (A2 [3, 5] (by kernel_rfl) rfl ?_))
    refine Az rfl ?_ ?_
    ·refine Qc call15 rfl (Kf x vd vs _ hx hR) (fun rw_ h7 ms7 l7 hF => ?_)
     obtain ⟨l7', vdw, vaw, mdw, maw, mBw, arw, rfl, rfl, hOdw, hOaw, hAw, hBw⟩ := hF
     refine Fe (A7 fun h8 l8 k8 => (Fe (A7 fun h9 l9 k9 => ?_)))
     have hDw : RdL cI 1 h9 [] vdw x.dims := hOdw.rdh (Hp.le_trans k8 l9)
     have hEw := bagE_rd hBw k9
     have l69 := Hp.le_trans l7 (Hp.le_trans l8 l9)
     have hcur := Hp.le_trans l26 l69
     have hRZ := hRZ.up l69
     have o5 := hDw.rd.one
     have o6 : vaw.oneCell' = true := (hOaw.rd (h := h) (ms := [maw]) (List.Mem.head _)).rd.one
     refine Qa (Qo 5 rfl (BZ [.int .i64 0, .slice none 0 0, .slice none 0 0] rfl Bz rfl rfl (fun g9 => Qa (Qo 6 rfl ?_))))
     refine Sa 2 [_, _, _] Bz rfl (by simp [o3, o4, o5, o6]) ?_
     refine Qa (Qo 7 rfl ?_)
     refine Sa 0 [_, _, _] Bz rfl (by simp [o3, o4, o5, o6]) ?_
     refine Qa (Qe ?_)
     refine CF (List.Perm.cons _ (List.Perm.swap _ _ _)) (AA _ ⟨_, _, ⟨x.P, x.dims, A⟩, arw, _, _, _, _, maw, rfl, hcur, rfl, hRZ, rfl, rfl, hAc, hDw, hOaw, hAw, hEw⟩ Qs)
    refine Az rfl ?_ ?_
    ·refine BZ [.int .i64 0, .slice none 0 0, .slice none 0 0] rfl Bz rfl rfl (fun g9 => Qa (Qo 3 rfl (Qc call15 rfl (Kf x vd vs _ hx hR) (fun rw_ h7 ms7 l7 hF => ?_))))
     obtain ⟨l7', vdw, vaw, mdw, maw, mBw, arw, rfl, rfl, hOdw, hOaw, hAw, hBw⟩ := hF
     refine Fe (A7 fun h8 l8 k8 => (Fe (A7 fun h9 l9 k9 => ?_)))
     have hDw : RdL cI 1 h9 [] vdw x.dims := hOdw.rdh (Hp.le_trans k8 l9)
     have hEw := bagE_rd hBw k9
     have l69 := Hp.le_trans l7 (Hp.le_trans l8 l9)
     have hcur := Hp.le_trans l26 l69
     have hRZ := hRZ.up l69
     have o5 := hDw.rd.one
     have o6 : vaw.oneCell' = true := (hOaw.rd (h := h) (ms := [maw]) (List.Mem.head _)).rd.one
     refine Qa (Qo 6 rfl ?_)
     refine Sa 2 [_, _, _] Bz rfl (by simp [o3, o4, o5, o6]) ?_
     refine Qa (Qo 7 rfl ?_)
     refine Sa 1 [_, _, _] Bz rfl (by simp [o3, o4, o5, o6]) ?_
     refine Qa (Qe ?_)
     refine CF (Vi _ _ _) (AA _ ⟨_, _, ⟨x.P, x.dims, A⟩, arw, _, _, _, _, maw, rfl, hcur, rfl, hRZ, rfl, rfl, hAc, hDw, hOaw, hAw, hEw⟩ Qs)
    exact A3
   refine Az rfl ?_ ?_
   ·refine BZ [.int .i64 0, .slice none 0 0, .slice none 0 0] rfl Bz rfl rfl (fun g9 => Qa (A2 [3, 4] (by kernel_rfl) rfl ?_))
    refine Az rfl ?_ ?_
    ·refine Qc call15 rfl (Kf x vd vs _ hx hR) (fun rw_ h7 ms7 l7 hF => ?_)
     obtain ⟨l7', vdw, vaw, mdw, maw, mBw, arw, rfl, rfl, hOdw, hOaw, hAw, hBw⟩ := hF
     refine Fe (A7 fun h8 l8 k8 => (Fe (A7 fun h9 l9 k9 => ?_)))
     have hDw : RdL cI 1 h9 [] vdw x.dims := hOdw.rdh (Hp.le_trans k8 l9)
     have hEw := bagE_rd hBw k9
     have l69 := Hp.le_trans l7 (Hp.le_trans l8 l9)
     have hcur := Hp.le_trans l26 l69
     have hRZ := hRZ.up l69
     have o5 := hDw.rd.one
     have o6 : vaw.oneCell' = true := (hOaw.rd (h := h) (ms := [maw]) (List.Mem.head _)).rd.one
     refine Qa (Qo 4 rfl (BZ [.int .i64 0, .slice none 0 0, .slice none 0 0] rfl Bz rfl rfl (fun g8 => Qa (Qo 6 rfl ?_))))
     refine Sa 0 [_, _, _] Bz rfl (by simp [o3, o4, o5, o6]) ?_
     refine Qa (Qo 7 rfl ?_)
     refine Sa 2 [_, _, _] Bz rfl (by simp [o3, o4, o5, o6]) ?_
     refine Qa (Qe ?_)
     refine CF (K5 _ _ _) (AA _ ⟨_, _, ⟨x.P, x.dims, A⟩, arw, _, _, _, _, maw, rfl, hcur, rfl, hRZ, rfl, rfl, hAc, hDw, hOaw, hAw, hEw⟩ Qs)
    refine Az rfl ?_ ?_
    ·refine BZ [.int .i64 0, .slice none 0 0, .slice none 0 0] rfl Bz rfl rfl (fun g8 => Qa (Qo 3 rfl (Qc call15 rfl (Kf x vd vs _ hx hR) (fun rw_ h7 ms7 l7 hF => ?_))))
     obtain ⟨l7', vdw, vaw, mdw, maw, mBw, arw, rfl, rfl, hOdw, hOaw, hAw, hBw⟩ := hF
     refine Fe (A7 fun h8 l8 k8 => (Fe (A7 fun h9 l9 k9 => ?_)))
     have hDw : RdL cI 1 h9 [] vdw x.dims := hOdw.rdh (Hp.le_trans k8 l9)
     have hEw := bagE_rd hBw k9
     have l69 := Hp.le_trans l7 (Hp.le_trans l8 l9)
     have hcur := Hp.le_trans l26 l69
     have hRZ := hRZ.up l69
     have o5 := hDw.rd.one
     have o6 : vaw.oneCell' = true := (hOaw.rd (h := h) (ms := [maw]) (List.Mem.head _)).rd.one
     refine Qa (Qo 6 rfl ?_)
     refine Sa 1 [_, _, _] Bz rfl (by simp [o3, o4, o5, o6]) ?_
     refine Qa (Qo 7 rfl ?_)
     refine Sa 2 [_, _, _] Bz rfl (by simp [o3, o4, o5, o6]) ?_
     refine Qa (Qe ?_)
     refine CF ((K5 _ _ _).trans (List.Perm.cons _ (List.Perm.swap _ _ _))) (AA _ ⟨_, _, ⟨x.P, x.dims, A⟩, arw, _, _, _, _, maw, rfl, hcur, rfl, hRZ, rfl, rfl, hAc, hDw, hOaw, hAw, hEw⟩ Qs)
    exact A3
   exact A3
  refine Az rfl ?_ ?_
  ·refine BZ [.int .i64 0, .slice none 0 0, .slice none 0 0] rfl Bz rfl rfl (fun g8 => Qw (A2 [1, 5] (by kernel_rfl) rfl ?_))
   refine Az rfl ?_ ?_
   ·refine Qc call15 rfl (Kf x vd vs _ hx hR) (fun rz h3 ms3 l3 hF => ?_)
    obtain ⟨l3', vdo, vao, md, ma, mB, A, rfl, rfl, hOd, hOa, hAc, hB⟩ := hF
    refine A7 fun h4 l4 k4 => (A7 fun h5 l5 k5 => (A7 fun h6 l6 k6 => ?_))
    have hRZ : RdZ h6 vdo vao ⟨x.P, x.dims, A⟩ := I8 hOd (Hp.le_trans k5 l6) hOa (Hp.le_trans k4 (Hp.le_trans l5 l6)) hB k6
    have l26 := Hp.le_trans l3 (Hp.le_trans l4 (Hp.le_trans l5 l6))
    have hR := hR.up l26
    have o3 := hRZ.d.rd.one
    have o4 := hRZ.a.rd.one
    refine Qa (A2 [3, 5] (by kernel_rfl) rfl ?_)
    refine Az rfl ?_ ?_
    ·refine Qc call15 rfl (Kf x vd vs _ hx hR) (fun rw_ h7 ms7 l7 hF => ?_)
     obtain ⟨l7', vdw, vaw, mdw, maw, mBw, arw, rfl, rfl, hOdw, hOaw, hAw, hBw⟩ := hF
     refine Fe (A7 fun h8 l8 k8 => (Fe (A7 fun h9 l9 k9 => ?_)))
     have hDw : RdL cI 1 h9 [] vdw x.dims := hOdw.rdh (Hp.le_trans k8 l9)
     have hEw := bagE_rd hBw k9
     have l69 := Hp.le_trans l7 (Hp.le_trans l8 l9)
     have hcur := Hp.le_trans l26 l69
     have hRZ := hRZ.up l69
     have o5 := hDw.rd.one
     have o6 : vaw.oneCell' = true := (hOaw.rd (h := h) (ms := [maw]) (List.Mem.head _)).rd.one
     refine Qa (Qo 5 rfl (BZ [.int .i64 0, .slice none 0 0, .slice none 0 0] rfl Bz rfl rfl (fun g9 => Qa (Qo 6 rfl ?_))))
     refine Sa 2 [_, _, _] Bz rfl (by simp [o3, o4, o5, o6]) ?_
     refine Qa (Qo 7 rfl ?_)
     refine Sa 0 [_, _, _] Bz rfl (by simp [o3, o4, o5, o6]) ?_
     refine Qa (Qe ?_)
     refine CF (List.Perm.cons _ (List.Perm.swap _ _ _)) (AA _ ⟨_, _, ⟨x.P, x.dims, A⟩, arw, _, _, _, _, maw, rfl, hcur, rfl, hRZ, rfl, rfl, hAc, hDw, hOaw, hAw, hEw⟩ Qs)
    refine Az rfl ?_ ?_
    ·refine BZ [.int .i64 0, .slice none 0 0, .slice none 0 0] rfl Bz rfl rfl (fun g9 => Qa (Qo 3 rfl (Qc call15 rfl (Kf x vd vs _ hx hR) (fun rw_ h7 ms7 l7 hF => ?_))))
     obtain ⟨l7', vdw, vaw, mdw, maw, mBw, arw, rfl, rfl, hOdw, hOaw, hAw, hBw⟩ := hF
     refine Fe (A7 fun h8 l8 k8 => (Fe (A7 fun h9 l9 k9 => ?_)))
     have hDw : RdL cI 1 h9 [] vdw x.dims := hOdw.rdh (Hp.le_trans k8 l9)
     have hEw := bagE_rd hBw k9
     have l69 := Hp.le_trans l7 (Hp.le_trans l8 l9)
     have hcur := Hp.le_trans l26 l69
     have hRZ := hRZ.up l69
     have o5 := hDw.rd.one
     have o6 : vaw.oneCell' = true := (hOaw.rd (h := h) (ms := [maw]) (List.Mem.head _)).rd.one
     refine Qa (Qo 6 rfl ?_)
     refine Sa 2 [_, _, _] Bz rfl (by simp [o3, o4, o5, o6]) ?_
     refine Qa (Qo 7 rfl ?_)
     refine Sa 1 [_, _, _] Bz rfl (by simp [o3, o4, o5, o6]) ?_
     refine Qa (Qe ?_)
     refine CF (Vi _ _ _) (AA _ ⟨_, _, ⟨x.P, x.dims, A⟩, arw, _, _, _, _, maw, rfl, hcur, rfl, hRZ, rfl, rfl, hAc, hDw, hOaw, hAw, hEw⟩ Qs)
    exact A3
   refine Az rfl ?_ ?_
   ·refine BZ [.int .i64 0, .slice none 0 0, .slice none 0 0] rfl Bz rfl rfl (fun g9 => Qw (Qo 1 rfl (Qc call15 rfl (Kf x vd vs _ hx hR) (fun rz h3 ms3 l3 hF => ?_))))
    obtain ⟨l3', vdo, vao, md, ma, mB, A, rfl, rfl, hOd, hOa, hAc, hB⟩ := hF
    refine A7 fun h4 l4 k4 => (A7 fun h5 l5 k5 => (A7 fun h6 l6 k6 => ?_))
    have hRZ : RdZ h6 vdo vao ⟨x.P, x.dims, A⟩ := I8 hOd (Hp.le_trans k5 l6) hOa (Hp.le_trans k4 (Hp.le_trans l5 l6)) hB k6
    have l26 := Hp.le_trans l3 (Hp.le_trans l4 (Hp.le_trans l5 l6))
    have hR := hR.up l26
    have o3 := hRZ.d.rd.one
    have o4 := hRZ.a.rd.one
    refine Qa (Qo 3 rfl (Qc call15 rfl (Kf x vd vs _ hx hR) (fun rw_ h7 ms7 l7 hF => ?_)))
    obtain ⟨l7', vdw, vaw, mdw, maw, mBw, arw, rfl, rfl, hOdw, hOaw, hAw, hBw⟩ := hF
    refine Fe (A7 fun h8 l8 k8 => (Fe (A7 fun h9 l9 k9 => ?_)))
    have hDw : RdL cI 1 h9 [] vdw x.dims := hOdw.rdh (Hp.le_trans k8 l9)
    have hEw := bagE_rd hBw k9
    have l69 := Hp.le_trans l7 (Hp.le_trans l8 l9)
    have hcur := Hp.le_trans l26 l69
    have hRZ := hRZ.up l69
    have o5 := hDw.rd.one
    have o6 : vaw.oneCell' = true := (hOaw.rd (h := h) (ms := [maw]) (List.Mem.head _)).rd.one
    refine Qa (Qo 6 rfl ?_)
    refine Sa 2 [_, _, _] Bz rfl (by simp [o3, o4, o5, o6]) ?_
    refine Qa (Qo 7 rfl ?_)
    refine Sa 1 [_, _, _] Bz rfl (by simp [o3, o4, o5, o6]) ?_
    refine Qa (Qe ?_)
    refine CF (Vi _ _ _) (AA _ ⟨_, _, ⟨x.P, x.dims, A⟩, arw, _, _, _, _, maw, rfl, hcur, rfl, hRZ, rfl, rfl, hAc, hDw, hOaw, hAw, hEw⟩ Qs)
   exact A3
  refine Az rfl ?_ ?_
  ·refine BZ [.int .i64 0, .slice none 0 0, .slice none 0 0] rfl Bz rfl rfl (fun g9 => Qw (A2 [1, 4] (by kernel_rfl) rfl ?_))
   refine Az rfl ?_ ?_
   ·refine Qc call15 rfl (Kf x vd vs _ hx hR) (fun rz h3 ms3 l3 hF => ?_)
    obtain ⟨l3', vdo, vao, md, ma, mB, A, rfl, rfl, hOd, hOa, hAc, hB⟩ := hF
    refine A7 fun h4 l4 k4 => (A7 fun h5 l5 k5 => (A7 fun h6 l6 k6 => ?_))
    have hRZ : RdZ h6 vdo vao ⟨x.P, x.dims, A⟩ := I8 hOd (Hp.le_trans k5 l6) hOa (Hp.le_trans k4 (Hp.le_trans l5 l6)) hB k6
    have l26 := Hp.le_trans l3 (Hp.le_trans l4 (Hp.le_trans l5 l6))
    have hR := hR.up l26
    have o3 := hRZ.d.rd.one
    have o4 := hRZ.a.rd.one
    refine Qa (A2 [3, 4] (by kernel_rfl) rfl ?_)
    refine Az rfl ?_ ?_
    ·refine Qc call15 rfl (Kf x vd vs _ hx hR) (fun rw_ h7 ms7 l7 hF => ?_)
     obtain ⟨l7', vdw, vaw, mdw, maw, mBw, arw, rfl, rfl, hOdw, hOaw, hAw, hBw⟩ := hF
     refine Fe (A7 fun h8 l8 k8 => (Fe (A7 fun h9 l9 k9 => ?_)))
     have hDw : RdL cI 1 h9 [] vdw x.dims := hOdw.rdh (Hp.le_trans k8 l9)
     have hEw := bagE_rd hBw k9
     have l69 := Hp.le_trans l7 (Hp.le_trans l8 l9)
     have hcur := Hp.le_trans l26 l69
     have hRZ := hRZ.up l69
     have o5 := hDw.rd.one
     have o6 : vaw.oneCell' = true := (hOaw.rd (h := h) (ms := [maw]) (List.Mem.head _)).rd.one
     refine Qa (Qo 4 rfl (BZ [.int .i64 0, .slice none 0 0, .slice none 0 0] rfl Bz rfl rfl (fun g8 => Qa (Qo 6 rfl ?_))))
     refine Sa 0 [_, _, _] Bz rfl (by simp [o3, o4, o5, o6]) ?_
     refine Qa (Qo 7 rfl ?_)
     refine Sa 2 [_, _, _] Bz rfl (by simp [o3, o4, o5, o6]) ?_
     refine Qa (Qe ?_)
     refine CF (K5 _ _ _) (AA _ ⟨_, _, ⟨x.P, x.dims, A⟩, arw, _, _, _, _, maw, rfl, hcur, rfl, hRZ, rfl, rfl, hAc, hDw, hOaw, hAw, hEw⟩ Qs)
    refine Az rfl ?_ ?_
    ·refine BZ [.int .i64 0, .slice none 0 0, .slice none 0 0] rfl Bz rfl rfl (fun g8 => Qa (Qo 3 rfl (Qc call15 rfl (Kf x vd vs _ hx hR) (fun rw_ h7 ms7 l7 hF => ?_))))
     obtain ⟨l7', vdw, vaw, mdw, maw, mBw, arw, rfl, rfl, hOdw, hOaw, hAw, hBw⟩ := hF
     refine Fe (A7 fun h8 l8 k8 => (Fe (A7 fun h9 l9 k9 => ?_)))
     have hDw : RdL cI 1 h9 [] vdw x.dims := hOdw.rdh (Hp.le_trans k8 l9)
     have hEw := bagE_rd hBw k9
     have l69 := Hp.le_trans l7 (Hp.le_trans l8 l9)
     have hcur := Hp.le_trans l26 l69
     have hRZ := hRZ.up l69
     have o5 := hDw.rd.one
     have o6 : vaw.oneCell' = true := (hOaw.rd (h := h) (ms := [maw]) (List.Mem.head _)).rd.one
     refine Qa (Qo 6 rfl ?_)
     refine Sa 1 [_, _, _] Bz rfl (by simp [o3, o4, o5, o6]) ?_
     refine Qa (Qo 7 rfl ?_)
     refine Sa 2 [_, _, _] Bz rfl (by simp [o3, o4, o5, o6]) ?_
     refine Qa (Qe ?_)
     refine CF ((K5 _ _ _).trans (List.Perm.cons _ (List.Perm.swap _ _ _))) (AA _ ⟨_, _, ⟨x.P, x.dims, A⟩, arw, _, _, _, _, maw, rfl, hcur, rfl, hRZ, rfl, rfl, hAc, hDw, hOaw, hAw, hEw⟩ Qs)
    exact A3
   refine Az rfl ?_ ?_
   ·refine BZ [.int .i64 0, .slice none 0 0, .slice none 0 0] rfl Bz rfl rfl (fun g8 => Qw (Qo 1 rfl (Qc call15 rfl (Kf x vd vs _ hx hR) (fun rz h3 ms3 l3 hF => ?_))))
    obtain ⟨l3', vdo, vao, md, ma, mB, A, rfl, rfl, hOd, hOa, hAc, hB⟩ := hF
    refine A7 fun h4 l4 k4 => (A7 fun h5 l5 k5 => (A7 fun h6 l6 k6 => ?_))
    have hRZ : RdZ h6 vdo vao ⟨x.P, x.dims, A⟩ := I8 hOd (Hp.le_trans k5 l6) hOa (Hp.le_trans k4 (Hp.le_trans l5 l6)) hB k6
    have l26 := Hp.le_trans l3 (Hp.le_trans l4 (Hp.le_trans l5 l6))
    have hR := hR.up l26
    have o3 := hRZ.d.rd.one
    have o4 := hRZ.a.rd.one
    refine Qa (Qo 3 rfl (Qc call15 rfl (Kf x vd vs _ hx hR) (fun rw_ h7 ms7 l7 hF => ?_)))
    obtain ⟨l7', vdw, vaw, mdw, maw, mBw, arw, rfl, rfl, hOdw, hOaw, hAw, hBw⟩ := hF
    refine Fe (A7 fun h8 l8 k8 => (Fe (A7 fun h9 l9 k9 => ?_)))
    have hDw : RdL cI 1 h9 [] vdw x.dims := hOdw.rdh (Hp.le_trans k8 l9)
    have hEw := bagE_rd hBw k9
    have l69 := Hp.le_trans l7 (Hp.le_trans l8 l9)
    have hcur := Hp.le_trans l26 l69
    have hRZ := hRZ.up l69
    have o5 := hDw.rd.one
    have o6 : vaw.oneCell' = true := (hOaw.rd (h := h) (ms := [maw]) (List.Mem.head _)).rd.one
    refine Qa (Qo 6 rfl ?_)
    refine Sa 1 [_, _, _] Bz rfl (by simp [o3, o4, o5, o6]) ?_
    refine Qa (Qo 7 rfl ?_)
    refine Sa 2 [_, _, _] Bz rfl (by simp [o3, o4, o5, o6]) ?_
    refine Qa (Qe ?_)
    refine CF ((K5 _ _ _).trans (List.Perm.cons _ (List.Perm.swap _ _ _))) (AA _ ⟨_, _, ⟨x.P, x.dims, A⟩, arw, _, _, _, _, maw, rfl, hcur, rfl, hRZ, rfl, rfl, hAc, hDw, hOaw, hAw, hEw⟩ Qs)
   exact A3
  exact A3
 ·obtain ⟨g8, g9, Z, arw, vz, vza, vw, vwa, ma, rfl, l2', rfl, hRZ, z1, z2, z3, hDw, hOw, w3, hEw⟩ := hI
  refine AL fun h3 l3 hS9 => (AL fun h4 l4 hS8 => ?_)
  have l34 := Hp.le_trans l3 l4
  have hRZ := hRZ.up l34
  have hDw := hDw.up l34
  have hEw : ∀ a ∈ arw, RdL cI 1 h4 [] a.v a.M.e := fun a ha => (hEw a ha).up l34
  have hS9 := hS9.le l4
  have hS5 := hS5.le (Hp.le_trans l2' l34)
  have hRtZ : Z.Rt := x.rt z1 z2 z3
  have hdn := x.dims_len
  have hpb := x.P_bd
  have hA8 := Seg.all hS8
  have hA80 := hA8 0 _ rfl
  have hA9 := Seg.all hS9
  have hA5 := Seg.all hS5
  have hA50 := hA5 0 _ rfl
  obtain ⟨k, hk⟩ : ∃ k : Nat, sp % (x.dims.length : Int) = k := ⟨(sp % (x.dims.length : Int)).toNat, by have := Int.emod_nonneg sp (show (x.dims.length : Int) ≠ 0 by omega); omega⟩
  have hkl : k < x.dims.length := by have := Int.emod_lt_of_pos sp (show 0 < (x.dims.length : Int) by omega); omega
  have hdk := x.d_le k
  have hdc : ∀ ms, Cell h4 ms ((Bl vw).add (k * 1)) (.int .i64 (x.d k)) := fun ms => by
   have := (hDw.any (ms := ms)).cell0 hkl rfl
   have e : x.dims[k] = x.d k := by rw [x.d_eq]; simp [List.getD, hkl]
   rw [e] at this; exact this
  refine Ax (Qm rfl (Qx (TI rfl underlying5 underlying3 rfl (C0 (by omega))) rfl (Qf Bn rfl (Ql rfl underlying24 (hA9 _ _ rfl _) (Qx (AJ hDw.rd.any rfl underlying24 rfl) rfl (Qx (B0 rfl rfl rfl (by omega) (by omega)) rfl (Qm rfl (Aq ?_))))))))
  rw [hk]
  refine Bv (fun sl hh ms' => sl = [(5, .pointer (some ⟨g5, 0, none⟩)), (7, .bool true), (8, .pointer (some ⟨g8, 0, none⟩)), (9, .pointer (some ⟨g9, 0, none⟩)), (10, .int .i64 k), (11, .int .i64 (x.d k))] ∧ h4 = hh ∧ ms' = [ma]) ?_ (fun s h ms hI => ?_)
  ·refine Ad (Qf Bn rfl (Ql rfl underlying24 (hA9 _ _ rfl _) (Qm rfl (Qx (Ah _ hDw.rd.any rfl underlying24 A8 rfl rfl rfl (by omega)) rfl (Ql rfl underlying3 (hdc _) (Qm rfl (Ak ?_)))))))
   exact AA _ ⟨rfl, rfl, rfl⟩ Qs
  ·obtain ⟨rfl, rfl, rfl⟩ := hI
   refine Ac (Ax (Qm rfl (Qm rfl (Aq ?_))))
   refine AF rfl (fun hd2 => ?_) (fun hd2 => ?_)
   ·have o7 := hRZ.d.rd.one
    have o8 := hRZ.a.rd.one
    have o9 := hDw.rd.one
    have o10 : vwa.oneCell' = true := (hOw.rd (h := h4) (ms := [ma]) (List.Mem.head _)).rd.one
    refine Ac (AW (n := 9) (bs := [true, false, false, false, false, false, false, false, false]) [true] Cd (by kernel_rfl) (by kernel_rfl) rfl rfl (Qq rfl ?_))
    unfold CD
    simp only [List.cons_append, List.nil_append]
    refine Qo 1 rfl (Qm rfl (Qw (BH 2 40 (by kernel_rfl) rfl rfl rfl rfl rfl (Hp.le_refl _) rfl (oG rfl underlying30 Bz (Seg.any hS8)) (BH 4 42 (by kernel_rfl) rfl rfl rfl rfl rfl (Hp.le_refl _) rfl (oG rfl underlying30 Bz (Seg.any hS9)) (Qo 3 rfl (A7 fun h5 l5 k5 => ?_))))))
    have hRW : RdZ h5 vw vwa ⟨x.P, x.dims, arw⟩ := ⟨hDw.up l5, hOw.rdh k5, fun a ha => (hEw a ha).up l5⟩
    refine Ce rfl rfl rfl rfl (Qc call17 rfl (bars_p z1 vz vza _ hRtZ (hRZ.up l5)) (fun rb h7 ms7 l7 hF => ?_))
    obtain ⟨l7', bl, mb, rfl, hOb, hb1, hb2, hb3, hIB⟩ := hF
    refine AH hOb fun h8 l8 hRb => ?_
    have hRW := hRW.up (Hp.le_trans l7 l8)
    have hcurA := Hp.le_trans l5 (Hp.le_trans l7 l8)
    refine Qa (Qo 5 rfl (Ce rfl rfl rfl rfl (Qc call17 rfl (bars_p (Z := ⟨x.P, x.dims, arw⟩) rfl vw vwa _ (x.rt rfl rfl w3) hRW) (fun rc h9 ms9 l9 hF => ?_))))
    obtain ⟨l9', bl', mc, rfl, hOc, hc1, hc2, hc3, hIC⟩ := hF
    refine AH hOc fun h10 l10 hRc => ?_
    have hRb := hRb.up (Hp.le_trans l9 l10)
    have heq := x.same_bars z1 z2 z3 (W := ⟨x.P, x.dims, arw⟩) rfl rfl w3 hIB hIC
    have hcur := Hp.le_trans hcurA (Hp.le_trans l9 l10)
    refine Qa (Qo 6 rfl (Qg (AG rfl call16 rfl (Sy hRb hRc heq _)) rfl (Qa (Qo 7 rfl (Qm rfl (Qa (Qo 8 rfl (Qm rfl (Qa (Qe (Ab (Ao ?_))))))))))))
    exact Am rfl rfl rfl
   ·obtain ⟨d, hd⟩ : ∃ d, x.d k = d := ⟨_, rfl⟩
    rw [hd] at hdk hd2 ⊢
    have hd3 : 2 ≤ d := by omega
    obtain ⟨i, hi⟩ : ∃ i : Nat, q0 % (d : Int) = i := ⟨(q0 % (d : Int)).toNat, by have := Int.emod_nonneg q0 (show (d : Int) ≠ 0 by omega); omega⟩
    have hil : i < d := by have := Int.emod_lt_of_pos q0 (show 0 < (d : Int) by omega); omega
    obtain ⟨j, hj⟩ : ∃ j : Nat, q1 % (d : Int) = j := ⟨(q1 % (d : Int)).toNat, by have := Int.emod_nonneg q1 (show (d : Int) ≠ 0 by omega); omega⟩
    have hjl : j < d := by have := Int.emod_lt_of_pos q1 (show 0 < (d : Int) by omega); omega
    have hA51 := hA5 1 _ rfl
    have hA52 := hA5 2 _ rfl
    refine Ai (Ab ?_)
    refine Bv (fun sl hh ms' => sl = [(5, .pointer (some ⟨g5, 0, none⟩)), (7, .bool true), (8, .pointer (some ⟨g8, 0, none⟩)), (9, .pointer (some ⟨g9, 0, none⟩)), (10, .int .i64 k), (11, .int .i64 d), (12, .int .i64 i), (13, .int .i64 j)] ∧ h4 = hh ∧ ms' = [ma]) ?_ (fun s h ms hI => ?_)
    ·rw [← hi, ← hj]
     refine BB 11 Cd (by kernel_rfl) rfl (AV (C8 0 rfl underlying40 WY rfl rfl rfl (by omega)) rfl rfl (Wl rfl underlying5 (hA50 _) (AV (TI rfl underlying5 underlying3 rfl (C0 (by omega))) rfl rfl (Wm rfl (AV (B0 rfl rfl rfl (by omega) (by omega)) rfl rfl (AV (C8 1 rfl underlying40 WY rfl rfl rfl (by omega)) rfl rfl (Wl rfl underlying5 (hA51 _) (AV (TI rfl underlying5 underlying3 rfl (C0 (by omega))) rfl rfl (Wm rfl (AV (B0 rfl rfl rfl (by omega) (by omega)) rfl rfl (Wm rfl (BC (Qm rfl (Ak ?_))))))))))))))
     exact AA _ ⟨rfl, rfl, rfl⟩ Qs
    ·obtain ⟨rfl, rfl, rfl⟩ := hI
     refine Bv (fun sl hh ms' => ∃ (g14 g15 : Nat) (ec eb : Value) (mc mb : Hp), sl = [(5, .pointer (some ⟨g5, 0, none⟩)), (7, .bool true), (8, .pointer (some ⟨g8, 0, none⟩)), (9, .pointer (some ⟨g9, 0, none⟩)), (10, .int .i64 k), (11, .int .i64 d), (12, .int .i64 i), (13, .int .i64 j), (14, .pointer (some ⟨g14, 0, none⟩)), (15, .pointer (some ⟨g15, 0, none⟩))] ∧ h4 = hh ∧ ms' = [AX g15 42 [.int .i64 x.P, .int .i64 d, .int .i64 d, eb], AX g14 42 [.int .i64 x.P, .int .i64 d, .int .i64 d, ec], mc, mb, ma] ∧ OwnL cI 1 3 mc ec (mat d d Dl) ∧ OwnL cI 1 3 mb eb (mat d d Dl)) ?_ (fun s h ms hI => ?_)
     ·refine AW (n := 12) (bs := [true, true, true, false, true, true, true, false, false, false, false, false]) [true, true, true, false, true, true, true] Cd (by kernel_rfl) (by kernel_rfl) rfl rfl (QF CG rfl (QL rfl underlying3 (hA80 _) (Qq rfl (QF CG rfl (QL rfl underlying3 (hA80 _) (Qq rfl ?_))))))
      unfold CD
      simp only [List.cons_append, List.nil_append]
      refine A2 [3, 8, 9] (by kernel_rfl) rfl ?_
      refine Az rfl ?_ ?_
      ·refine Qc call20 rfl (Nc x.P d _ x.P_is (by omega)) (fun xc h5 ms5 l5 hF => ?_)
       obtain ⟨rfl, ec, mc, rfl, rfl, hOc⟩ := hF
       have oc : ec.oneCell' = true := (hOc.rd (h := h4) (ms := [mc]) (List.Mem.head _)).rd.one
       refine Qw (A2 [7, 8, 9] (by kernel_rfl) rfl ?_)
       refine Az rfl ?_ ?_
       ·refine Qc call20 rfl (Nc x.P d _ x.P_is (by omega)) (fun xb h6 ms6 l6 hF => ?_)
        obtain ⟨rfl, eb, mb, rfl, rfl, hOb⟩ := hF
        have ob : eb.oneCell' = true := (hOb.rd (h := h4) (ms := [mb]) (List.Mem.head _)).rd.one
        refine Qw (A2 [8, 9] (by kernel_rfl) rfl ?_)
        refine Az rfl ?_ ?_
        ·refine BZ [.int .i64 0, .int .i64 0, .int .i64 0, .slice none 0 0] rfl AI rfl rfl (fun g14 => Qw (Qo 9 rfl (BZ [.int .i64 0, .int .i64 0, .int .i64 0, .slice none 0 0] rfl AI rfl rfl (fun g15 => Qw (Qo 10 rfl ?_)))))
         refine Sa 1 [_, _, _, _] AI rfl (by simp [oc, ob]) ?_
         refine Qw (Qo 11 rfl ?_)
         refine Sa 0 [_, _, _, _] AI rfl (by simp [oc, ob]) ?_
         refine Qw (Qe ?_)
         refine CF (ms' := [AX g15 42 [.int .i64 x.P, .int .i64 d, .int .i64 d, eb], AX g14 42 [.int .i64 x.P, .int .i64 d, .int .i64 d, ec], mc, mb, ma]) (by repeat (first | exact List.Perm.nil | exact List.Perm.refl _ | refine (Cw (i := 0) rfl).trans (List.Perm.cons _ ?_) | refine (Cw (i := 1) rfl).trans (List.Perm.cons _ ?_) | refine (Cw (i := 2) rfl).trans (List.Perm.cons _ ?_) | refine (Cw (i := 3) rfl).trans (List.Perm.cons _ ?_) | refine (Cw (i := 4) rfl).trans (List.Perm.cons _ ?_))) (AA _ ⟨g14, g15, ec, eb, mc, mb, rfl, rfl, rfl, hOc, hOb⟩ Qs)
        refine Az rfl ?_ ?_
        ·refine BZ [.int .i64 0, .int .i64 0, .int .i64 0, .slice none 0 0] rfl AI rfl rfl (fun g15 => Qw (Qo 8 rfl (BZ [.int .i64 0, .int .i64 0, .int .i64 0, .slice none 0 0] rfl AI rfl rfl (fun g14 => Qw (Qo 10 rfl ?_)))))
         refine Sa 0 [_, _, _, _] AI rfl (by simp [oc, ob]) ?_
         refine Qw (Qo 11 rfl ?_)
         refine Sa 1 [_, _, _, _] AI rfl (by simp [oc, ob]) ?_
         refine Qw (Qe ?_)
         refine CF (ms' := [AX g15 42 [.int .i64 x.P, .int .i64 d, .int .i64 d, eb], AX g14 42 [.int .i64 x.P, .int .i64 d, .int .i64 d, ec], mc, mb, ma]) (by repeat (first | exact List.Perm.nil | exact List.Perm.refl _ | refine (Cw (i := 0) rfl).trans (List.Perm.cons _ ?_) | refine (Cw (i := 1) rfl).trans (List.Perm.cons _ ?_) | refine (Cw (i := 2) rfl).trans (List.Perm.cons _ ?_) | refine (Cw (i := 3) rfl).trans (List.Perm.cons _ ?_) | refine (Cw (i := 4) rfl).trans (List.Perm.cons _ ?_))) (AA _ ⟨g14, g15, ec, eb, mc, mb, rfl, rfl, rfl, hOc, hOb⟩ Qs)
        exact A3
       refine Az rfl ?_ ?_
       ·refine BZ [.int .i64 0, .int .i64 0, .int .i64 0, .slice none 0 0] rfl AI rfl rfl (fun g14 => Qw (A2 [7, 9] (by kernel_rfl) rfl ?_))
        refine Az rfl ?_ ?_
        ·refine Qc call20 rfl (Nc x.P d _ x.P_is (by omega)) (fun xb h6 ms6 l6 hF => ?_)
         obtain ⟨rfl, eb, mb, rfl, rfl, hOb⟩ := hF
         have ob : eb.oneCell' = true := (hOb.rd (h := h4) (ms := [mb]) (List.Mem.head _)).rd.one
         refine Qw (Qo 9 rfl (BZ [.int .i64 0, .int .i64 0, .int .i64 0, .slice none 0 0] rfl AI rfl rfl (fun g15 => Qw (Qo 10 rfl ?_))))
         refine Sa 2 [_, _, _, _] AI rfl (by simp [oc, ob]) ?_
         refine Qw (Qo 11 rfl ?_)
         refine Sa 0 [_, _, _, _] AI rfl (by simp [oc, ob]) ?_
         refine Qw (Qe ?_)
         refine CF (ms' := [AX g15 42 [.int .i64 x.P, .int .i64 d, .int .i64 d, eb], AX g14 42 [.int .i64 x.P, .int .i64 d, .int .i64 d, ec], mc, mb, ma]) (by repeat (first | exact List.Perm.nil | exact List.Perm.refl _ | refine (Cw (i := 0) rfl).trans (List.Perm.cons _ ?_) | refine (Cw (i := 1) rfl).trans (List.Perm.cons _ ?_) | refine (Cw (i := 2) rfl).trans (List.Perm.cons _ ?_) | refine (Cw (i := 3) rfl).trans (List.Perm.cons _ ?_) | refine (Cw (i := 4) rfl).trans (List.Perm.cons _ ?_))) (AA _ ⟨g14, g15, ec, eb, mc, mb, rfl, rfl, rfl, hOc, hOb⟩ Qs)
        refine Az rfl ?_ ?_
        ·refine BZ [.int .i64 0, .int .i64 0, .int .i64 0, .slice none 0 0] rfl AI rfl rfl (fun g15 => Qw (Qo 7 rfl (Qc call20 rfl (Nc x.P d _ x.P_is (by omega)) (fun xb h6 ms6 l6 hF => ?_))))
         obtain ⟨rfl, eb, mb, rfl, rfl, hOb⟩ := hF
         have ob : eb.oneCell' = true := (hOb.rd (h := h4) (ms := [mb]) (List.Mem.head _)).rd.one
         refine Qw (Qo 10 rfl ?_)
         refine Sa 2 [_, _, _, _] AI rfl (by simp [oc, ob]) ?_
         refine Qw (Qo 11 rfl ?_)
         refine Sa 1 [_, _, _, _] AI rfl (by simp [oc, ob]) ?_
         refine Qw (Qe ?_)
         refine CF (ms' := [AX g15 42 [.int .i64 x.P, .int .i64 d, .int .i64 d, eb], AX g14 42 [.int .i64 x.P, .int .i64 d, .int .i64 d, ec], mc, mb, ma]) (by repeat (first | exact List.Perm.nil | exact List.Perm.refl _ | refine (Cw (i := 0) rfl).trans (List.Perm.cons _ ?_) | refine (Cw (i := 1) rfl).trans (List.Perm.cons _ ?_) | refine (Cw (i := 2) rfl).trans (List.Perm.cons _ ?_) | refine (Cw (i := 3) rfl).trans (List.Perm.cons _ ?_) | refine (Cw (i := 4) rfl).trans (List.Perm.cons _ ?_))) (AA _ ⟨g14, g15, ec, eb, mc, mb, rfl, rfl, rfl, hOc, hOb⟩ Qs)
        exact A3
       refine Az rfl ?_ ?_
       ·refine BZ [.int .i64 0, .int .i64 0, .int .i64 0, .slice none 0 0] rfl AI rfl rfl (fun g15 => Qw (A2 [7, 8] (by kernel_rfl) rfl ?_))
        refine Az rfl ?_ ?_
        ·refine Qc call20 rfl (Nc x.P d _ x.P_is (by omega)) (fun xb h6 ms6 l6 hF => ?_)
         obtain ⟨rfl, eb, mb, rfl, rfl, hOb⟩ := hF
         have ob : eb.oneCell' = true := (hOb.rd (h := h4) (ms := [mb]) (List.Mem.head _)).rd.one
         refine Qw (Qo 8 rfl (BZ [.int .i64 0, .int .i64 0, .int .i64 0, .slice none 0 0] rfl AI rfl rfl (fun g14 => Qw (Qo 10 rfl ?_))))
         refine Sa 0 [_, _, _, _] AI rfl (by simp [oc, ob]) ?_
         refine Qw (Qo 11 rfl ?_)
         refine Sa 2 [_, _, _, _] AI rfl (by simp [oc, ob]) ?_
         refine Qw (Qe ?_)
         refine CF (ms' := [AX g15 42 [.int .i64 x.P, .int .i64 d, .int .i64 d, eb], AX g14 42 [.int .i64 x.P, .int .i64 d, .int .i64 d, ec], mc, mb, ma]) (by repeat (first | exact List.Perm.nil | exact List.Perm.refl _ | refine (Cw (i := 0) rfl).trans (List.Perm.cons _ ?_) | refine (Cw (i := 1) rfl).trans (List.Perm.cons _ ?_) | refine (Cw (i := 2) rfl).trans (List.Perm.cons _ ?_) | refine (Cw (i := 3) rfl).trans (List.Perm.cons _ ?_) | refine (Cw (i := 4) rfl).trans (List.Perm.cons _ ?_))) (AA _ ⟨g14, g15, ec, eb, mc, mb, rfl, rfl, rfl, hOc, hOb⟩ Qs)
        refine Az rfl ?_ ?_
        ·refine BZ [.int .i64 0, .int .i64 0, .int .i64 0, .slice none 0 0] rfl AI rfl rfl (fun g14 => Qw (Qo 7 rfl (Qc call20 rfl (Nc x.P d _ x.P_is (by omega)) (fun xb h6 ms6 l6 hF => ?_))))
         obtain ⟨rfl, eb, mb, rfl, rfl, hOb⟩ := hF
         have ob : eb.oneCell' = true := (hOb.rd (h := h4) (ms := [mb]) (List.Mem.head _)).rd.one
         refine Qw (Qo 10 rfl ?_)
         refine Sa 1 [_, _, _, _] AI rfl (by simp [oc, ob]) ?_
         refine Qw (Qo 11 rfl ?_)
         refine Sa 2 [_, _, _, _] AI rfl (by simp [oc, ob]) ?_
         refine Qw (Qe ?_)
         refine CF (ms' := [AX g15 42 [.int .i64 x.P, .int .i64 d, .int .i64 d, eb], AX g14 42 [.int .i64 x.P, .int .i64 d, .int .i64 d, ec], mc, mb, ma]) (by repeat (first | exact List.Perm.nil | exact List.Perm.refl _ | refine (Cw (i := 0) rfl).trans (List.Perm.cons _ ?_) | refine (Cw (i := 1) rfl).trans (List.Perm.cons _ ?_) | refine (Cw (i := 2) rfl).trans (List.Perm.cons _ ?_) | refine (Cw (i := 3) rfl).trans (List.Perm.cons _ ?_) | refine (Cw (i := 4) rfl).trans (List.Perm.cons _ ?_))) (AA _ ⟨g14, g15, ec, eb, mc, mb, rfl, rfl, rfl, hOc, hOb⟩ Qs)
        exact A3
       exact A3
      refine Az rfl ?_ ?_
      ·refine BZ [.int .i64 0, .int .i64 0, .int .i64 0, .slice none 0 0] rfl AI rfl rfl (fun g14 => Qw (A2 [3, 9] (by kernel_rfl) rfl ?_))
       refine Az rfl ?_ ?_
       ·refine Qc call20 rfl (Nc x.P d _ x.P_is (by omega)) (fun xc h5 ms5 l5 hF => ?_)
        obtain ⟨rfl, ec, mc, rfl, rfl, hOc⟩ := hF
        have oc : ec.oneCell' = true := (hOc.rd (h := h4) (ms := [mc]) (List.Mem.head _)).rd.one
        refine Qw (A2 [7, 9] (by kernel_rfl) rfl ?_)
        refine Az rfl ?_ ?_
        ·refine Qc call20 rfl (Nc x.P d _ x.P_is (by omega)) (fun xb h6 ms6 l6 hF => ?_)
         obtain ⟨rfl, eb, mb, rfl, rfl, hOb⟩ := hF
         have ob : eb.oneCell' = true := (hOb.rd (h := h4) (ms := [mb]) (List.Mem.head _)).rd.one
         refine Qw (Qo 9 rfl (BZ [.int .i64 0, .int .i64 0, .int .i64 0, .slice none 0 0] rfl AI rfl rfl (fun g15 => Qw (Qo 10 rfl ?_))))
         refine Sa 3 [_, _, _, _] AI rfl (by simp [oc, ob]) ?_
         refine Qw (Qo 11 rfl ?_)
         refine Sa 0 [_, _, _, _] AI rfl (by simp [oc, ob]) ?_
         refine Qw (Qe ?_)
         refine CF (ms' := [AX g15 42 [.int .i64 x.P, .int .i64 d, .int .i64 d, eb], AX g14 42 [.int .i64 x.P, .int .i64 d, .int .i64 d, ec], mc, mb, ma]) (by repeat (first | exact List.Perm.nil | exact List.Perm.refl _ | refine (Cw (i := 0) rfl).trans (List.Perm.cons _ ?_) | refine (Cw (i := 1) rfl).trans (List.Perm.cons _ ?_) | refine (Cw (i := 2) rfl).trans (List.Perm.cons _ ?_) | refine (Cw (i := 3) rfl).trans (List.Perm.cons _ ?_) | refine (Cw (i := 4) rfl).trans (List.Perm.cons _ ?_))) (AA _ ⟨g14, g15, ec, eb, mc, mb, rfl, rfl, rfl, hOc, hOb⟩ Qs)
        refine Az rfl ?_ ?_
        ·refine BZ [.int .i64 0, .int .i64 0, .int .i64 0, .slice none 0 0] rfl AI rfl rfl (fun g15 => Qw (Qo 7 rfl (Qc call20 rfl (Nc x.P d _ x.P_is (by omega)) (fun xb h6 ms6 l6 hF => ?_))))
         obtain ⟨rfl, eb, mb, rfl, rfl, hOb⟩ := hF
         have ob : eb.oneCell' = true := (hOb.rd (h := h4) (ms := [mb]) (List.Mem.head _)).rd.one
         refine Qw (Qo 10 rfl ?_)
         refine Sa 3 [_, _, _, _] AI rfl (by simp [oc, ob]) ?_
         refine Qw (Qo 11 rfl ?_)
         refine Sa 1 [_, _, _, _] AI rfl (by simp [oc, ob]) ?_
         refine Qw (Qe ?_)
         refine CF (ms' := [AX g15 42 [.int .i64 x.P, .int .i64 d, .int .i64 d, eb], AX g14 42 [.int .i64 x.P, .int .i64 d, .int .i64 d, ec], mc, mb, ma]) (by repeat (first | exact List.Perm.nil | exact List.Perm.refl _ | refine (Cw (i := 0) rfl).trans (List.Perm.cons _ ?_) | refine (Cw (i := 1) rfl).trans (List.Perm.cons _ ?_) | refine (Cw (i := 2) rfl).trans (List.Perm.cons _ ?_) | refine (Cw (i := 3) rfl).trans (List.Perm.cons _ ?_) | refine (Cw (i := 4) rfl).trans (List.Perm.cons _ ?_))) (AA _ ⟨g14, g15, ec, eb, mc, mb, rfl, rfl, rfl, hOc, hOb⟩ Qs)
        exact A3
       refine Az rfl ?_ ?_
       ·refine BZ [.int .i64 0, .int .i64 0, .int .i64 0, .slice none 0 0] rfl AI rfl rfl (fun g15 => Qw (Qo 3 rfl (Qc call20 rfl (Nc x.P d _ x.P_is (by omega)) (fun xc h5 ms5 l5 hF => ?_))))
        obtain ⟨rfl, ec, mc, rfl, rfl, hOc⟩ := hF
        have oc : ec.oneCell' = true := (hOc.rd (h := h4) (ms := [mc]) (List.Mem.head _)).rd.one
        refine Qw (Qo 7 rfl (Qc call20 rfl (Nc x.P d _ x.P_is (by omega)) (fun xb h6 ms6 l6 hF => ?_)))
        obtain ⟨rfl, eb, mb, rfl, rfl, hOb⟩ := hF
        have ob : eb.oneCell' = true := (hOb.rd (h := h4) (ms := [mb]) (List.Mem.head _)).rd.one
        refine Qw (Qo 10 rfl ?_)
        refine Sa 3 [_, _, _, _] AI rfl (by simp [oc, ob]) ?_
        refine Qw (Qo 11 rfl ?_)
        refine Sa 2 [_, _, _, _] AI rfl (by simp [oc, ob]) ?_
        refine Qw (Qe ?_)
        refine CF (ms' := [AX g15 42 [.int .i64 x.P, .int .i64 d, .int .i64 d, eb], AX g14 42 [.int .i64 x.P, .int .i64 d, .int .i64 d, ec], mc, mb, ma]) (by repeat (first | exact List.Perm.nil | exact List.Perm.refl _ | refine (Cw (i := 0) rfl).trans (List.Perm.cons _ ?_) | refine (Cw (i := 1) rfl).trans (List.Perm.cons _ ?_) | refine (Cw (i := 2) rfl).trans (List.Perm.cons _ ?_) | refine (Cw (i := 3) rfl).trans (List.Perm.cons _ ?_) | refine (Cw (i := 4) rfl).trans (List.Perm.cons _ ?_))) (AA _ ⟨g14, g15, ec, eb, mc, mb, rfl, rfl, rfl, hOc, hOb⟩ Qs)
       exact A3
      refine Az rfl ?_ ?_
      ·refine BZ [.int .i64 0, .int .i64 0, .int .i64 0, .slice none 0 0] rfl AI rfl rfl (fun g15 => Qw (A2 [3, 8] (by kernel_rfl) rfl ?_))
       refine Az rfl ?_ ?_
       ·refine Qc call20 rfl (Nc x.P d _ x.P_is (by omega)) (fun xc h5 ms5 l5 hF => ?_)
        obtain ⟨rfl, ec, mc, rfl, rfl, hOc⟩ := hF
        have oc : ec.oneCell' = true := (hOc.rd (h := h4) (ms := [mc]) (List.Mem.head _)).rd.one
        refine Qw (A2 [7, 8] (by kernel_rfl) rfl ?_)
        refine Az rfl ?_ ?_
        ·refine Qc call20 rfl (Nc x.P d _ x.P_is (by omega)) (fun xb h6 ms6 l6 hF => ?_)
         obtain ⟨rfl, eb, mb, rfl, rfl, hOb⟩ := hF
         have ob : eb.oneCell' = true := (hOb.rd (h := h4) (ms := [mb]) (List.Mem.head _)).rd.one
         refine Qw (Qo 8 rfl (BZ [.int .i64 0, .int .i64 0, .int .i64 0, .slice none 0 0] rfl AI rfl rfl (fun g14 => Qw (Qo 10 rfl ?_))))
         refine Sa 0 [_, _, _, _] AI rfl (by simp [oc, ob]) ?_
         refine Qw (Qo 11 rfl ?_)
         refine Sa 3 [_, _, _, _] AI rfl (by simp [oc, ob]) ?_
         refine Qw (Qe ?_)
         refine CF (ms' := [AX g15 42 [.int .i64 x.P, .int .i64 d, .int .i64 d, eb], AX g14 42 [.int .i64 x.P, .int .i64 d, .int .i64 d, ec], mc, mb, ma]) (by repeat (first | exact List.Perm.nil | exact List.Perm.refl _ | refine (Cw (i := 0) rfl).trans (List.Perm.cons _ ?_) | refine (Cw (i := 1) rfl).trans (List.Perm.cons _ ?_) | refine (Cw (i := 2) rfl).trans (List.Perm.cons _ ?_) | refine (Cw (i := 3) rfl).trans (List.Perm.cons _ ?_) | refine (Cw (i := 4) rfl).trans (List.Perm.cons _ ?_))) (AA _ ⟨g14, g15, ec, eb, mc, mb, rfl, rfl, rfl, hOc, hOb⟩ Qs)
        refine Az rfl ?_ ?_
        ·refine BZ [.int .i64 0, .int .i64 0, .int .i64 0, .slice none 0 0] rfl AI rfl rfl (fun g14 => Qw (Qo 7 rfl (Qc call20 rfl (Nc x.P d _ x.P_is (by omega)) (fun xb h6 ms6 l6 hF => ?_))))
         obtain ⟨rfl, eb, mb, rfl, rfl, hOb⟩ := hF
         have ob : eb.oneCell' = true := (hOb.rd (h := h4) (ms := [mb]) (List.Mem.head _)).rd.one
         refine Qw (Qo 10 rfl ?_)
         refine Sa 1 [_, _, _, _] AI rfl (by simp [oc, ob]) ?_
         refine Qw (Qo 11 rfl ?_)
         refine Sa 3 [_, _, _, _] AI rfl (by simp [oc, ob]) ?_
         refine Qw (Qe ?_)
         refine CF (ms' := [AX g15 42 [.int .i64 x.P, .int .i64 d, .int .i64 d, eb], AX g14 42 [.int .i64 x.P, .int .i64 d, .int .i64 d, ec], mc, mb, ma]) (by repeat (first | exact List.Perm.nil | exact List.Perm.refl _ | refine (Cw (i := 0) rfl).trans (List.Perm.cons _ ?_) | refine (Cw (i := 1) rfl).trans (List.Perm.cons _ ?_) | refine (Cw (i := 2) rfl).trans (List.Perm.cons _ ?_) | refine (Cw (i := 3) rfl).trans (List.Perm.cons _ ?_) | refine (Cw (i := 4) rfl).trans (List.Perm.cons _ ?_))) (AA _ ⟨g14, g15, ec, eb, mc, mb, rfl, rfl, rfl, hOc, hOb⟩ Qs)
        exact A3
       refine Az rfl ?_ ?_
       ·refine BZ [.int .i64 0, .int .i64 0, .int .i64 0, .slice none 0 0] rfl AI rfl rfl (fun g14 => Qw (Qo 3 rfl (Qc call20 rfl (Nc x.P d _ x.P_is (by omega)) (fun xc h5 ms5 l5 hF => ?_))))
        obtain ⟨rfl, ec, mc, rfl, rfl, hOc⟩ := hF
        have oc : ec.oneCell' = true := (hOc.rd (h := h4) (ms := [mc]) (List.Mem.head _)).rd.one
        refine Qw (Qo 7 rfl (Qc call20 rfl (Nc x.P d _ x.P_is (by omega)) (fun xb h6 ms6 l6 hF => ?_)))
        obtain ⟨rfl, eb, mb, rfl, rfl, hOb⟩ := hF
        have ob : eb.oneCell' = true := (hOb.rd (h := h4) (ms := [mb]) (List.Mem.head _)).rd.one
        refine Qw (Qo 10 rfl ?_)
        refine Sa 2 [_, _, _, _] AI rfl (by simp [oc, ob]) ?_
        refine Qw (Qo 11 rfl ?_)
        refine Sa 3 [_, _, _, _] AI rfl (by simp [oc, ob]) ?_
        refine Qw (Qe ?_)
        refine CF (ms' := [AX g15 42 [.int .i64 x.P, .int .i64 d, .int .i64 d, eb], AX g14 42 [.int .i64 x.P, .int .i64 d, .int .i64 d, ec], mc, mb, ma]) (by repeat (first | exact List.Perm.nil | exact List.Perm.refl _ | refine (Cw (i := 0) rfl).trans (List.Perm.cons _ ?_) | refine (Cw (i := 1) rfl).trans (List.Perm.cons _ ?_) | refine (Cw (i := 2) rfl).trans (List.Perm.cons _ ?_) | refine (Cw (i := 3) rfl).trans (List.Perm.cons _ ?_) | refine (Cw (i := 4) rfl).trans (List.Perm.cons _ ?_))) (AA _ ⟨g14, g15, ec, eb, mc, mb, rfl, rfl, rfl, hOc, hOb⟩ Qs)
       exact A3
      exact A3
     ·obtain ⟨g14, g15, ec, eb, mc, mb, rfl, rfl, rfl, hOc, hOb⟩ := hI
      refine AL fun h5 l5 hS15 => (AL fun h6 l6 hS14 => ?_)
      have l46 := Hp.le_trans l5 l6
      have hS15 := hS15.le l6
      have hA14 := Seg.all hS14
      have hA15 := Seg.all hS15
      have hA8 := Seg.all (hS8.le l46)
      have hA80 := hA8 0 _ rfl
      have hA9 := Seg.all (hS9.le l46)
      have hA5 := Seg.all (hS5.le l46)
      have hA52 := hA5 2 _ rfl
      obtain ⟨n, hn⟩ : ∃ n : Int, q2 % x.P = n := ⟨_, rfl⟩
      have hnb : 0 ≤ n ∧ n < x.P := by rw [← hn]; exact ⟨Int.emod_nonneg _ (by omega), Int.emod_lt_of_pos _ (by omega)⟩
      obtain ⟨n2, hn2⟩ : ∃ n2 : Int, (x.P - n) % x.P = n2 := ⟨_, rfl⟩
      have hnb2 : 0 ≤ n2 ∧ n2 < x.P := by rw [← hn2]; exact ⟨Int.emod_nonneg _ (by omega), Int.emod_lt_of_pos _ (by omega)⟩
      have hix : i * d + j < d * d := Cp hil hjl
      have hdd : d * d ≤ 16 := Nat.mul_le_mul hdk hdk
      have lc : (mat d d Dl).length = d * d := AY _ _ _
      have oc : ec.oneCell' = true := (hOc.rd (h := h4) (ms := [mc]) (List.Mem.head _)).rd.one
      have ob : eb.oneCell' = true := (hOb.rd (h := h4) (ms := [mb]) (List.Mem.head _)).rd.one
      refine Bv (fun sl hh ms' => ∃ (mc mb : Hp), sl = [(7, .bool true), (8, .pointer (some ⟨g8, 0, none⟩)), (9, .pointer (some ⟨g9, 0, none⟩)), (10, .int .i64 k), (14, .pointer (some ⟨g14, 0, none⟩)), (15, .pointer (some ⟨g15, 0, none⟩))] ∧ h6 = hh ∧ ms' = [mc, mb, ma] ∧ OwnL cI 1 3 mc ec (mat d d (eyeB i j n)) ∧ OwnL cI 1 3 mb eb (mat d d (eyeB i j n2))) ?_ (fun s h ms hI => ?_)
      ·refine Ac (Ad (Qm rfl (Qm rfl (Qm rfl (Aq ?_)))))
       refine AF rfl (fun hne => ?_) (fun hne => ?_)
       ·have hij : i ≠ j := by omega
        have eA : ∀ n, eyeB i j n = DB Dl i j n := fun n => if_neg hij
        refine Ax (Qx (C8 2 rfl underlying40 WY rfl rfl rfl (by omega)) rfl (Ql rfl underlying5 (hA52 _) (Qx (TI rfl underlying5 underlying3 rfl (C0 (by omega))) rfl (Qf CG rfl (Ql rfl underlying3 (hA80 _) (Qx (B0 rfl rfl rfl (by omega) (by omega)) rfl (Qm rfl (Aq ?_))))))))
        rw [hn]
        refine Ax (Qf Bc rfl (Ql rfl underlying24 (hA14 _ _ rfl _) (Qm rfl (Qm rfl (Qx (oM rfl) rfl (Qm rfl (Qx (oA rfl) rfl (Qm rfl (Qx (Bo (i * d + j) (hOc.rd (h := h4) (ms := [mc]) (List.Mem.head _)).rd rfl underlying24 A8 rfl rfl (by omega) (by omega)) rfl (Bu 0 (i * d + j) hOc rfl A8 rfl rfl rfl (by omega) rfl rfl (fun mc' hOc' => ?_)))))))))))
        rw [C4 n hjl, ← eA] at hOc'
        refine Aq (BB 14 Cd (by kernel_rfl) rfl (Wf Bc rfl (Wl rfl underlying24 (hA15 _ _ rfl _) (Wm rfl (Wm rfl (AV (oM rfl) rfl rfl (Wm rfl (AV (oA rfl) rfl rfl (Wf CG rfl (Wl rfl underlying3 (hA80 _) (Wm rfl (AV (oS rfl) rfl rfl (Wf CG rfl (Wl rfl underlying3 (hA80 _) (AV (B0 rfl rfl rfl (by omega) (by omega)) rfl rfl (BC (Qx (Bo (i * d + j) (hOb.rd (h := h4) (ms := [mb]) (List.Mem.head _)).rd rfl underlying24 A8 rfl rfl (by omega) (by omega)) rfl (Bu 1 (i * d + j) hOb rfl A8 rfl rfl rfl (by omega) rfl rfl (fun mb' hOb' => ?_)))))))))))))))))))
        rw [hn2, C4 n2 hjl, ← eA] at hOb'
        refine Ak ?_
        exact AA _ ⟨mc', mb', rfl, rfl, rfl, hOc', hOb'⟩ Qs
       ·have hij : i = j := by omega
        have eA : ∀ n, eyeB i j n = Dl := fun n => if_pos hij
        refine Ai ?_
        exact AA _ ⟨mc, mb, rfl, rfl, rfl, by rw [eA]; exact hOc, by rw [eA]; exact hOb⟩ Qs
      ·obtain ⟨mc, mb, rfl, rfl, rfl, hOc, hOb⟩ := hI
       refine Bg hOc fun h7 l7 hRc => (Bg hOb fun h8 l8 hRb => ?_)
       have hRc := hRc.up l8
       have l48 := Hp.le_trans l46 (Hp.le_trans l7 l8)
       have l68 := Hp.le_trans l7 l8
       have hRZ := hRZ.up l48
       have hDw := hDw.up l48
       have hEw : ∀ a ∈ arw, RdL cI 1 h8 [] a.v a.M.e := fun a ha => (hEw a ha).up l48
       have hS8 := hS8.le l48
       have hS9 := hS9.le l48
       have hS14 := hS14.le l68
       have hS15 := hS15.le l68
       have wa : arw.length = x.dims.length - 1 := by have := congrArg List.length w3; rwa [List.length_map, x.core_len] at this
       have hA9 := Seg.all hS9
       refine Ac (Ax (Qf BQ rfl (Ql rfl underlying28 (hA9 _ _ rfl _) (Qx (AJ (hOw.rd (h := h8) (ms := [ma]) (List.Mem.head _)).rd rfl underlying28 rfl) rfl (Qm rfl (Aq (Ag ?_)))))))
       refine AD (fun q sl hh ms' => ∃ (t : Nat) (ma : Hp) (A : List Ar), q = arw.length - t ∧ sl = [(7, .bool true), (8, .pointer (some ⟨g8, 0, none⟩)), (9, .pointer (some ⟨g9, 0, none⟩)), (10, .int .i64 k), (14, .pointer (some ⟨g14, 0, none⟩)), (15, .pointer (some ⟨g15, 0, none⟩)), (99, .int .i64 arw.length), (100, .int .i64 t)] ∧ h8.le hh ∧ ms' = [ma] ∧ t ≤ arw.length ∧ OwnL cA 5 45 ma vwa A ∧ A.map Ar.core = x.bcore k (eyeB i j n) (eyeB i j n2) t ∧ ∀ a ∈ A, RdL cI 1 hh [] a.v a.M.e)
        (arw.length - 0) _ ⟨0, ma, arw, rfl, rfl, Hp.le_refl _, rfl, by omega, hOw, by rw [x.bcore_zero]; exact w3, hEw⟩ Qs ?_
       rintro q sl hh ms' ⟨t, ma, A, rfl, rfl, lh, rfl, ht, hOa, hAc, hE⟩
       have hRc := hRc.up lh
       have hRb := hRb.up lh
       have hRZ := hRZ.up lh
       have hDw := hDw.up lh
       have hS8 := hS8.le lh
       have hS9 := hS9.le lh
       have hS14 := hS14.le lh
       have hS15 := hS15.le lh
       have hA9 := Seg.all hS9
       have al : A.length = x.dims.length - 1 := by have := congrArg List.length hAc; rwa [List.length_map, x.bcore_len] at this
       have ova : vwa.oneCell' = true := (hOa.rd (h := hh) (ms := [ma]) (List.Mem.head _)).rd.one
       refine Ax (Qm rfl (Aq (Ac ?_)))
       refine AF rfl (fun hlt => ?_) (fun hlt => ?_)
       ·have htl : t < A.length := by omega
        have htd : t < x.dims.length - 1 := by omega
        have hcore : A[t].core = (x.bk t, x.mat t) := by
         have h2 := congrArg (fun l => l[t]?) hAc
         simp only [Pl.bcore, List.getElem?_map, List.getElem?_eq_getElem htl, List.getElem?_range htd, Option.map_some, Option.some.injEq] at h2
         rwa [if_neg (Nat.lt_irrefl _)] at h2
        have hab : A[t].b = x.bk t := congrArg Prod.fst hcore
        have haM : A[t].M = x.mat t := congrArg Prod.snd hcore
        have hcb : Cell hh [ma] ((Bl vwa).add (t * 5)) (.bool (x.bk t)) := by
         have := (hOa.rd (h := hh) (ms := [ma]) (List.Mem.head _)).cell0 htl rfl
         rw [hab] at this; exact this
        have hsb : x.srcB t = (if x.bk t then t + 1 else t) := rfl
        have htb : x.tgtB t = (if x.bk t then t else t + 1) := rfl
        refine Ai (Ab ?_)
        refine Bv (fun sl h10 ms' => ∃ (ma : Hp) (A : List Ar), sl = [(7, .bool true), (8, .pointer (some ⟨g8, 0, none⟩)), (9, .pointer (some ⟨g9, 0, none⟩)), (10, .int .i64 k), (14, .pointer (some ⟨g14, 0, none⟩)), (15, .pointer (some ⟨g15, 0, none⟩)), (99, .int .i64 arw.length), (100, .int .i64 t)] ∧ hh.le h10 ∧ ms' = [ma] ∧ OwnL cA 5 45 ma vwa A ∧ A.map Ar.core = x.bcore k (eyeB i j n) (eyeB i j n2) (t + 1) ∧ ∀ a ∈ A, RdL cI 1 h10 [] a.v a.M.e) ?_ (fun s h ms hI => ?_)
        ·refine Ag (Ax (Qm rfl (Qm rfl (B3 (Qm rfl (Qm rfl (Qx (oA rfl) rfl (Qm rfl (Qm rfl (Aq ?_))))))))))
         refine Bv (fun sl h9 ms' => sl = [(7, .bool true), (8, .pointer (some ⟨g8, 0, none⟩)), (9, .pointer (some ⟨g9, 0, none⟩)), (10, .int .i64 k), (14, .pointer (some ⟨g14, 0, none⟩)), (15, .pointer (some ⟨g15, 0, none⟩)), (17, .int .i64 t), (18, .int .i64 (x.srcB t)), (19, .int .i64 (x.tgtB t)), (99, .int .i64 arw.length), (100, .int .i64 t)] ∧ hh = h9 ∧ ms' = [ma]) ?_ (fun s h ms hI => ?_)
         ·refine Ac (Ad (Qf BQ rfl (Ql rfl underlying28 (hA9 _ _ rfl _) (Qm rfl (Qx (Ah (t) (hOa.rd (h := hh) (ms := [ma]) (List.Mem.head _)).rd rfl underlying28 Cr rfl rfl (by omega) (by omega)) rfl (Qf EK rfl (Ql rfl underlying4 (hcb) (Aq ?_))))))))
          refine BJ rfl (fun hb => ?_) (fun hb => ?_)
          ·refine Ad (Qm rfl (Qm rfl (Qm rfl (Qm rfl (Ak ?_)))))
           rw [hsb, htb, if_pos hb, if_pos hb]
           exact AA _ ⟨rfl, rfl, rfl⟩ Qs
          ·refine Ai ?_
           rw [hsb, htb, if_neg (by rw [hb]; exact Bool.false_ne_true), if_neg (by rw [hb]; exact Bool.false_ne_true)]
           exact AA _ ⟨rfl, rfl, rfl⟩ Qs
         ·obtain ⟨rfl, rfl, rfl⟩ := hI
          obtain ⟨M1, hM1⟩ : ∃ M1 : FM, (if x.tgtB t = k then EM x.P (x.rows t) (x.cols t) (Fb x.P (x.d k) (eyeB i j n) (VE (x.cols t) (x.mat t).e)) else x.mat t) = M1 := ⟨_, rfl⟩
          refine Bv (fun sl h9 ms' => ∃ (ma : Hp) (A : List Ar), sl = [(7, .bool true), (8, .pointer (some ⟨g8, 0, none⟩)), (9, .pointer (some ⟨g9, 0, none⟩)), (10, .int .i64 k), (14, .pointer (some ⟨g14, 0, none⟩)), (15, .pointer (some ⟨g15, 0, none⟩)), (17, .int .i64 t), (18, .int .i64 (x.srcB t)), (99, .int .i64 arw.length), (100, .int .i64 t)] ∧ hh.le h9 ∧ ms' = [ma] ∧ OwnL cA 5 45 ma vwa A ∧ A.map Ar.core = (x.bcore k (eyeB i j n) (eyeB i j n2) t).set t (x.bk t, M1) ∧ ∀ a ∈ A, RdL cI 1 h9 [] a.v a.M.e) ?_ (fun s h ms hI => ?_)
          ·refine Ac (Ad (Qm rfl (Qm rfl (Qm rfl (Aq ?_)))))
           refine AF rfl (fun h1 => ?_) (fun h1 => ?_)
           ·have h1 : x.tgtB t = k := by omega
            have er : x.rows t = d := by rw [← hd, ← h1]; unfold Pl.tgtB Pl.rows; split <;> rfl
            obtain ⟨c, hc⟩ : ∃ c, x.cols t = c := ⟨_, rfl⟩
            have hc4 : c ≤ 4 := by rw [← hc]; exact (x.rc_le t).2
            obtain ⟨f, hf⟩ : ∃ f, VE c (x.mat t).e = f := ⟨_, rfl⟩
            have hse := fun ms (R : RdL cA 5 hh ms vwa A) => ar_seg R htl
            have hme : RdL cI 1 hh [] A[t].v (mat d c f) := by
             have := hE _ (List.getElem_mem htl)
             rw [haM, Ux (x.mtlB t), er, hc, hf] at this; exact this
            have hse : Seg hh [ma] (((Bl vwa).add (t * 5)).add 1) [.int .i64 x.P, .int .i64 d, .int .i64 c, A[t].v] := by
             have := ar_seg (hOa.rd (h := hh) (ms := [ma]) (List.Mem.head _)) htl
             rw [haM, show (x.mat t).rows = (d : Int) by rw [← er]; rfl, show (x.mat t).cols = (c : Int) by rw [← hc]; rfl] at this; exact this
            have hRtM : RtM x.P d c f := ⟨x.P_is, by omega, by omega, fun a _ b _ => by rw [← hf, ← hc]; exact x.mat_bdB t a b⟩
            have hRtA : RtM x.P d d (eyeB i j n) := ⟨x.P_is, by omega, by omega, fun a _ b _ => eyeB_bd (by omega) hnb a b⟩
            rw [if_pos h1, er, hc, hd, hf] at hM1
            have oat : A[t].v.oneCell' = true := hme.rd.one
            refine AW (n := 17) (bs := [true, true, true, true, true, true, true, true, true, false, false, false, false, false, true, true, false]) [true, true, true, true, true, true, true, true, true, false, false, false, false, false, true, true] Cd (by kernel_rfl) (by kernel_rfl) rfl rfl (QF BQ rfl (QL rfl underlying28 (hA9 _ _ rfl _) (Qq rfl (Qp rfl (oG rfl underlying42 AI (Seg.any hS14)) (QF BQ rfl (QL rfl underlying28 (hA9 _ _ rfl _) (Qq rfl (Qp rfl (Bo (t) (hOa.rd (h := hh) (ms := [ma]) (List.Mem.head _)).rd rfl underlying28 Cr rfl rfl (by omega) (by omega)) (QF Ca rfl (Qp rfl (Bo (t) (hOa.rd (h := hh) (ms := [ma]) (List.Mem.head _)).rd rfl underlying28 Cr rfl rfl (by omega) (by omega)) (QF Ca rfl ?_)))))))))))
            unfold CD
            simp only [List.cons_append, List.nil_append]
            refine Qo 9 rfl (Qx (oG rfl underlying42 AI (hse)) rfl (Qw (Qo 10 rfl (Qc call21 rfl (TX x.P d d c _ _ ec A[t].v _ hRtA hRtM hRc hme) (fun xm h10 ms10 l10 hF => ?_)))))
            obtain ⟨rfl, v10, rfl, ve, me, rfl, rfl, hOe⟩ := hF
            refine AH hOe fun h11 l11 hRe => ?_
            obtain ⟨a10, c10, rfl, _⟩ := hRe.rd.ex
            have hcur := l11
            refine Qa (An 11 117 (by kernel_rfl) rfl (by assumption) rfl (As rfl rfl) (An 12 129 (by kernel_rfl) rfl (by assumption) rfl (AC rfl rfl rfl) (An 13 130 (by kernel_rfl) rfl (by assumption) rfl (AC rfl rfl rfl) (Qo 16 rfl ?_))))
            refine wl_storePart 0 t 1 ⟨A[t].b, EM x.P d c (Fb x.P d (eyeB i j n) f), _⟩ [.int .i64 x.P, .int .i64 d, .int .i64 c, _] hOa rfl AI rfl rfl rfl rfl (by simp [Value.oneCell']) rfl htl (by omega) rfl rfl rfl (fun ma' hOa' => ?_)
            refine Qa (Qe ?_)
            exact AA _ ⟨ma', _, rfl, l11, rfl, hOa', by rw [List.map_set, hAc, ← hM1, ← hab]; rfl, fun a ha => by rcases List.mem_or_eq_of_mem_set ha with h | rfl; exact (hE a h).up l11; exact hRe⟩ Qs
           ·have h1 : ¬ x.tgtB t = k := by omega
            rw [if_neg h1] at hM1
            refine Ai ?_
            exact AA _ ⟨ma, A, rfl, Hp.le_refl _, rfl, hOa, by rw [← hM1, x.bcore_self _ _ _ htd]; exact hAc, hE⟩ Qs
          ·obtain ⟨ma, A, rfl, l9, rfl, hOa, hAc, hE⟩ := hI
           have htl : t < A.length := by have := congrArg List.length hAc; rw [List.length_map, List.length_set, x.bcore_len] at this; omega
           have hRb := hRb.up l9
           have hS9 := hS9.le l9
           have hS15 := hS15.le l9
           have hA9 := Seg.all hS9
           have hcore : A[t].core = (x.bk t, M1) := by
            have h2 := congrArg (fun l => l[t]?) hAc
            simp only [List.getElem?_map, List.getElem?_eq_getElem htl, Option.map_some] at h2
            rw [List.getElem?_set_self (by rw [x.bcore_len]; exact htd)] at h2
            exact Option.some.inj h2
           have hab : A[t].b = x.bk t := congrArg Prod.fst hcore
           have haM : A[t].M = M1 := congrArg Prod.snd hcore
           have hne : x.srcB t ≠ x.tgtB t := by unfold Pl.srcB Pl.tgtB; split <;> omega
           refine Ax (Qm rfl (Qm rfl (Qm rfl (Aq ?_))))
           refine AF rfl (fun h2 => ?_) (fun h2 => ?_)
           ·have h2 : x.srcB t = k := by omega
            have h1 : ¬ x.tgtB t = k := by omega
            rw [if_neg h1] at hM1
            subst hM1
            have er : x.cols t = d := by rw [← hd, ← h2]; unfold Pl.srcB Pl.cols; split <;> rfl
            obtain ⟨r, hr⟩ : ∃ r, x.rows t = r := ⟨_, rfl⟩
            have hr4 : r ≤ 4 := by rw [← hr]; exact (x.rc_le t).1
            obtain ⟨f, hf⟩ : ∃ f, VE d (x.mat t).e = f := ⟨_, rfl⟩
            have hme : RdL cI 1 h [] A[t].v (mat r d f) := by
             have := hE _ (List.getElem_mem htl)
             rw [haM, Ux (x.mtlB t), er, hr, hf] at this; exact this
            have hse : Seg h [ma] (((Bl vwa).add (t * 5)).add 1) [.int .i64 x.P, .int .i64 r, .int .i64 d, A[t].v] := by
             have := ar_seg (hOa.rd (h := h) (ms := [ma]) (List.Mem.head _)) htl
             rw [haM, show (x.mat t).rows = (r : Int) by rw [← hr]; rfl, show (x.mat t).cols = (d : Int) by rw [← er]; rfl] at this; exact this
            have hRtM : RtM x.P r d f := ⟨x.P_is, by omega, by omega, fun a _ b _ => by rw [← hf, ← er]; exact x.mat_bdB t a b⟩
            have hRtA : RtM x.P d d (eyeB i j n2) := ⟨x.P_is, by omega, by omega, fun a _ b _ => eyeB_bd (by omega) hnb2 a b⟩
            have hbm : x.bm k (eyeB i j n) (eyeB i j n2) t = EM x.P r d (Fb x.P d f (eyeB i j n2)) := by
             unfold Pl.bm
             rw [if_neg h1, if_pos h2, er, hr, hd, hf]
            have oat : A[t].v.oneCell' = true := hme.rd.one
            refine AW (n := 17) (bs := [true, true, true, true, true, true, true, true, false, true, false, false, false, false, true, true, false]) [true, true, true, true, true, true, true, true, false, true, false, false, false, false, true, true] Cd (by kernel_rfl) (by kernel_rfl) rfl rfl (QF BQ rfl (QL rfl underlying28 (hA9 _ _ rfl _) (Qq rfl (QF BQ rfl (QL rfl underlying28 (hA9 _ _ rfl _) (Qq rfl (Qp rfl (Bo (t) (hOa.rd (h := h) (ms := [ma]) (List.Mem.head _)).rd rfl underlying28 Cr rfl rfl (by omega) (by omega)) (QF Ca rfl (Qp rfl (oG rfl underlying42 AI (Seg.any hS15)) (Qp rfl (Bo (t) (hOa.rd (h := h) (ms := [ma]) (List.Mem.head _)).rd rfl underlying28 Cr rfl rfl (by omega) (by omega)) (QF Ca rfl ?_)))))))))))
            unfold CD
            simp only [List.cons_append, List.nil_append]
            refine Qo 8 rfl (Qx (oG rfl underlying42 AI (hse)) rfl (Qw (Qo 10 rfl (Qc call21 rfl (TX x.P r d d _ _ A[t].v eb _ hRtM hRtA hme hRb) (fun xm h10 ms10 l10 hF => ?_)))))
            obtain ⟨rfl, v10, rfl, ve, me, rfl, rfl, hOe⟩ := hF
            refine AH hOe fun h11 l11 hRe => ?_
            obtain ⟨a10, c10, rfl, _⟩ := hRe.rd.ex
            have hcur := l11
            refine Qa (An 11 136 (by kernel_rfl) rfl (by assumption) rfl (As rfl rfl) (An 12 148 (by kernel_rfl) rfl (by assumption) rfl (AC rfl rfl rfl) (An 13 149 (by kernel_rfl) rfl (by assumption) rfl (AC rfl rfl rfl) (Qo 16 rfl ?_))))
            refine wl_storePart 0 t 1 ⟨A[t].b, EM x.P r d (Fb x.P d f (eyeB i j n2)), _⟩ [.int .i64 x.P, .int .i64 r, .int .i64 d, _] hOa rfl AI rfl rfl rfl rfl (by simp [Value.oneCell']) rfl htl (by omega) rfl rfl rfl (fun ma' hOa' => ?_)
            refine Qa (Qe ?_)
            exact Aj (AA _ ⟨ma', _, rfl, Hp.le_trans l9 l11, rfl, hOa', by rw [List.map_set, hAc, List.set_set, ← x.bcore_set k _ _ htd, hbm, ← hab]; rfl, fun a ha => by rcases List.mem_or_eq_of_mem_set ha with h | rfl; exact (hE a h).up l11; exact hRe⟩ Qs)
           ·have h2 : ¬ x.srcB t = k := by omega
            have hbm : x.bm k (eyeB i j n) (eyeB i j n2) t = M1 := by
             rw [← hM1]
             unfold Pl.bm
             by_cases h1 : x.tgtB t = k
             ·rw [if_pos h1, if_pos h1]
             ·rw [if_neg h1, if_neg h1, if_neg h2]
            refine Ai (Aj ?_)
            exact AA _ ⟨ma, A, rfl, l9, rfl, hOa, by rw [← x.bcore_set k _ _ htd, hbm]; exact hAc, hE⟩ Qs
        ·obtain ⟨ma, A, rfl, l10, rfl, hOa, hAc, hE⟩ := hI
         refine Ad (Qx (oA rfl) rfl (Qm rfl (Ak ?_)))
         exact Al (arw.length - (t + 1)) _ (by omega) ⟨t + 1, ma, A, rfl, rfl, Hp.le_trans lh l10, rfl, by omega, hOa, hAc, hE⟩ Qs
       ·have ht : t = x.dims.length - 1 := by omega
        rw [ht] at hAc
        refine Aw (Aa (Aa (Af (Ab (Bg hOa fun h10 l10 hRa => ?_)))))
        have hRW : RdZ h10 vw vwa ⟨x.P, x.dims, A⟩ := ⟨hDw.up l10, hRa, fun a ha => (hE a ha).up l10⟩
        have hRZ := hRZ.up l10
        have hS8 := hS8.le l10
        have hS9 := hS9.le l10
        have hRtW : (⟨x.P, x.dims, A⟩ : Zz).Rt := x.brt k _ _ rfl rfl hAc
        have hBA : ∀ a, a < x.d k → ∀ b, b < x.d k → Cg x.P (mmB (x.d k) (eyeB i j n2) (eyeB i j n) a b) (if b = a then 1 else 0) := by
         rw [hd]
         refine eyeB_inv hjl ?_
         rw [← hn2]
         refine ((Cg.refl x.P n).add (Cg.mod x.P (x.P - n))).trans ?_
         rw [show n + (x.P - n) = x.P by omega]
         exact Cg.self x.P
        have o7 := hRZ.d.rd.one
        have o8 := hRZ.a.rd.one
        have o9 := hDw.rd.one
        have o10 := hRa.rd.one
        refine Ac (AW (n := 13) (bs := [true, false, false, false, false, false, false, false, false, false, false, false, false]) [true] Cd (by kernel_rfl) (by kernel_rfl) rfl rfl (Qq rfl ?_))
        unfold CD
        simp only [List.cons_append, List.nil_append]
        refine Qo 1 rfl (Qm rfl (Qw (BH 2 155 (by kernel_rfl) rfl rfl rfl rfl rfl (Hp.le_refl _) rfl (oG rfl underlying30 Bz (Seg.any hS9)) (BH 3 156 (by kernel_rfl) rfl rfl rfl rfl rfl (Hp.le_refl _) rfl (AG rfl call22 rfl (OY hRtW hRW _)) (Qo 4 rfl (Qm rfl (Qw (Qo 5 rfl (Qm rfl (Qw (BH 6 159 (by kernel_rfl) rfl rfl rfl rfl rfl (Hp.le_refl _) rfl (oG rfl underlying30 Bz (Seg.any hS8)) (BH 8 161 (by kernel_rfl) rfl rfl rfl rfl rfl (Hp.le_refl _) rfl (oG rfl underlying30 Bz (Seg.any hS9)) (Qo 7 rfl (Ce rfl rfl rfl rfl (Qc call17 rfl (bars_p z1 vz vza _ hRtZ hRZ) (fun rb h11 ms11 l11 hF => ?_))))))))))))))))
        obtain ⟨l11', bl, mb, rfl, hOb1, hb1, hb2, hb3, hIB⟩ := hF
        refine AH hOb1 fun h12 l12 hRb1 => ?_
        have hRW := hRW.up (Hp.le_trans l11 l12)
        have hcurA := Hp.le_trans l11 l12
        refine Qa (Qo 9 rfl (Ce rfl rfl rfl rfl (Qc call17 rfl (bars_p (Z := ⟨x.P, x.dims, A⟩) rfl vw vwa _ hRtW hRW) (fun rc h13 ms13 l13 hF => ?_))))
        obtain ⟨l13', bl', mc, rfl, hOc1, hc1, hc2, hc3, hIC⟩ := hF
        refine AH hOc1 fun h14 l14 hRc1 => ?_
        have hRb1 := hRb1.up (Hp.le_trans l13 l14)
        have heq := x.b_bars k z1 z2 z3 (W := ⟨x.P, x.dims, A⟩) rfl rfl hAc hBA hIB hIC
        have hcur := Hp.le_trans hcurA (Hp.le_trans l13 l14)
        refine Qa (Qo 10 rfl (Qg (AG rfl call16 rfl (Sy hRb1 hRc1 heq _)) rfl (Qa (Qo 11 rfl (Qm rfl (Qa (Qo 12 rfl (Qm rfl (Qa (Qe (Ab (Ao ?_))))))))))))
        exact Am rfl rfl rfl
end Go.Proofs.YtdnelknieikbaaaGreat
namespace Go.Proofs.YtdnelknieikbaaaGreat
open Go.Proofs.Tryz
open Go.Eng Go.ChangeShapes Go.WideShapes Go.ChangeAt Go.RowKit Go.Deep
section
variable {H : Type} {enc : TypeId × Value → H} {P : Program} {w : World} {base : Nat} {spare : Nat → Bool} {held : Bool}
theorem trod_intsB {t e : TypeId} {k : IntKind} {n fuel : Nat} {cs : List Value} {x : DataW H × List MemPlace} (ht : P.underlying t = some (.array n e)) (he : P.underlying e = some (.int k)) (hc : P.cellsOf e = 1) (hct : P.cellsOf t = n) (h : DataW.trod enc P w base spare held fuel t cs = some x) :
  ∃ xs : List Int, xs.length = n ∧ cs = xs.map (Value.int k) ∧ ∀ x ∈ xs, (Lit.int k x).wf = true := by
 obtain ⟨ys, m, _, _, hlen, hyl, hi⟩ := DataW.trod_array ht h
 rw [hct] at hlen
 simp only [hc, Nat.mul_one] at hi
 obtain ⟨xs, hxl, hq⟩ := HR (α := Int) (Q := fun i b => cs[i]? = some (.int k b) ∧ (Lit.int k b).wf = true) n fun i hin => by
  have h1 := hi i hin
  have hic : i < cs.length := by omega
  rw [List.getElem?_eq_getElem (show i < ys.length by omega)] at h1
  obtain ⟨b, h2, _, h3⟩ := DataW.trod_int he h1
  have h4 : ((cs.drop i).take 1)[0]? = some (Value.int k b) := by rw [h2]; rfl
  rw [List.getElem?_take_of_lt (by decide), List.getElem?_drop] at h4
  exact ⟨b, h4, h3⟩
 refine ⟨xs, hxl, ?_, fun x hx => ?_⟩
 ·refine List.ext_getElem (by simp [hlen, hxl]) fun i h1 h2 => ?_
  have h3 := (hq i (by omega)).1
  rw [List.getElem?_eq_getElem h1] at h3
  simpa using h3
 ·obtain ⟨i, hi', rfl⟩ := List.getElem_of_mem hx
  exact (hq i hi').2
end
theorem arr_ints {P : Program} {w : World} {r : Reach} {b0 : Nat} {t e : TypeId} {k : IntKind} {n : Nat} {H : Type} {enc : TypeId × Value → H} {held : Bool} {v : Value} {d : DataW H} {ps : List MemPlace} {base : Nat} {spare : Nat → Bool} (ht : P.underlying t = some (.array n e)) (he : P.underlying e = some (.int k)) (hc : P.cellsOf e = 1) (hct : P.cellsOf t = n) (hval : Value.okWide P w r b0 t v) (h : DataW.Trod enc P w base spare held t v d ps) : ∃ xs : List Int, xs.length = n ∧ v = .agg (xs.map (Value.int k)).toArray ∧ ∀ x ∈ xs, (Lit.int k x).wf = true := by
 simp only [Value.okWide, ht] at hval
 obtain ⟨cs, rfl, h2, _⟩ := hval
 obtain ⟨fuel, hf⟩ := h
 obtain ⟨xs, hl, hx, hw⟩ := trod_intsB ht he hc hct hf
 have hx : cs.toList = xs.map (Value.int k) := hx
 exact ⟨xs, hl, by rw [← hx], hw⟩
section
variable {H : Type} {enc : TypeId × Value → H} {w : World} {base : Nat} {spare : Nat → Bool} {held : Bool}
theorem open_u3 {v : Value} {r : Reach} {b0 : Nat} {d : DataW H} {ps : List MemPlace} (hval : Value.okWide Tryz.prog w r b0 40 v) (h : DataW.Trod enc Tryz.prog w base spare held 40 v d ps) : ∃ q0 q1 q2 : Int, v = .agg #[.int .u8 q0, .int .u8 q1, .int .u8 q2] ∧ (0 ≤ q0 ∧ q0 ≤ 255) ∧ (0 ≤ q1 ∧ q1 ≤ 255) ∧ (0 ≤ q2 ∧ q2 ≤ 255) := by
 obtain ⟨xs, hl, rfl, hw⟩ := arr_ints underlying40 underlying5 (by kernel_rfl) (by kernel_rfl) hval h
 match xs, hl with
 | [a, b, c], _ => exact ⟨a, b, c, rfl, bounds_u8 (hw a (by simp)), bounds_u8 (hw b (by simp)), bounds_u8 (hw c (by simp))⟩
end
end Go.Proofs.YtdnelknieikbaaaGreat
