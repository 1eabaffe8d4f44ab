/- Parts of the proof: Lo Ls Lp Lq Lr Eng39 Eng40 Xn Xo Xp Vg Vh Vi Vj Vk Va Vb Vl Rm Rn Ra Rb Rc Rd Re Rf Rg Rh Ri Rj Ro. -/
import Derived.Test.YtdnelknieikbaaaGreatTJ
set_option linter.unusedSimpArgs false
set_option linter.unusedVariables false
namespace Go.Lin
theorem QN {Z Z' : Zg} {D : Dc} (V : Valid Z D) (hp : Z'.p = Z.p) (hn : Z'.n = Z.n) (hd : ∀ k, k < Z.n → Z'.d k = Z.d k) (hb : ∀ k, k + 1 < Z.n → Z'.back k = Z.back k) (hm : ∀ k, k + 1 < Z.n → ∀ i, i < Z.d (Z.tgt k) → ∀ j, j < Z.d (Z.src k) → Z'.mat k i j = Z.mat k i j) : Valid Z' D := by
  refine ⟨fun l hl => ?_, fun k hk => ?_, fun k hk => ?_, fun k hk l hl ho i hi => ?_⟩
  · rw [hn]; exact V.ends l hl
  · rw [hn] at hk; rw [hp, hd k hk]; exact V.ind k hk
  · rw [hn] at hk; rw [hd k hk]; exact V.cnt k hk
  · rw [hn] at hk
    have e : Z'.src k = Z.src k ∧ Z'.tgt k = Z.tgt k := by unfold Zg.src Zg.tgt; rw [hb k hk]; exact ⟨rfl, rfl⟩
    have hs : Z.src k < Z.n ∧ Z.tgt k < Z.n := by rcases Z.src_tgt k with ⟨e1, e2, _⟩ | ⟨e1, e2, _⟩ <;> omega
    rw [e.1] at ho
    rw [e.2, hd _ hs.2] at hi
    rw [e.1, e.2, hd _ hs.1, hp]
    refine Cg.trans (Cg.of_eq (AE fun j hj => ?_)) (V.arr k hk l hl ho i hi)
    rw [hm k hk i hi j hj]
end Go.Lin
namespace Go.Lin
def blkS (m n : Nat) (A B : Nat → Nat → Int) (i j : Nat) : Int := if i < m then (if j < n then A i j else 0) else (if j < n then 0 else B (i - m) (j - n))
def Zg.sumS (Z Z' : Zg) : Zg where
  p := Z.p
  n := Z.n
  d k := Z.d k + Z'.d k
  back := Z.back
  mat k := blkS (Z.d (Z.tgt k)) (Z.d (Z.src k)) (Z.mat k) (Z'.mat k)
def Dc.sumS (D D' : Dc) (d : Nat → Nat) : Dc where
  N := D.N + D'.N
  fr l := if l < D.N then D.fr l else D'.fr (l - D.N)
  to l := if l < D.N then D.to l else D'.to (l - D.N)
  vec l k i := if l < D.N then (if i < d k then D.vec l k i else 0) else (if i < d k then 0 else D'.vec (l - D.N) k (i - d k))
theorem cnt_splitS (m n : Nat) (b : Nat → Bool) : cnt (m + n) b = cnt m b + cnt n fun l => b (m + l) := by
  induction n with
  | zero => rfl
  | succ n ih => rw [← Nat.add_assoc, BO, ih, BO]; omega
theorem sum_ctS (D D' : Dc) (d : Nat → Nat) (a : Int × Int) : (D.sumS D' d).ct a = D.ct a + D'.ct a := by
  unfold Dc.ct
  show cnt (D.N + D'.N) _ = _
  rw [cnt_splitS]
  congr 1
  · exact CC fun l hl => by simp only [Dc.sumS, if_pos hl]
  · exact CC fun l hl => by
      simp only [Dc.sumS, if_neg (show ¬ D.N + l < D.N by omega), Nat.add_sub_cancel_left]
theorem sum_okS {Z Z' : Zg} {D D' : Dc} (V : Valid Z D) (V' : Valid Z' D') (hp : Z'.p = Z.p) (hn : Z'.n = Z.n) (hb : ∀ k, k + 1 < Z.n → Z'.back k = Z.back k) : Valid (Z.sumS Z') (D.sumS D' Z.d) := by
  have on1 : ∀ k l, l < D.N → (D.sumS D' Z.d).on k l = D.on k l := fun k l hl => by simp only [Dc.on, Dc.sumS, if_pos hl]
  have on2 : ∀ k l, (D.sumS D' Z.d).on k (D.N + l) = D'.on k l := fun k l => by simp only [Dc.on, Dc.sumS, if_neg (show ¬ D.N + l < D.N by omega), Nat.add_sub_cancel_left]
  have v1 : ∀ l k i, l < D.N → (D.sumS D' Z.d).vec l k i = if i < Z.d k then D.vec l k i else 0 := fun l k i hl => if_pos hl
  have v2 : ∀ l k i, (D.sumS D' Z.d).vec (D.N + l) k i = if i < Z.d k then 0 else D'.vec l k (i - Z.d k) := fun l k i => by
    show (if D.N + l < D.N then _ else _) = _
    rw [if_neg (by omega), Nat.add_sub_cancel_left]
  have hsp : ∀ l, l < D.N + D'.N → l < D.N ∨ ∃ l', l' < D'.N ∧ l = D.N + l' := fun l hl => by
    by_cases h : l < D.N
    · exact .inl h
    · exact .inr ⟨l - D.N, by omega, by omega⟩
  refine ⟨fun l hl => ?_, fun k hk => ?_, fun k hk => ?_, fun k hk l hl ho i hi => ?_⟩
  · rcases hsp l hl with h | ⟨l', h, rfl⟩
    · have := V.ends l h
      simp only [Dc.sumS, if_pos h]; exact this
    · have := V'.ends l' h
      simp only [Dc.sumS, if_neg (show ¬ D.N + l' < D.N by omega), Nat.add_sub_cancel_left]
      rw [hn] at this; exact this
  · have hk' : k < Z.n := hk
    intro c hc
    have hc' : ∀ i, i < Z.d k + Z'.d k → Cg Z.p (sm D.N (fun l => if D.on k l then c l * (if i < Z.d k then D.vec l k i else 0) else 0) + sm D'.N (fun l => if D'.on k l then c (D.N + l) * (if i < Z.d k then 0 else D'.vec l k (i - Z.d k)) else 0)) 0 := fun i hi => by
      refine Cg.trans (Cg.of_eq ?_) (hc i hi)
      show _ = sm (D.N + D'.N) _
      rw [El]
      congr 1
      · exact AE fun l hl => by
          show _ = if (D.sumS D' Z.d).on k l then c l * (D.sumS D' Z.d).vec l k i else 0
          rw [on1 k l hl, v1 l k i hl]
      · exact AE fun l hl => by
          show _ = if (D.sumS D' Z.d).on k (D.N + l) then c (D.N + l) * (D.sumS D' Z.d).vec (D.N + l) k i else 0
          rw [on2 k l, v2 l k i]
    have h1 := V.ind k hk' c fun i hi => by
      have := hc' i (by omega)
      rw [CL (n := D'.N) fun l _ => by simp [hi], Int.add_zero] at this
      refine Cg.trans (Cg.of_eq (AE fun l _ => by rw [if_pos hi])) this
    have h2 := V'.ind k (by omega) (fun l => c (D.N + l)) fun i hi => by
      have := hc' (Z.d k + i) (by omega)
      rw [CL (n := D.N) fun l _ => by rw [if_neg (show ¬ Z.d k + i < Z.d k by omega), Int.mul_zero, ite_self], Int.zero_add] at this
      rw [hp]
      refine Cg.trans (Cg.of_eq (AE fun l _ => by rw [if_neg (show ¬ Z.d k + i < Z.d k by omega), Nat.add_sub_cancel_left])) this
    intro l hl ho
    rcases hsp l hl with h | ⟨l', h, rfl⟩
    · rw [on1 k l h] at ho; exact h1 l h ho
    · rw [on2] at ho
      have := h2 l' h ho
      rw [hp] at this; exact this
  · have hk' : k < Z.n := hk
    show cnt (D.N + D'.N) _ = Z.d k + Z'.d k
    rw [cnt_splitS]
    congr 1
    · exact (CC fun l hl => on1 k l hl).trans (V.cnt k hk')
    · exact (CC fun l hl => on2 k l).trans (V'.cnt k (by omega))
  · have hk' : k + 1 < Z.n := hk
    have es : Z'.src k = Z.src k ∧ Z'.tgt k = Z.tgt k := by unfold Zg.src Zg.tgt; rw [hb k hk']; exact ⟨rfl, rfl⟩
    have es1 : (Z.sumS Z').src k = Z.src k := rfl
    have es2 : (Z.sumS Z').tgt k = Z.tgt k := rfl
    rw [es1] at ho
    rw [es1, es2]
    have hi' : i < Z.d (Z.tgt k) + Z'.d (Z.tgt k) := hi
    show Cg Z.p (ap (blkS (Z.d (Z.tgt k)) (Z.d (Z.src k)) (Z.mat k) (Z'.mat k)) (Z.d (Z.src k) + Z'.d (Z.src k)) ((D.sumS D' Z.d).vec l (Z.src k)) i) _
    unfold ap
    rw [El]
    rcases hsp l hl with h | ⟨l', h, rfl⟩
    · rw [on1 _ l h] at ho
      rw [on1 _ l h]
      have z2 : (sm (Z'.d (Z.src k)) fun j => blkS (Z.d (Z.tgt k)) (Z.d (Z.src k)) (Z.mat k) (Z'.mat k) i (Z.d (Z.src k) + j) * (D.sumS D' Z.d).vec l (Z.src k) (Z.d (Z.src k) + j)) = 0 := CL fun j _ => by
        rw [v1 l _ _ h, if_neg (by omega), Int.mul_zero]
      rw [z2, Int.add_zero, v1 l _ _ h]
      by_cases hlt : i < Z.d (Z.tgt k)
      · rw [if_pos hlt]
        refine Cg.trans (Cg.of_eq (AE fun j hj => ?_)) (V.arr k hk' l h ho i hlt)
        rw [v1 l _ _ h, if_pos hj]
        unfold blkS
        rw [if_pos hlt, if_pos hj]
      · rw [if_neg hlt]
        have : (sm (Z.d (Z.src k)) fun j => blkS (Z.d (Z.tgt k)) (Z.d (Z.src k)) (Z.mat k) (Z'.mat k) i j * (D.sumS D' Z.d).vec l (Z.src k) j) = 0 := CL fun j hj => by
          unfold blkS
          rw [if_neg hlt, if_pos hj, Int.zero_mul]
        rw [this]
        cases D.on (Z.tgt k) l <;> exact Cg.refl _ _
    · rw [on2] at ho
      rw [on2]
      have z1 : (sm (Z.d (Z.src k)) fun j => blkS (Z.d (Z.tgt k)) (Z.d (Z.src k)) (Z.mat k) (Z'.mat k) i j * (D.sumS D' Z.d).vec (D.N + l') (Z.src k) j) = 0 := CL fun j hj => by
        rw [v2, if_pos hj, Int.mul_zero]
      rw [z1, Int.zero_add, v2]
      by_cases hlt : i < Z.d (Z.tgt k)
      · rw [if_pos hlt]
        have : (sm (Z'.d (Z.src k)) fun j => blkS (Z.d (Z.tgt k)) (Z.d (Z.src k)) (Z.mat k) (Z'.mat k) i (Z.d (Z.src k) + j) * (D.sumS D' Z.d).vec (D.N + l') (Z.src k) (Z.d (Z.src k) + j)) = 0 := CL fun j hj => by
          unfold blkS
          rw [if_pos hlt, if_neg (by omega), Int.zero_mul]
        rw [this]
        cases D'.on (Z.tgt k) l' <;> exact Cg.refl _ _
      · rw [if_neg hlt]
        have A := V'.arr k (by omega) l' h (by rw [es.1]; exact ho) (i - Z.d (Z.tgt k)) (by rw [es.2]; omega)
        rw [es.1, es.2, hp] at A
        refine Cg.trans (Cg.of_eq (AE fun j hj => ?_)) A
        rw [v2, if_neg (by omega), Nat.add_sub_cancel_left]
        unfold blkS
        rw [if_neg hlt, if_neg (by omega), Nat.add_sub_cancel_left]
end Go.Lin
namespace Go.Lin
structure Rows (p : Int) (d n : Nat) (w : Nat → Nat → Int) (pl : Nat → Nat) : Prop where
  bd : ∀ k, k < n → ∀ i, i < d → 0 ≤ w k i ∧ w k i < p
  lt : ∀ k, k < n → pl k < d
  one : ∀ k, k < n → w k (pl k) = 1
  low : ∀ k, k < n → ∀ i, i < pl k → w k i = 0
  inc : ∀ k l, k < l → l < n → pl k < pl l
structure Less (p : Int) (d : Nat) (w : Nat → Nat → Int) (pl : Nat → Nat) (am : Nat) (v : Nat → Int) (k : Nat) (out : Nat → Int) : Prop where
  sum : ∃ c : Nat → Int, ∀ i, i < d → Cg p (out i) (v i - sm k fun l => c l * w l i)
  zero : ∀ l, l < k → pl l < am → out (pl l) = 0
  bd : ∀ i, i < d → 0 ≤ out i ∧ out i < p
end Go.Lin
namespace Go.Lin
structure Sub (p : Int) (d : Nat) (W : (Nat → Int) → Prop) : Prop where
  zero : W fun _ => 0
  cg : ∀ x y, (∀ i, i < d → Cg p (y i) (x i)) → W x → W y
  lin : ∀ x y c, W x → W y → W fun i => x i + c * y i
section
variable {p : Int} {d : Nat} {W W' : (Nat → Int) → Prop} {v x out z : Nat → Int}
end
end Go.Lin
namespace Go.Lin
section
variable {Z : Zg} {a b : Nat} {u y : Nat → Int}
end
section
variable {Z : Zg} {a b N N' : Nat} {w w' V : Nat → Nat → Int}
end
end Go.Lin
namespace Go.Eng
open Go.RowKit
section
variable {P : Program} {o : Oper} {s : Ay} {h : Hp} {ms : List Hp} {e : Entry} {Q : Exit → Act → World → Prop} {ops : Array Oper} {rest : List Oper}
end
end Go.Eng
namespace Go.Eng
open Go.RowKit Go.Lin
section
variable {e : Entry} {Q : Exit → Act → World → Prop} {ops : Array Oper} {rest : List Oper} {o : Oper} {s : Ay} {h : Hp} {ms : List Hp}
theorem run_copy_zero {P : Program} (w : World) (dT sT ty elem : TypeId) (b : Option Addr) (dLen dCap : Nat) (a : Option Addr) (sCap : Nat) (hu : P.underlying dT = some (.slice elem)) {sz : Nat} {z : Value} {bytes : Nat} (hs : Elem P elem sz z bytes) :
    (Builtin.copy_ #[dT, sT] ty #[.slice b dLen dCap, .slice a 0 sCap]).run P w = .ok (goInt 0) w := by
  cases b <;> cases a <;> simp [Builtin.copy_, run_underlying hu, Builtin.lenOf, Builtin.firstCells, hs.sizeOf, storeCells, loadCells, loadCellsFrom]
theorem wl_copyAt {t t2 el : TypeId} {m : Hp} {v u : Value} {d : Nat} {cur l : List Int} {x y : Operand} {z : Value} {bytes : Nat} (i k : Nat) (O : OwnL cI 1 el m v cur) (R : RdL cI 1 h ms u l) (hk : k + l.length ≤ cur.length) (ho : o.op = .call { callee := .builtin .copy, args := #[x, y], argTypes := #[t, t2] }) (ht : e.P.underlying t = some (.slice el)) (hs : Elem e.P el 1 z bytes)
    (hx : ev s x = some (Ch 1 v k cur.length)) (hy : ev s y = some u) (hm : ms[i]? = some m) (hd : o.dst = some d) (hnd : Nat.blt d e.n = true) (hg : o.guard = none)
    (K : ∀ m', OwnL cI 1 el m' v (cur.take k ++ l ++ cur.drop (k + l.length)) → WL e ops Q rest ((d, .int .i64 l.length) :: s) h (ms.set i m')) : WL e ops Q (o :: rest) s h ms := by
  have hO := O
  obtain ⟨⟨h1, h2⟩, hF⟩ := O
  rcases Nat.eq_zero_or_pos l.length with h0 | h0
  · have hl : l = [] := List.length_eq_zero_iff.1 h0
    subst hl
    obtain ⟨a, c, rfl, -⟩ := R.rd.ex
    have hset : ms.set i m = ms := by
      refine List.ext_getElem? fun j => ?_
      rw [List.getElem?_set]
      split
      · next hij => subst hij; split
                    · exact hm.symm
                    · next hlt => exact (List.getElem?_eq_none (by omega)).symm
      · rfl
    have K' := K m (by simpa using hO)
    rw [hset] at K'
    obtain ⟨b, n, c', hv⟩ : ∃ b n c', v = .slice b n c' := by
      rcases h2 with ⟨hv, -, -⟩ | ⟨g, cap, spare, hv, -⟩
      · exact ⟨_, _, _, hv⟩
      · exact ⟨_, _, _, hv⟩
    rw [hv] at hx
    refine VM (v := .int .i64 0) (BI fun ρ w hρ hw => ?_) hd hnd hg K'
    have := run_copy_zero w t t2 o.type el (if c' = k then b else b.map (·.add (k * 1))) (cur.length - k) (c' - k) a c ht hs
    simp only [Nat.mul_one] at this
    simp [execOp, ho, hρ _ _ hx, hρ _ _ hy, resolve, invoke, builtin, Ch, this, goInt]
  · rcases h2 with ⟨rfl, h5, rfl⟩ | ⟨g, cap, spare, hv, hmm, h6, h7, h8⟩
    · omega
    · subst hmm
      have hcap : ¬ cap = k := by omega
      have hvs : Ch 1 v k cur.length = .slice (some ⟨g, k, none⟩) (cur.length - k) (cap - k) := by
        rw [hv]
        unfold Ch
        simp only
        rw [if_neg hcap]
        have : (⟨g, 0, none⟩ : Addr).add (k * 1) = ⟨g, k, none⟩ := by unfold Addr.add; split <;> simp_all
        simp only [Option.map_some, this]
      rw [hvs] at hx
      have hcs : (cur.flatMap cI).length = cur.length := by rw [h1]; omega
      have hln : (cur.take k ++ l ++ cur.drop (k + l.length)).length = cur.length := by simp; omega
      refine Q6 (n := l.length) i ho ht hs hx hy rfl R.rd h0 (by omega) hm (by rw [List.length_append]; omega) (fun a ha => by
        obtain ⟨b, _, hb⟩ := List.mem_flatMap.1 ha
        exact Cv b a hb) hd hnd hg (K _ ⟨⟨by rw [BL Br], .inr ⟨g, cap, spare, by rw [hln]; exact hv, ?_, ?_, by rw [hln]; exact h7, h8⟩⟩, hF⟩)
      · congr 1
        rw [Fh, Fh, Fh, List.map_append, List.map_append, List.map_take, List.map_drop]
        have hq : (cur.map fun x => Value.int .i64 x).length = cur.length := by simp
        rw [List.take_append_of_le_length (by omega), List.drop_append_of_le_length (by omega), List.take_of_length_le (l := l.map _) (by simp), List.append_assoc, List.append_assoc, List.append_assoc]
      · rw [Fh, List.length_append, List.length_map, hln]
        rw [List.length_append, hcs] at h6
        exact h6
end
theorem mat_copyAt {r c : Nat} {f : Nat → Nat → Int} {p q n : Nat} {l : List Int} (hp : p < r) (hq : q + n ≤ c) (hl : l.length = n) : (mat r c f).take (p * c + q) ++ l ++ (mat r c f).drop (p * c + q + n) = mat r c fun a b => if a = p ∧ q ≤ b ∧ b < q + n then l.getD (b - q) 0 else f a b := by
  have h1 : (p + 1) * c ≤ r * c := Nat.mul_le_mul_right c hp
  rw [Nat.add_mul, Nat.one_mul] at h1
  have lA : ((mat r c f).take (p * c + q)).length = p * c + q := by rw [List.length_take, AY, Nat.min_eq_left (by omega)]
  refine List.ext_getElem (by simp [AY]; omega) fun k h2 h3 => ?_
  rw [AY] at h3
  have hkd : k / c * c + k % c = k := by rw [Nat.mul_comm]; exact Nat.div_add_mod k c
  have hc : 0 < c := Nat.pos_of_ne_zero fun h0 => by subst h0; simp at h3
  have hkm : k % c < c := Nat.mod_lt _ hc
  have hR : (mat r c fun a b => if a = p ∧ q ≤ b ∧ b < q + n then l.getD (b - q) 0 else f a b)[k]'(by rw [AY]; exact h3) = if k / c = p ∧ q ≤ k % c ∧ k % c < q + n then l.getD (k % c - q) 0 else f (k / c) (k % c) := by simp [mat]
  have hL : (mat r c f)[k]'(by rw [AY]; exact h3) = f (k / c) (k % c) := by simp [mat]
  rw [hR, ← hL]
  by_cases hA : k < p * c + q
  · rw [if_neg, List.getElem_append_left (by rw [List.length_append]; omega), List.getElem_append_left (by omega), List.getElem_take]
    rintro ⟨e1, e2, e3⟩
    rw [e1] at hkd
    omega
  · by_cases hB : k < p * c + q + n
    · have hdiv : k / c = p := by
        have e : k = p * c + (k - p * c) := by omega
        rw [e]; exact Hs (by omega)
      rw [hdiv] at hkd
      rw [if_pos ⟨hdiv, by omega, by omega⟩, List.getElem_append_left (by rw [List.length_append]; omega), List.getElem_append_right (by omega)]
      have e : k % c - q = k - (p * c + q) := by omega
      rw [e]
      simp only [lA]
      simp [List.getD, show k - (p * c + q) < l.length by omega]
    · rw [if_neg, List.getElem_append_right (by rw [List.length_append]; omega), List.getElem_drop]
      · congr 1; rw [List.length_append]; omega
      · rintro ⟨e1, e2, e3⟩
        rw [e1] at hkd
        omega
end Go.Eng
set_option maxRecDepth 100000
set_option maxHeartbeats 4000000
namespace Go.Proofs.YtdnelknieikbaaaGreat
open Go.Eng Go.RowKit Go.Lin Go.Sort Go.Srt
theorem I2 (l : List Int) : vec l.length (fun i => l.getD i 0) = l := List.ext_getElem (by simp [vec]) fun i h1 h2 => by simp [vec, List.getD, h2]
end Go.Proofs.YtdnelknieikbaaaGreat
set_option maxHeartbeats 2000000
namespace Go.Proofs.YtdnelknieikbaaaGreat
open Go.Eng Go.RowKit Go.Lin Go.Sort Go.Srt
def KX (c : Int × Int → Nat) (ks : List (Int × Int)) : List Iv := ks.map fun a => ⟨a.1, a.2, (c a : Nat)⟩
end Go.Proofs.YtdnelknieikbaaaGreat
namespace Go.Proofs.YtdnelknieikbaaaGreat
open Go.Eng Go.RowKit Go.Lin Go.Sort Go.Srt
section
variable {Z Z' : Zz}
theorem I8 {p : Int} {ds : List Int} {A : List Ar} {vdo vao : Value} {md ma mB h : Hp} (hOd : OwnL cI 1 3 md vdo ds) (kd : md.le h) (hOa : OwnL cA 5 45 ma vao A) (ka : ma.le h) (B : BagE A mB) (kB : mB.le h) : RdZ h vdo vao ⟨p, ds, A⟩ := by
 refine ⟨hOd.rdh kd, hOa.rdh ka, fun a ha => ?_⟩
 obtain ⟨k, hk, rfl⟩ := List.mem_iff_getElem.1 ha
 obtain ⟨y, hy, O⟩ := B.all k hk
 have e : A.getD k default = A[k] := by simp [List.getD, hk]
 rw [e] at O
 exact O.rdh (Hp.le_trans hy kB)
end
theorem KQ {l : List StE} {bl : List Iv} (hl : l.length ≤ 20400) (hB : DE (fun a => (l.map StE.key).count a) bl) : bl.length ≤ 20400 ∧ ∀ y ∈ bl, 0 ≤ y.n ∧ y.n ≤ 20400 := by
 obtain ⟨ks, rfl, hs, hm⟩ := hB
 have hn : ks.Nodup := hs.imp fun {a b} h e => by
  subst e
  rw [Cm] at h
  omega
 constructor
 ·rw [List.length_map]
  have h1 : ks.length ≤ (l.map StE.key).length := hn.length_le_of_subset fun a ha => List.count_pos_iff.1 ((hm a).1 ha)
  rw [List.length_map] at h1; omega
 ·intro y hy
  obtain ⟨a, ha, rfl⟩ := List.mem_map.1 hy
  have h1 : (l.map StE.key).count a ≤ (l.map StE.key).length := List.count_le_length
  rw [List.length_map] at h1
  show (0 : Int) ≤ (((l.map StE.key).count a : Nat) : Int) ∧ (((l.map StE.key).count a : Nat) : Int) ≤ 20400
  omega
theorem Na {Z : Zz} {bl : List Iv} (hR : Z.Rt) (h : EI Z bl) : ∀ y ∈ bl, 0 ≤ y.fr ∧ y.fr ≤ y.to ∧ y.to < (Z.dims.length : Int) := by
 obtain ⟨D, V, ks, rfl, h1, h2⟩ := h.2 hR
 intro y hy
 obtain ⟨a, ha, rfl⟩ := List.mem_map.1 hy
 have h3 := (h2 a).1 ha
 unfold Dc.ct at h3
 obtain ⟨l, hl⟩ := List.exists_mem_of_length_pos h3
 obtain ⟨h4, h5⟩ := mem_sel.1 hl
 have h6 := V.ends l h4
 have h5 := of_decide_eq_true h5
 have h7 : Z.zg.n = Z.dims.length := rfl
 subst h5
 refine ⟨?_, ?_, ?_⟩ <;> simp only <;> omega
end Go.Proofs.YtdnelknieikbaaaGreat
set_option maxHeartbeats 800000
namespace Go.Proofs.YtdnelknieikbaaaGreat
open Go.Eng Go.RowKit Go.Lin Go.Sort Go.Srt
variable {Z : Zz}
def Pl.re (x : Pl) (s : List Int) : Pl := ⟨x.p, x.ds, x.back, s, x.thin⟩
def Pl.sme (x y : Pl) (k i j : Nat) : List Int := Lin.mat (x.rows k + x.rows k) (x.cols k + x.cols k) fun a b => if a < x.rows k then (if a < i ∧ b < x.cols k then VE (x.cols k) (x.mat k).e a b else 0) else (if a < x.rows k + j ∧ x.cols k ≤ b then VE (x.cols k) (y.mat k).e (a - x.rows k) (b - x.cols k) else 0)
def Pl.smat (x y : Pl) (k : Nat) : FM := ⟨x.P, ((x.rows k + x.rows k : Nat) : Int), ((x.cols k + x.cols k : Nat) : Int), x.sme y k (x.rows k) (x.rows k)⟩
def Pl.score (x y : Pl) : List (Bool × FM) := (List.range (x.dims.length - 1)).map fun k => (x.bk k, x.smat y k)
def Pl.sdims (x : Pl) : List Int := (List.range x.dims.length).map fun k => ((x.d k + x.d k : Nat) : Int)
section
variable (x : Pl) (s : List Int)
theorem Pl.score_len : (x.score (x.re s)).length = x.dims.length - 1 := by simp [Pl.score]
theorem Pl.sdims_len : x.sdims.length = x.dims.length := by simp [Pl.sdims]
theorem Pl.sdims_get (k : Nat) : x.sdims.getD k 0 = ((x.d k + x.d k : Nat) : Int) := by
 rcases Nat.lt_or_ge k x.dims.length with h | h
 ·simp [Pl.sdims, List.getD, h]
 ·have e : x.d k = 0 := by unfold Pl.d; simp [List.getD, h]
  simp [Pl.sdims, List.getD, h, e]
theorem at2_bd {p : Int} (hp : 0 < p) {l : List Int} (h : ∀ y ∈ l, 0 ≤ y ∧ y < p) (c i j : Nat) : 0 ≤ VE c l i j ∧ VE c l i j < p := by
 unfold VE
 rcases Nat.lt_or_ge (i * c + j) l.length with h1 | h1
 ·have := h _ (List.getElem_mem h1)
  simpa [List.getD, h1] using this
 ·simp [List.getD, h1, hp]
theorem Pl.mat_bd (k : Nat) : ∀ y ∈ (x.mat k).e, 0 ≤ y ∧ y < x.P := fun y hy => by
 obtain ⟨j, _, rfl⟩ := List.mem_map.1 hy
 exact x.ent_bd _
theorem Pl.sme_bd (k i j : Nat) : ∀ y ∈ x.sme (x.re s) k i j, 0 ≤ y ∧ y < x.P := fun y hy => by
 have hp := x.P_bd
 obtain ⟨a, b, _, _, rfl⟩ := mem_mat.1 hy
 have h1 := at2_bd (by omega) (x.mat_bd k) (x.cols k) a b
 have h2 := at2_bd (show 0 < x.P by omega) ((x.re s).mat_bd k) (x.cols k) (a - x.rows k) (b - x.cols k)
 split <;> split <;> omega
theorem Pl.srt (h1 : Z.p = x.P) (h2 : Z.dims = x.sdims) (h3 : Z.ars.map Ar.core = x.score (x.re s)) : Z.Rt := by
 rw [N9 h3, h1, h2]
 have hd := x.dims_len
 refine ⟨by show 1 ≤ x.sdims.length; rw [x.sdims_len]; exact hd.1, by show x.sdims.length ≤ 100; rw [x.sdims_len]; omega, ?_, x.P_is, fun y hy => ?_, fun k hk => ?_⟩
 ·show ((((x.score (x.re s)).map _).length : Nat) : Int) = (x.sdims.length : Int) - 1
  rw [List.length_map, x.score_len, x.sdims_len]; omega
 ·obtain ⟨k, _, rfl⟩ := List.mem_map.1 hy
  have := x.d_le k; omega
 ·have hk' : k < x.dims.length - 1 := by have : k < ((x.score (x.re s)).map _).length := hk; rwa [List.length_map, x.score_len] at this
  have e : (Lu x.P x.sdims (x.score (x.re s))).ars[k] = ⟨x.bk k, x.smat (x.re s) k, .slice none 0 0⟩ := by
   have e2 : (Lu x.P x.sdims (x.score (x.re s))).ars[k]? = some ⟨x.bk k, x.smat (x.re s) k, .slice none 0 0⟩ := by
    show ((x.score (x.re s)).map _)[k]? = _
    rw [List.getElem?_map, Pl.score, List.getElem?_map, List.getElem?_range hk']; rfl
   rw [List.getElem?_eq_getElem hk] at e2
   exact Option.some.inj e2
  rw [e]
  have h4 := x.rc_le k
  refine ⟨⟨x.P_is, ⟨?_, ?_, ?_, ?_⟩, ?_, fun y hy => ?_⟩, rfl, ?_, ?_⟩
  ·show (0 : Int) ≤ ((x.rows k + x.rows k : Nat) : Int); omega
  ·show (0 : Int) ≤ ((x.cols k + x.cols k : Nat) : Int); omega
  ·show ((x.rows k + x.rows k : Nat) : Int) ≤ 400; omega
  ·show ((x.cols k + x.cols k : Nat) : Int) ≤ 400; omega
  ·show (((x.sme (x.re s) k (x.rows k) (x.rows k)).length : Nat) : Int) = ((x.rows k + x.rows k : Nat) : Int) * ((x.cols k + x.cols k : Nat) : Int)
   unfold Pl.sme
   rw [AY]; exact Int.natCast_mul _ _
  ·exact x.sme_bd s k (x.rows k) (x.rows k) y hy
  ·show ((x.cols k + x.cols k : Nat) : Int) = x.sdims.getD (if x.bk k then k + 1 else k) 0
   rw [x.sdims_get]; unfold Pl.cols; split <;> rfl
  ·show ((x.rows k + x.rows k : Nat) : Int) = x.sdims.getD (if x.bk k then k else k + 1) 0
   rw [x.sdims_get]; unfold Pl.rows; split <;> rfl
theorem core_ar {c : List (Bool × FM)} (h : Z.ars.map Ar.core = c) {k : Nat} (hk : k < c.length) : ∃ a, Z.ars[k]? = some a ∧ a.b = (c[k]).1 ∧ a.M = (c[k]).2 := by
 subst h
 have hk' : k < Z.ars.length := by rwa [List.length_map] at hk
 exact ⟨Z.ars[k], List.getElem?_eq_getElem hk', by rw [List.getElem_map]; rfl, by rw [List.getElem_map]; rfl⟩
theorem zg_of {c : List (Bool × FM)} (h : Z.ars.map Ar.core = c) {k : Nat} (hk : k < c.length) : Z.zg.back k = (c[k]).1 ∧ Z.zg.mat k = VE (c[k]).2.cols.toNat (c[k]).2.e := by
 obtain ⟨a, e1, e2, e3⟩ := core_ar h hk
 unfold Zz.zg
 simp only [e1, e2, e3]
 exact ⟨trivial, trivial⟩
theorem Pl.s_valid {W T : Zz} (z1 : Z.p = x.P) (z2 : Z.dims = x.dims) (z3 : Z.ars.map Ar.core = x.core) (w1 : W.p = x.P) (w2 : W.dims = x.dims) (w3 : W.ars.map Ar.core = (x.re s).core) (t1 : T.p = x.P) (t2 : T.dims = x.sdims) (t3 : T.ars.map Ar.core = x.score (x.re s)) {D D' : Dc} (V : Valid Z.zg D) (V' : Valid W.zg D') : Valid T.zg (D.sumS D' Z.zg.d) := by
 have hn : Z.zg.n = x.dims.length := by show Z.dims.length = _; rw [z2]
 have c1 : ∀ k, k + 1 < x.dims.length → Z.zg.back k = x.bk k ∧ Z.zg.mat k = VE (x.cols k) (x.mat k).e := fun k hk => by
  have := zg_of z3 (k := k) (by rw [x.core_len]; omega)
  refine ⟨this.1.trans (by simp [Pl.core]), this.2.trans (by simp [Pl.core, Pl.mat])⟩
 have c2 : ∀ k, k + 1 < x.dims.length → W.zg.back k = x.bk k ∧ W.zg.mat k = VE (x.cols k) ((x.re s).mat k).e := fun k hk => by
  have := zg_of w3 (k := k) (by rw [(x.re s).core_len]; show k < x.dims.length - 1; omega)
  have e : ((x.re s).core[k]'(by rw [(x.re s).core_len]; show k < x.dims.length - 1; omega)) = (x.bk k, (x.re s).mat k) := by simp [Pl.core]; rfl
  rw [e] at this
  exact this
 have c3 : ∀ k, k + 1 < x.dims.length → T.zg.back k = x.bk k ∧ T.zg.mat k = VE (x.cols k + x.cols k) (x.smat (x.re s) k).e := fun k hk => by
  have := zg_of t3 (k := k) (by rw [x.score_len]; omega)
  have e : ((x.score (x.re s))[k]'(by rw [x.score_len]; omega)) = (x.bk k, x.smat (x.re s) k) := by simp [Pl.score]
  rw [e] at this
  exact this
 have d1 : ∀ k, Z.zg.d k = x.d k := fun k => by show (Z.dims.getD k 0).toNat = _; rw [z2]; rfl
 have d2 : ∀ k, W.zg.d k = x.d k := fun k => by show (W.dims.getD k 0).toNat = _; rw [w2]; rfl
 have d3 : ∀ k, T.zg.d k = x.d k + x.d k := fun k => by show (T.dims.getD k 0).toNat = _; rw [t2, x.sdims_get]; exact Int.toNat_natCast _
 refine QN (sum_okS V V' (by show W.p = Z.p; rw [z1, w1]) (by show W.dims.length = Z.dims.length; rw [z2, w2]) fun k hk => ?_) ?_ ?_ (fun k hk => ?_) (fun k hk => ?_) (fun k hk i hi j hj => ?_)
 ·rw [hn] at hk; rw [(c1 k hk).1, (c2 k hk).1]
 ·show T.p = Z.p; rw [z1, t1]
 ·show T.dims.length = Z.dims.length; rw [z2, t2, x.sdims_len]
 ·show _ = Z.zg.d k + W.zg.d k; rw [d1, d2, d3]
 ·have hk : k + 1 < x.dims.length := by rw [← hn]; exact hk
  show _ = Z.zg.back k; rw [(c1 k hk).1, (c3 k hk).1]
 ·have hk : k + 1 < x.dims.length := by rw [← hn]; exact hk
  have hs : (Z.zg.sumS W.zg).src k = if x.bk k then k + 1 else k := by show (if Z.zg.back k then _ else _) = _; rw [(c1 k hk).1]
  have ht : (Z.zg.sumS W.zg).tgt k = if x.bk k then k else k + 1 := by show (if Z.zg.back k then _ else _) = _; rw [(c1 k hk).1]
  have hs' : Z.zg.src k = if x.bk k then k + 1 else k := by show (if Z.zg.back k then _ else _) = _; rw [(c1 k hk).1]
  have ht' : Z.zg.tgt k = if x.bk k then k else k + 1 := by show (if Z.zg.back k then _ else _) = _; rw [(c1 k hk).1]
  have er : x.d (if x.bk k then k else k + 1) = x.rows k := by unfold Pl.rows; split <;> rfl
  have ec : x.d (if x.bk k then k + 1 else k) = x.cols k := by unfold Pl.cols; split <;> rfl
  have hi : i < x.rows k + x.rows k := by
   have : i < Z.zg.d _ + W.zg.d _ := hi
   rw [d1, d2, ht, er] at this; exact this
  have hj : j < x.cols k + x.cols k := by
   have : j < Z.zg.d _ + W.zg.d _ := hj
   rw [d1, d2, hs, ec] at this; exact this
  show _ = blkS (Z.zg.d (Z.zg.tgt k)) (Z.zg.d (Z.zg.src k)) (Z.zg.mat k) (W.zg.mat k) i j
  rw [d1, d1, hs', ht', er, ec, (c1 k hk).2, (c2 k hk).2, (c3 k hk).2]
  have e : VE (x.cols k + x.cols k) (x.smat (x.re s) k).e i j = if i < x.rows k then (if i < x.rows k ∧ j < x.cols k then VE (x.cols k) (x.mat k).e i j else 0) else (if i < x.rows k + x.rows k ∧ x.cols k ≤ j then VE (x.cols k) ((x.re s).mat k).e (i - x.rows k) (j - x.cols k) else 0) := by
   show (x.sme (x.re s) k (x.rows k) (x.rows k)).getD (i * (x.cols k + x.cols k) + j) 0 = _
   unfold Pl.sme
   rw [List.getD_eq_getElem?_getD, List.getElem?_eq_getElem (by rw [AY]; exact Cp hi hj), Tz hi hj]
   rfl
  rw [e]
  unfold blkS
  by_cases h1 : i < x.rows k
  ·simp only [h1, if_true, true_and]
  ·simp only [h1, if_false, hi, true_and]
   by_cases h2 : j < x.cols k
   ·rw [if_neg (by omega), if_pos h2]
   ·rw [if_pos (by omega), if_neg h2]
theorem Pl.sme_top (y : Pl) (k : Nat) {i : Nat} (hi : i < x.rows k) (l : List Int) (hl : l.length = x.cols k) (hg : ∀ b, b < x.cols k → l.getD b 0 = VE (x.cols k) (x.mat k).e i b) : (x.sme y k i 0).take (i * (x.cols k + x.cols k)) ++ l ++ (x.sme y k i 0).drop (i * (x.cols k + x.cols k) + l.length) = x.sme y k (i + 1) 0 := by
 have := mat_copyAt (f := fun a b => if a < x.rows k then (if a < i ∧ b < x.cols k then VE (x.cols k) (x.mat k).e a b else 0) else (if a < x.rows k + 0 ∧ x.cols k ≤ b then VE (x.cols k) (y.mat k).e (a - x.rows k) (b - x.cols k) else 0)) (show i < x.rows k + x.rows k by omega) (show 0 + x.cols k ≤ x.cols k + x.cols k by omega) hl
 rw [Nat.add_zero] at this
 unfold Pl.sme
 rw [hl, this]
 refine AO fun a ha b hb => ?_
 by_cases e : a = i
 ·subst e
  by_cases hbc : b < x.cols k
  ·rw [if_pos ⟨rfl, Nat.zero_le _, by omega⟩, if_pos hi, if_pos ⟨by omega, hbc⟩, Nat.sub_zero, hg b hbc]
  ·rw [if_neg (fun h => hbc (by omega)), if_pos hi, if_pos hi, if_neg (fun h => hbc h.2), if_neg (fun h => hbc h.2)]
 ·rw [if_neg (fun h => e h.1)]
  by_cases ha2 : a < x.rows k
  ·rw [if_pos ha2, if_pos ha2]
   by_cases h3 : a < i ∧ b < x.cols k
   ·rw [if_pos h3, if_pos ⟨by omega, h3.2⟩]
   ·rw [if_neg h3, if_neg (fun h => h3 ⟨by omega, h.2⟩)]
  ·rw [if_neg ha2, if_neg ha2]
theorem Pl.sme_low (y : Pl) (k : Nat) {j : Nat} (hj : j < x.rows k) (l : List Int) (hl : l.length = x.cols k) (hg : ∀ b, b < x.cols k → l.getD b 0 = VE (x.cols k) (y.mat k).e j b) : (x.sme y k (x.rows k) j).take ((x.rows k + j) * (x.cols k + x.cols k) + x.cols k) ++ l ++ (x.sme y k (x.rows k) j).drop ((x.rows k + j) * (x.cols k + x.cols k) + x.cols k + l.length) = x.sme y k (x.rows k) (j + 1) := by
 have := mat_copyAt (f := fun a b => if a < x.rows k then (if a < x.rows k ∧ b < x.cols k then VE (x.cols k) (x.mat k).e a b else 0) else (if a < x.rows k + j ∧ x.cols k ≤ b then VE (x.cols k) (y.mat k).e (a - x.rows k) (b - x.cols k) else 0)) (show x.rows k + j < x.rows k + x.rows k by omega) (show x.cols k + x.cols k ≤ x.cols k + x.cols k by omega) hl
 unfold Pl.sme
 rw [hl, this]
 refine AO fun a ha b hb => ?_
 by_cases e : a = x.rows k + j
 ·subst e
  by_cases hbc : x.cols k ≤ b
  ·rw [if_pos ⟨rfl, hbc, hb⟩, if_neg (by omega), if_pos ⟨by omega, hbc⟩, hg _ (by omega), show x.rows k + j - x.rows k = j by omega]
  ·rw [if_neg (fun h => hbc h.2.1), if_neg (show ¬ x.rows k + j < x.rows k by omega), if_neg (show ¬ x.rows k + j < x.rows k by omega), if_neg (fun h => hbc h.2), if_neg (fun h => hbc h.2)]
 ·rw [if_neg (fun h => e h.1)]
  by_cases ha2 : a < x.rows k
  ·rw [if_pos ha2, if_pos ha2]
  ·rw [if_neg ha2, if_neg ha2]
   by_cases h3 : a < x.rows k + j ∧ x.cols k ≤ b
   ·rw [if_pos h3, if_pos ⟨by omega, h3.2⟩]
   ·rw [if_neg h3, if_neg (fun h => h3 ⟨by omega, h.2⟩)]
theorem Pl.sme_zero (y : Pl) (k : Nat) : (EM x.P (x.rows k + x.rows k) (x.cols k + x.cols k) fun _ _ => 0).e = x.sme y k 0 0 := by
 unfold Pl.sme EM
 dsimp only
 refine AO fun a ha b hb => ?_
 by_cases h1 : a < x.rows k
 ·rw [if_pos h1, if_neg (by omega)]
 ·rw [if_neg h1, if_neg (by omega)]
end
end Go.Proofs.YtdnelknieikbaaaGreat
namespace Go.Proofs.YtdnelknieikbaaaGreat
open Go.Eng Go.RowKit Go.Lin Go.Sort Go.Srt
variable {bl : List Iv} {c : Int × Int → Nat} {T : List ((Int × Int) × Int)}
def sumA (l : List Iv) (a : Int × Int) : Int := (l.map fun y => if (y.fr, y.to) = a then y.n else 0).sum
theorem sumA_app (l l' : List Iv) (a : Int × Int) : sumA (l ++ l') a = sumA l a + sumA l' a := by unfold sumA; rw [List.map_append, List.sum_append]
theorem sumA_one (y : Iv) (a : Int × Int) : sumA [y] a = if (y.fr, y.to) = a then y.n else 0 := by simp [sumA]
theorem sumA_bd (a : Int × Int) : ∀ l : List Iv, (∀ y ∈ l, 0 ≤ y.n ∧ y.n ≤ 20400) → 0 ≤ sumA l a ∧ sumA l a ≤ 20400 * (l.length : Int)
 | [], _ => by simp [sumA]
 | y :: l, h => by
  have ih := sumA_bd a l fun z hz => h z (List.mem_cons_of_mem _ hz)
  have h1 := h y List.mem_cons_self
  rw [show y :: l = [y] ++ l from rfl, sumA_app, sumA_one, List.length_append, List.length_singleton]
  split <;> omega
structure TM (T : List ((Int × Int) × Int)) (l : List Iv) : Prop where
 cnt : ∀ a, (Dg T a).getD 0 = sumA l a
 key : ∀ a, (Dg T a).isSome = true ↔ ∃ y ∈ l, (y.fr, y.to) = a
theorem TM.nil : TM [] [] := ⟨fun a => rfl, fun a => by simp [Dg]⟩
theorem TM.step {l : List Iv} (h : TM T l) (y : Iv) (x : Int) (hx : (Dg T (y.fr, y.to)).getD 0 = x) : TM (Dt (Dt T (y.fr, y.to) x) (y.fr, y.to) (x + y.n)) (l ++ [y]) := by
 have key : ∀ a, Dg (Dt (Dt T (y.fr, y.to) x) (y.fr, y.to) (x + y.n)) a = if a = (y.fr, y.to) then some (x + y.n) else Dg T a := fun a => by
  rw [F3, F3]
  by_cases e : a = (y.fr, y.to) <;> simp [e]
 refine ⟨fun a => ?_, fun a => ?_⟩
 ·rw [key, sumA_app, sumA_one]
  by_cases e : a = (y.fr, y.to)
  ·rw [if_pos e, if_pos e.symm, e, ← h.cnt, hx]; rfl
  ·rw [if_neg e, if_neg (fun h => e h.symm), h.cnt, Int.add_zero]
 ·rw [key]
  by_cases e : a = (y.fr, y.to)
  ·rw [if_pos e]
   exact ⟨fun _ => ⟨y, by simp, e.symm⟩, fun _ => rfl⟩
  ·rw [if_neg e, h.key]
   constructor
   ·rintro ⟨z, hz, rfl⟩; exact ⟨z, List.mem_append_left _ hz, rfl⟩
   ·rintro ⟨z, hz, rfl⟩
    rcases List.mem_append.1 hz with h1 | h1
    ·exact ⟨z, h1, rfl⟩
    ·rw [List.mem_singleton.1 h1] at e; exact absurd rfl e
theorem getK_mem (a : Int × Int) : (Dg T a).isSome = true ↔ a ∈ T.map Prod.fst := by
 constructor
 ·intro h
  by_cases hm : a ∈ T.map Prod.fst
  ·exact hm
  ·rw [Ec hm] at h; cases h
 ·intro h
  obtain ⟨p, hp, rfl⟩ := List.mem_map.1 h
  unfold Dg
  rw [Option.isSome_map, List.find?_isSome]
  exact ⟨p, hp, by simp⟩
theorem sumA_ks (c : Int × Int → Nat) (a : Int × Int) : ∀ ks : List (Int × Int), ks.Nodup → sumA (KX c ks) a = if a ∈ ks then (c a : Int) else 0
 | [], _ => by simp [sumA, KX]
 | b :: ks, hn => by
  obtain ⟨h1, h2⟩ := List.nodup_cons.1 hn
  have ih := sumA_ks c a ks h2
  have e0 : KX c (b :: ks) = [⟨b.1, b.2, (c b : Nat)⟩] ++ KX c ks := rfl
  rw [e0, sumA_app, sumA_one, ih]
  by_cases e : b = a
  ·subst e
   rw [if_pos rfl, if_neg h1, if_pos List.mem_cons_self, Int.add_zero]
  ·rw [if_neg (show ¬ (b.1, b.2) = a from e), Int.zero_add]
   by_cases h3 : a ∈ ks
   ·rw [if_pos h3, if_pos (List.mem_cons_of_mem _ h3)]
   ·rw [if_neg h3, if_neg (fun h => (List.mem_cons.1 h).elim (fun h => e h.symm) h3)]
theorem bars_nd (h : DE c bl) : ∃ ks : List (Int × Int), bl = KX c ks ∧ ks.Nodup ∧ ∀ a, a ∈ ks ↔ 0 < c a := by
 obtain ⟨ks, rfl, h1, h2⟩ := h
 exact ⟨ks, rfl, h1.imp fun {a b} h e => by
  subst e
  rw [Cm] at h
  omega, h2⟩
theorem sumA_bars (h : DE c bl) (a : Int × Int) : sumA bl a = (c a : Int) := by
 obtain ⟨ks, rfl, h1, h2⟩ := bars_nd h
 rw [sumA_ks c a ks h1]
 split
 ·rfl
 ·next hn => rw [show c a = 0 from Nat.eq_zero_of_not_pos fun h => hn ((h2 a).2 h)]; rfl
theorem key_bars (h : DE c bl) (a : Int × Int) : (∃ y ∈ bl, (y.fr, y.to) = a) ↔ 0 < c a := by
 obtain ⟨ks, rfl, h1, h2⟩ := bars_nd h
 rw [← h2]
 constructor
 ·rintro ⟨y, hy, rfl⟩
  obtain ⟨b, hb, rfl⟩ := List.mem_map.1 hy
  exact hb
 ·exact fun ha => ⟨⟨a.1, a.2, (c a : Nat)⟩, List.mem_map.2 ⟨a, ha, rfl⟩, rfl⟩
theorem nd_len {α : Type} [BEq α] [LawfulBEq α] {l l' : List α} (h1 : l.Nodup) (h2 : l'.Nodup) (h : ∀ a, a ∈ l ↔ a ∈ l') : l.length = l'.length :=
 Nat.le_antisymm (h1.length_le_of_subset fun a ha => (h a).1 ha) (h2.length_le_of_subset fun a ha => (h a).2 ha)
theorem sum_end (hn : (T.map Prod.fst).Nodup) {c' c2 : Int × Int → Nat} (hc : ∀ a, c2 a = c a + c' a) {bl' bs : List Iv} (h : DE c bl) (h' : DE c' bl') (h2 : DE c2 bs) (hT : TM T (bl ++ bl')) : (∀ y ∈ bs, (Dg T (y.fr, y.to)).getD 0 = y.n) ∧ bs.length = T.length := by
 obtain ⟨ks, rfl, n1, m1⟩ := bars_nd h2
 constructor
 ·intro y hy
  obtain ⟨b, hb, rfl⟩ := List.mem_map.1 hy
  rw [hT.cnt, sumA_app, sumA_bars h, sumA_bars h']
  show ((c b : Nat) : Int) + ((c' b : Nat) : Int) = ((c2 b : Nat) : Int)
  rw [hc]; omega
 ·have e1 : (KX c2 ks).length = ks.length := by unfold KX; rw [List.length_map]
  have e2 : T.length = (T.map Prod.fst).length := by rw [List.length_map]
  rw [e1, e2]
  refine nd_len n1 hn fun a => ?_
  rw [m1, ← getK_mem, hT.key, hc]
  constructor
  ·intro h3
   rcases (show 0 < c a ∨ 0 < c' a by omega) with h4 | h4
   ·obtain ⟨y, hy, e⟩ := (key_bars h a).2 h4
    exact ⟨y, List.mem_append_left _ hy, e⟩
   ·obtain ⟨y, hy, e⟩ := (key_bars h' a).2 h4
    exact ⟨y, List.mem_append_right _ hy, e⟩
  ·rintro ⟨y, hy, e⟩
   rcases List.mem_append.1 hy with h4 | h4
   ·have := (key_bars h a).1 ⟨y, h4, e⟩; omega
   ·have := (key_bars h' a).1 ⟨y, h4, e⟩; omega
theorem Pl.sums (x : Pl) (s : List Int) {Z W T : Zz} (z1 : Z.p = x.P) (z2 : Z.dims = x.dims) (z3 : Z.ars.map Ar.core = x.core) (w1 : W.p = x.P) (w2 : W.dims = x.dims) (w3 : W.ars.map Ar.core = (x.re s).core) (t1 : T.p = x.P) (t2 : T.dims = x.sdims) (t3 : T.ars.map Ar.core = x.score (x.re s)) {M : List ((Int × Int) × Int)} (hn : (M.map Prod.fst).Nodup) {bl' bs : List Iv} (h : EI Z bl) (h' : EI W bl') (h2 : EI T bs) (hT : TM M (bl ++ bl')) : (∀ y ∈ bs, (Dg M (y.fr, y.to)).getD 0 = y.n) ∧ bs.length = M.length := by
 obtain ⟨D, V, hb⟩ := h.2 (x.rt z1 z2 z3)
 obtain ⟨D', V', hb'⟩ := h'.2 ((x.re s).rt w1 w2 w3)
 have hR := x.srt s t1 t2 t3
 obtain ⟨D2, V2, hb2⟩ := h2.2 hR
 have VS := x.s_valid s z1 z2 z3 w1 w2 w3 t1 t2 t3 V V'
 exact sum_end hn (fun a => by rw [Jt hR.2.2.2.1.fld V2 VS a, sum_ctS]) hb hb' hb2 hT
end Go.Proofs.YtdnelknieikbaaaGreat
set_option maxHeartbeats 4000000
namespace Go.Proofs.YtdnelknieikbaaaGreat
open Go.Proofs.Tryz
open Go.Eng Go.RowKit Go.Lin Go.Sort Go.Srt
variable {k : Nat} {Z : Zz} {h : Hp}
theorem Pl.sdims_take (x : Pl) (hk : k < x.dims.length) : x.sdims.take (k + 1) = x.sdims.take k ++ [(x.d k : Int) + (x.d k : Int)] := by
 rw [List.take_succ_eq_append_getElem (by rw [x.sdims_len]; exact hk)]
 congr 2
 simp [Pl.sdims]
theorem rdz_dim {x : Pl} {vd va : Value} (hR : RdZ h vd va Z) (e : Z.dims = x.dims) (hk : k < x.dims.length) (ms : List Hp) : Cell h ms ((Bl vd).add (k * 1)) (.int .i64 (x.d k)) := by
 have hk' : k < Z.dims.length := by rw [e]; exact hk
 have := (hR.d.any (ms := ms)).cell0 hk' rfl
 have e2 : Z.dims[k] = x.d k := by rw [x.d_eq, ← e]; simp [List.getD, hk']
 rw [e2] at this; exact this
theorem rdz_ar {x : Pl} {vd va : Value} (hR : RdZ h vd va Z) (e : Z.ars.map Ar.core = x.core) (hk : k < Z.ars.length) : ∃ u, (∀ ms, Seg h ms (((Bl va).add (k * 5)).add 1) [.int .i64 x.P, .int .i64 (x.rows k), .int .i64 (x.cols k), u]) ∧ RdL cI 1 h [] u (x.mat k).e ∧ ∀ ms, Cell h ms ((Bl va).add (k * 5)) (.bool (x.bk k)) := by
 have h1 : Z.ars[k].core = (x.bk k, x.mat k) := by
  have h2 := congrArg (fun l => l[k]?) e
  simp only [List.getElem?_map, List.getElem?_eq_getElem hk] at h2
  have hk2 : k < x.dims.length - 1 := by have := congrArg List.length e; rw [List.length_map, x.core_len] at this; omega
  simpa [Pl.core, hk2] using h2
 have hb : Z.ars[k].b = x.bk k := congrArg Prod.fst h1
 have hM : Z.ars[k].M = x.mat k := congrArg Prod.snd h1
 refine ⟨Z.ars[k].v, fun ms => ?_, ?_, fun ms => ?_⟩
 ·have := FQ (ms := ms) hR hk
  rw [hM] at this; exact this
 ·have := hR.e _ (List.getElem_mem hk)
  rw [hM] at this; exact this
 ·have := (hR.a.any (ms := ms)).cell0 hk rfl
  rw [hb] at this; exact this
theorem row_of {e : List Int} {r c i : Nat} (he : e.length = r * c) (hi : i < r) : ((e.drop (i * c)).take ((i + 1) * c - i * c)).length = c ∧ ∀ b, b < c → ((e.drop (i * c)).take ((i + 1) * c - i * c)).getD b 0 = VE c e i b := by
 have h1 : (i + 1) * c ≤ r * c := Nat.mul_le_mul_right c hi
 have h2 : (i + 1) * c = i * c + c := by rw [Nat.add_mul, Nat.one_mul]
 have h3 : (i + 1) * c - i * c = c := by omega
 rw [h3]
 refine ⟨by rw [List.length_take, List.length_drop]; omega, fun b hb => ?_⟩
 unfold VE
 rw [List.getD_eq_getElem?_getD, List.getD_eq_getElem?_getD, List.getElem?_take_of_lt hb, List.getElem?_drop]
theorem Pl.mtl_ (x : Pl) (k : Nat) : (x.mat k).e.length = x.rows k * x.cols k := by simp [Pl.mat]
theorem Pl.sme_len (x y : Pl) (k i j : Nat) : (x.sme y k i j).length = (x.rows k + x.rows k) * (x.cols k + x.cols k) := by unfold Pl.sme; rw [AY]
theorem elOfBars : Elem Tryz.prog 33 1 (.slice none 0 0) 24 := Elem.of (by kernel_rfl)
def cVv (v : Value) : List Value := [v]
theorem cVv_len : ∀ v, (cVv v).length = 1 := fun _ => rfl
def preL (bl bl' : List Iv) (k : Nat) : List Iv := if k = 0 then [] else if k = 1 then bl else bl ++ bl'
theorem pick2 {rb rc : Value} {bl bl' : List Iv} (hb : RdL GO 3 h [] rb bl) (hc : RdL GO 3 h [] rc bl') (b1 : bl.length ≤ 20400) (b2 : ∀ y ∈ bl, 0 ≤ y.n ∧ y.n ≤ 20400) (b3 : ∀ y ∈ bl, Mj (y.fr, y.to)) (c1 : bl'.length ≤ 20400) (c2 : ∀ y ∈ bl', 0 ≤ y.n ∧ y.n ≤ 20400) (c3 : ∀ y ∈ bl', Mj (y.fr, y.to)) (hk : k < [rb, rc].length) : ∃ (u : Value) (l : List Iv), [rb, rc][k] = u ∧ RdL GO 3 h [] u l ∧ preL bl bl' (k + 1) = preL bl bl' k ++ l ∧ l.length ≤ 20400 ∧ (preL bl bl' k).length ≤ 20400 ∧ (∀ y ∈ preL bl bl' k ++ l, 0 ≤ y.n ∧ y.n ≤ 20400) ∧ ∀ y ∈ l, Mj (y.fr, y.to) := by
 have hk : k < 2 := hk
 rcases (by omega : k = 0 ∨ k = 1) with rfl | rfl
 ·exact ⟨rb, bl, rfl, hb, rfl, b1, by simp [preL], b2, b3⟩
 ·refine ⟨rc, bl', rfl, hc, rfl, c1, b1, fun y hy => ?_, c3⟩
  rcases List.mem_append.1 hy with h | h
  ·exact b2 y h
  ·exact c2 y h
theorem bars_at {p : Int} (e : Z.p = p) (vd va : Value) (h : Hp) (hRt : Z.Rt) (hR : RdZ h vd va Z) :
  FnT Tryz.prog 17 #[.agg #[.int .i64 p, vd, va]] h [] (fun r h' ms' => h.le h' ∧ ∃ (bl : List Iv) (m : Hp), ms' = [m] ∧ OwnL GO 3 37 m r bl ∧ bl.length ≤ 20400 ∧ (∀ y ∈ bl, 0 ≤ y.n ∧ y.n ≤ 20400) ∧ (∀ y ∈ bl, Mj (y.fr, y.to)) ∧ EI Z bl) := by
 subst e
 refine (Hn Z vd va h hRt.ok hR).mono fun r h' ms' ⟨l, bl, m, lst, e1, hO, hl, hS, hB⟩ => ?_
 have hI := GH hS hB
 obtain ⟨h1, h2⟩ := KQ hl hB
 have n2 := hRt.2.1
 refine ⟨l, bl, m, e1, hO, h1, h2, fun y hy => ?_, hI⟩
 have := Na hRt hI y hy
 exact ⟨by unfold Dh; simp only; omega, by unfold Dh; simp only; omega⟩
theorem lsums_ok (x : Pl) (vd vs vq : Value) (s : List Int) (h : Hp) (hx : x.Ok) (hR : RdP h vd vs x) (hxs : (x.re s).Ok) (hq : RdL cI 1 h [] vq s) : FnT Tryz.prog 6 #[.agg #[.int .u8 x.p, vd, .int .u16 x.back, vs, .bool x.thin], vq] h [] (fun r _ _ => r = .bool true) := by
 have o1 := hR.d.rd.one
 have o2 := hR.s.rd.one
 have oq := hq.rd.one
 refine Av func6 ntmps6 rfl rfl (fun w0 hw0 => ?_)
 simp only [A4]
 refine Ax ?_
 refine AS [_, _, _, _, _] rfl rfl (by rfl) rfl rfl rfl (fun g2 => ?_)
 refine Qm rfl (B3 (Qx (AG rfl call14 rfl (GW _ _)) rfl (Qm rfl (Aq (AL fun h1 l1 hS1 => ?_)))))
 have hR := hR.up l1
 have hq := hq.up l1
 refine Ax (Qx (oG rfl underlying26 ST (Seg.any hS1)) rfl (BZ [.int .u8 0, .slice none 0 0, .int .u16 0, .slice none 0 0, .bool false] rfl ST rfl rfl (fun g6 => ?_)))
 refine Sa 0 [_, _, _, _, _] ST rfl (by simp [o1, o2, oq]) ?_
 refine B3 (Qm rfl (Qf KA rfl ?_))
 refine AK 0 _ rfl BN rfl rfl (by assumption) rfl rfl (by (simp; done)) rfl rfl ?_
 refine Aq (AL fun h2 l2 hS2 => ?_)
 have hR := hR.up l2
 have hq := hq.up l2
 have hRs : RdP h2 vd vq (x.re s) := ⟨hR.d, hq⟩
 have hS1 := hS1.le l2
 refine Bv (fun sl hh ms' => ∃ (g7 g8 : Nat) (Z W : Zz) (vz vza vw vwa : Value), sl = [(5, .bool true), (7, .pointer (some ⟨g7, 0, none⟩)), (8, .pointer (some ⟨g8, 0, none⟩))] ∧ h2.le hh ∧ ms' = [AX g8 30 [.int .i64 x.P, vw, vwa], AX g7 30 [.int .i64 x.P, vz, vza]] ∧ RdZ hh vz vza Z ∧ RdZ hh vw vwa W ∧ Z.p = x.P ∧ Z.dims = x.dims ∧ Z.ars.map Ar.core = x.core ∧ W.p = x.P ∧ W.dims = x.dims ∧ W.ars.map Ar.core = (x.re s).core) ?_ (fun s h ms hI => ?_)
 ·refine AW (n := 8) (bs := [true, false, true, false, false, false, false, false]) [true, false, true] Cd (by kernel_rfl) (by kernel_rfl) rfl rfl (Qp rfl (oG rfl underlying26 ST (Seg.any hS1)) (Qp rfl (oG rfl underlying26 ST (Seg.any hS2)) ?_))
  unfold CD
  simp only [List.cons_append, List.nil_append]
  refine A2 [1, 4, 5] (by kernel_rfl) rfl ?_
  refine Az rfl ?_ ?_
  ·refine Qc call15 rfl (Kf x vd vs _ hx hR) (fun rz h3 ms3 l3 hF => ?_)
   obtain ⟨l3', vdo, vao, md, ma, mB, A, rfl, rfl, hOd, hOa, hAc, hB⟩ := hF
   refine A7 fun h4 l4 k4 => (A7 fun h5 l5 k5 => (A7 fun h6 l6 k6 => ?_))
   have hRZ : RdZ h6 vdo vao ⟨x.P, x.dims, A⟩ := I8 hOd (Hp.le_trans k5 l6) hOa (Hp.le_trans k4 (Hp.le_trans l5 l6)) hB k6
   have l26 := Hp.le_trans l3 (Hp.le_trans l4 (Hp.le_trans l5 l6))
   have hRs := hRs.up l26
   have hS2 := hS2.le l26
   have o3 := hRZ.d.rd.one
   have o4 := hRZ.a.rd.one
   refine Qa (A2 [3, 4, 5] (by kernel_rfl) rfl ?_)
   refine Az rfl ?_ ?_
   ·refine Qc call15 rfl (Kf (x.re s) vd vq _ hxs hRs) (fun rw_ h7 ms7 l7 hF => ?_)
    obtain ⟨l7', vdw, vaw, mdw, maw, mBw, Aw, rfl, rfl, hOdw, hOaw, hAw, hBw⟩ := hF
    refine A7 fun h8 l8 k8 => (A7 fun h9 l9 k9 => (A7 fun h10 l10 k10 => ?_))
    have hRW : RdZ h10 vdw vaw ⟨x.P, x.dims, Aw⟩ := I8 hOdw (Hp.le_trans k9 l10) hOaw (Hp.le_trans k8 (Hp.le_trans l9 l10)) hBw k10
    have l610 := Hp.le_trans l7 (Hp.le_trans l8 (Hp.le_trans l9 l10))
    have hcur := Hp.le_trans l26 l610
    have hRZ := hRZ.up l610
    have o5 := hRW.d.rd.one
    have o6 := hRW.a.rd.one
    refine Qa (A2 [4, 5] (by kernel_rfl) rfl ?_)
    refine Az rfl ?_ ?_
    ·refine BZ [.int .i64 0, .slice none 0 0, .slice none 0 0] rfl Bz rfl rfl (fun g7 => Qa (Qo 5 rfl (BZ [.int .i64 0, .slice none 0 0, .slice none 0 0] rfl Bz rfl rfl (fun g8 => Qa (Qo 6 rfl ?_)))))
     refine Sa 1 [_, _, _] Bz rfl (by simp [o3, o4, o5, o6]) ?_
     refine Qa (Qo 7 rfl ?_)
     refine Sa 0 [_, _, _] Bz rfl (by simp [o3, o4, o5, o6]) ?_
     refine Qa (Qe ?_)
     exact AA _ ⟨_, _, ⟨x.P, x.dims, A⟩, ⟨x.P, x.dims, Aw⟩, _, _, _, _, rfl, Hp.le_trans l26 l610, rfl, hRZ, hRW, rfl, rfl, hAc, rfl, rfl, hAw⟩ Qs
    refine Az rfl ?_ ?_
    ·refine BZ [.int .i64 0, .slice none 0 0, .slice none 0 0] rfl Bz rfl rfl (fun g8 => Qa (Qo 4 rfl (BZ [.int .i64 0, .slice none 0 0, .slice none 0 0] rfl Bz rfl rfl (fun g7 => Qa (Qo 6 rfl ?_)))))
     refine Sa 0 [_, _, _] Bz rfl (by simp [o3, o4, o5, o6]) ?_
     refine Qa (Qo 7 rfl ?_)
     refine Sa 1 [_, _, _] Bz rfl (by simp [o3, o4, o5, o6]) ?_
     refine Qa (Qe ?_)
     refine A9 ?_; exact AA _ ⟨_, _, ⟨x.P, x.dims, A⟩, ⟨x.P, x.dims, Aw⟩, _, _, _, _, rfl, Hp.le_trans l26 l610, rfl, hRZ, hRW, rfl, rfl, hAc, rfl, rfl, hAw⟩ Qs
    exact A3
   refine Az rfl ?_ ?_
   ·refine BZ [.int .i64 0, .slice none 0 0, .slice none 0 0] rfl Bz rfl rfl (fun g7 => Qa (A2 [3, 5] (by kernel_rfl) rfl ?_))
    refine Az rfl ?_ ?_
    ·refine Qc call15 rfl (Kf (x.re s) vd vq _ hxs hRs) (fun rw_ h7 ms7 l7 hF => ?_)
     obtain ⟨l7', vdw, vaw, mdw, maw, mBw, Aw, rfl, rfl, hOdw, hOaw, hAw, hBw⟩ := hF
     refine A7 fun h8 l8 k8 => (A7 fun h9 l9 k9 => (A7 fun h10 l10 k10 => ?_))
     have hRW : RdZ h10 vdw vaw ⟨x.P, x.dims, Aw⟩ := I8 hOdw (Hp.le_trans k9 l10) hOaw (Hp.le_trans k8 (Hp.le_trans l9 l10)) hBw k10
     have l610 := Hp.le_trans l7 (Hp.le_trans l8 (Hp.le_trans l9 l10))
     have hcur := Hp.le_trans l26 l610
     have hRZ := hRZ.up l610
     have o5 := hRW.d.rd.one
     have o6 := hRW.a.rd.one
     refine Qa (Qo 5 rfl (BZ [.int .i64 0, .slice none 0 0, .slice none 0 0] rfl Bz rfl rfl (fun g8 => Qa (Qo 6 rfl ?_))))
     refine Sa 1 [_, _, _] Bz rfl (by simp [o3, o4, o5, o6]) ?_
     refine Qa (Qo 7 rfl ?_)
     refine Sa 0 [_, _, _] Bz rfl (by simp [o3, o4, o5, o6]) ?_
     refine Qa (Qe ?_)
     exact AA _ ⟨_, _, ⟨x.P, x.dims, A⟩, ⟨x.P, x.dims, Aw⟩, _, _, _, _, rfl, Hp.le_trans l26 l610, rfl, hRZ, hRW, rfl, rfl, hAc, rfl, rfl, hAw⟩ Qs
    refine Az rfl ?_ ?_
    ·refine BZ [.int .i64 0, .slice none 0 0, .slice none 0 0] rfl Bz rfl rfl (fun g8 => Qa (Qo 3 rfl (Qc call15 rfl (Kf (x.re s) vd vq _ hxs hRs) (fun rw_ h7 ms7 l7 hF => ?_))))
     obtain ⟨l7', vdw, vaw, mdw, maw, mBw, Aw, rfl, rfl, hOdw, hOaw, hAw, hBw⟩ := hF
     refine A7 fun h8 l8 k8 => (A7 fun h9 l9 k9 => (A7 fun h10 l10 k10 => ?_))
     have hRW : RdZ h10 vdw vaw ⟨x.P, x.dims, Aw⟩ := I8 hOdw (Hp.le_trans k9 l10) hOaw (Hp.le_trans k8 (Hp.le_trans l9 l10)) hBw k10
     have l610 := Hp.le_trans l7 (Hp.le_trans l8 (Hp.le_trans l9 l10))
     have hcur := Hp.le_trans l26 l610
     have hRZ := hRZ.up l610
     have o5 := hRW.d.rd.one
     have o6 := hRW.a.rd.one
     refine Qa (Qo 6 rfl ?_)
     refine Sa 1 [_, _, _] Bz rfl (by simp [o3, o4, o5, o6]) ?_
     refine Qa (Qo 7 rfl ?_)
     refine Sa 0 [_, _, _] Bz rfl (by simp [o3, o4, o5, o6]) ?_
     refine Qa (Qe ?_)
     exact AA _ ⟨_, _, ⟨x.P, x.dims, A⟩, ⟨x.P, x.dims, Aw⟩, _, _, _, _, rfl, Hp.le_trans l26 l610, rfl, hRZ, hRW, rfl, rfl, hAc, rfl, rfl, hAw⟩ Qs
    exact A3
   refine Az rfl ?_ ?_
   ·refine BZ [.int .i64 0, .slice none 0 0, .slice none 0 0] rfl Bz rfl rfl (fun g8 => Qa (A2 [3, 4] (by kernel_rfl) rfl ?_))
    refine Az rfl ?_ ?_
    ·refine Qc call15 rfl (Kf (x.re s) vd vq _ hxs hRs) (fun rw_ h7 ms7 l7 hF => ?_)
     obtain ⟨l7', vdw, vaw, mdw, maw, mBw, Aw, rfl, rfl, hOdw, hOaw, hAw, hBw⟩ := hF
     refine A7 fun h8 l8 k8 => (A7 fun h9 l9 k9 => (A7 fun h10 l10 k10 => ?_))
     have hRW : RdZ h10 vdw vaw ⟨x.P, x.dims, Aw⟩ := I8 hOdw (Hp.le_trans k9 l10) hOaw (Hp.le_trans k8 (Hp.le_trans l9 l10)) hBw k10
     have l610 := Hp.le_trans l7 (Hp.le_trans l8 (Hp.le_trans l9 l10))
     have hcur := Hp.le_trans l26 l610
     have hRZ := hRZ.up l610
     have o5 := hRW.d.rd.one
     have o6 := hRW.a.rd.one
     refine Qa (Qo 4 rfl (BZ [.int .i64 0, .slice none 0 0, .slice none 0 0] rfl Bz rfl rfl (fun g7 => Qa (Qo 6 rfl ?_))))
     refine Sa 0 [_, _, _] Bz rfl (by simp [o3, o4, o5, o6]) ?_
     refine Qa (Qo 7 rfl ?_)
     refine Sa 1 [_, _, _] Bz rfl (by simp [o3, o4, o5, o6]) ?_
     refine Qa (Qe ?_)
     refine A9 ?_; exact AA _ ⟨_, _, ⟨x.P, x.dims, A⟩, ⟨x.P, x.dims, Aw⟩, _, _, _, _, rfl, Hp.le_trans l26 l610, rfl, hRZ, hRW, rfl, rfl, hAc, rfl, rfl, hAw⟩ Qs
    refine Az rfl ?_ ?_
    ·refine BZ [.int .i64 0, .slice none 0 0, .slice none 0 0] rfl Bz rfl rfl (fun g7 => Qa (Qo 3 rfl (Qc call15 rfl (Kf (x.re s) vd vq _ hxs hRs) (fun rw_ h7 ms7 l7 hF => ?_))))
     obtain ⟨l7', vdw, vaw, mdw, maw, mBw, Aw, rfl, rfl, hOdw, hOaw, hAw, hBw⟩ := hF
     refine A7 fun h8 l8 k8 => (A7 fun h9 l9 k9 => (A7 fun h10 l10 k10 => ?_))
     have hRW : RdZ h10 vdw vaw ⟨x.P, x.dims, Aw⟩ := I8 hOdw (Hp.le_trans k9 l10) hOaw (Hp.le_trans k8 (Hp.le_trans l9 l10)) hBw k10
     have l610 := Hp.le_trans l7 (Hp.le_trans l8 (Hp.le_trans l9 l10))
     have hcur := Hp.le_trans l26 l610
     have hRZ := hRZ.up l610
     have o5 := hRW.d.rd.one
     have o6 := hRW.a.rd.one
     refine Qa (Qo 6 rfl ?_)
     refine Sa 0 [_, _, _] Bz rfl (by simp [o3, o4, o5, o6]) ?_
     refine Qa (Qo 7 rfl ?_)
     refine Sa 1 [_, _, _] Bz rfl (by simp [o3, o4, o5, o6]) ?_
     refine Qa (Qe ?_)
     refine A9 ?_; exact AA _ ⟨_, _, ⟨x.P, x.dims, A⟩, ⟨x.P, x.dims, Aw⟩, _, _, _, _, rfl, Hp.le_trans l26 l610, rfl, hRZ, hRW, rfl, rfl, hAc, rfl, rfl, hAw⟩ Qs
    exact A3
   exact A3
  refine Az rfl ?_ ?_
  ·refine BZ [.int .i64 0, .slice none 0 0, .slice none 0 0] rfl Bz rfl rfl (fun g7 => Qw (A2 [1, 5] (by kernel_rfl) rfl ?_))
   refine Az rfl ?_ ?_
   ·refine Qc call15 rfl (Kf x vd vs _ hx hR) (fun rz h3 ms3 l3 hF => ?_)
    obtain ⟨l3', vdo, vao, md, ma, mB, A, rfl, rfl, hOd, hOa, hAc, hB⟩ := hF
    refine A7 fun h4 l4 k4 => (A7 fun h5 l5 k5 => (A7 fun h6 l6 k6 => ?_))
    have hRZ : RdZ h6 vdo vao ⟨x.P, x.dims, A⟩ := I8 hOd (Hp.le_trans k5 l6) hOa (Hp.le_trans k4 (Hp.le_trans l5 l6)) hB k6
    have l26 := Hp.le_trans l3 (Hp.le_trans l4 (Hp.le_trans l5 l6))
    have hRs := hRs.up l26
    have hS2 := hS2.le l26
    have o3 := hRZ.d.rd.one
    have o4 := hRZ.a.rd.one
    refine Qa (A2 [3, 5] (by kernel_rfl) rfl ?_)
    refine Az rfl ?_ ?_
    ·refine Qc call15 rfl (Kf (x.re s) vd vq _ hxs hRs) (fun rw_ h7 ms7 l7 hF => ?_)
     obtain ⟨l7', vdw, vaw, mdw, maw, mBw, Aw, rfl, rfl, hOdw, hOaw, hAw, hBw⟩ := hF
     refine A7 fun h8 l8 k8 => (A7 fun h9 l9 k9 => (A7 fun h10 l10 k10 => ?_))
     have hRW : RdZ h10 vdw vaw ⟨x.P, x.dims, Aw⟩ := I8 hOdw (Hp.le_trans k9 l10) hOaw (Hp.le_trans k8 (Hp.le_trans l9 l10)) hBw k10
     have l610 := Hp.le_trans l7 (Hp.le_trans l8 (Hp.le_trans l9 l10))
     have hcur := Hp.le_trans l26 l610
     have hRZ := hRZ.up l610
     have o5 := hRW.d.rd.one
     have o6 := hRW.a.rd.one
     refine Qa (Qo 5 rfl (BZ [.int .i64 0, .slice none 0 0, .slice none 0 0] rfl Bz rfl rfl (fun g8 => Qa (Qo 6 rfl ?_))))
     refine Sa 1 [_, _, _] Bz rfl (by simp [o3, o4, o5, o6]) ?_
     refine Qa (Qo 7 rfl ?_)
     refine Sa 0 [_, _, _] Bz rfl (by simp [o3, o4, o5, o6]) ?_
     refine Qa (Qe ?_)
     exact AA _ ⟨_, _, ⟨x.P, x.dims, A⟩, ⟨x.P, x.dims, Aw⟩, _, _, _, _, rfl, Hp.le_trans l26 l610, rfl, hRZ, hRW, rfl, rfl, hAc, rfl, rfl, hAw⟩ Qs
    refine Az rfl ?_ ?_
    ·refine BZ [.int .i64 0, .slice none 0 0, .slice none 0 0] rfl Bz rfl rfl (fun g8 => Qa (Qo 3 rfl (Qc call15 rfl (Kf (x.re s) vd vq _ hxs hRs) (fun rw_ h7 ms7 l7 hF => ?_))))
     obtain ⟨l7', vdw, vaw, mdw, maw, mBw, Aw, rfl, rfl, hOdw, hOaw, hAw, hBw⟩ := hF
     refine A7 fun h8 l8 k8 => (A7 fun h9 l9 k9 => (A7 fun h10 l10 k10 => ?_))
     have hRW : RdZ h10 vdw vaw ⟨x.P, x.dims, Aw⟩ := I8 hOdw (Hp.le_trans k9 l10) hOaw (Hp.le_trans k8 (Hp.le_trans l9 l10)) hBw k10
     have l610 := Hp.le_trans l7 (Hp.le_trans l8 (Hp.le_trans l9 l10))
     have hcur := Hp.le_trans l26 l610
     have hRZ := hRZ.up l610
     have o5 := hRW.d.rd.one
     have o6 := hRW.a.rd.one
     refine Qa (Qo 6 rfl ?_)
     refine Sa 1 [_, _, _] Bz rfl (by simp [o3, o4, o5, o6]) ?_
     refine Qa (Qo 7 rfl ?_)
     refine Sa 0 [_, _, _] Bz rfl (by simp [o3, o4, o5, o6]) ?_
     refine Qa (Qe ?_)
     exact AA _ ⟨_, _, ⟨x.P, x.dims, A⟩, ⟨x.P, x.dims, Aw⟩, _, _, _, _, rfl, Hp.le_trans l26 l610, rfl, hRZ, hRW, rfl, rfl, hAc, rfl, rfl, hAw⟩ Qs
    exact A3
   refine Az rfl ?_ ?_
   ·refine BZ [.int .i64 0, .slice none 0 0, .slice none 0 0] rfl Bz rfl rfl (fun g8 => Qw (Qo 1 rfl (Qc call15 rfl (Kf x vd vs _ hx hR) (fun rz h3 ms3 l3 hF => ?_))))
    obtain ⟨l3', vdo, vao, md, ma, mB, A, rfl, rfl, hOd, hOa, hAc, hB⟩ := hF
    refine A7 fun h4 l4 k4 => (A7 fun h5 l5 k5 => (A7 fun h6 l6 k6 => ?_))
    have hRZ : RdZ h6 vdo vao ⟨x.P, x.dims, A⟩ := I8 hOd (Hp.le_trans k5 l6) hOa (Hp.le_trans k4 (Hp.le_trans l5 l6)) hB k6
    have l26 := Hp.le_trans l3 (Hp.le_trans l4 (Hp.le_trans l5 l6))
    have hRs := hRs.up l26
    have hS2 := hS2.le l26
    have o3 := hRZ.d.rd.one
    have o4 := hRZ.a.rd.one
    refine Qa (Qo 3 rfl (Qc call15 rfl (Kf (x.re s) vd vq _ hxs hRs) (fun rw_ h7 ms7 l7 hF => ?_)))
    obtain ⟨l7', vdw, vaw, mdw, maw, mBw, Aw, rfl, rfl, hOdw, hOaw, hAw, hBw⟩ := hF
    refine A7 fun h8 l8 k8 => (A7 fun h9 l9 k9 => (A7 fun h10 l10 k10 => ?_))
    have hRW : RdZ h10 vdw vaw ⟨x.P, x.dims, Aw⟩ := I8 hOdw (Hp.le_trans k9 l10) hOaw (Hp.le_trans k8 (Hp.le_trans l9 l10)) hBw k10
    have l610 := Hp.le_trans l7 (Hp.le_trans l8 (Hp.le_trans l9 l10))
    have hcur := Hp.le_trans l26 l610
    have hRZ := hRZ.up l610
    have o5 := hRW.d.rd.one
    have o6 := hRW.a.rd.one
    refine Qa (Qo 6 rfl ?_)
    refine Sa 1 [_, _, _] Bz rfl (by simp [o3, o4, o5, o6]) ?_
    refine Qa (Qo 7 rfl ?_)
    refine Sa 0 [_, _, _] Bz rfl (by simp [o3, o4, o5, o6]) ?_
    refine Qa (Qe ?_)
    exact AA _ ⟨_, _, ⟨x.P, x.dims, A⟩, ⟨x.P, x.dims, Aw⟩, _, _, _, _, rfl, Hp.le_trans l26 l610, rfl, hRZ, hRW, rfl, rfl, hAc, rfl, rfl, hAw⟩ Qs
   exact A3
  refine Az rfl ?_ ?_
  ·refine BZ [.int .i64 0, .slice none 0 0, .slice none 0 0] rfl Bz rfl rfl (fun g8 => Qw (A2 [1, 4] (by kernel_rfl) rfl ?_))
   refine Az rfl ?_ ?_
   ·refine Qc call15 rfl (Kf x vd vs _ hx hR) (fun rz h3 ms3 l3 hF => ?_)
    obtain ⟨l3', vdo, vao, md, ma, mB, A, rfl, rfl, hOd, hOa, hAc, hB⟩ := hF
    refine A7 fun h4 l4 k4 => (A7 fun h5 l5 k5 => (A7 fun h6 l6 k6 => ?_))
    have hRZ : RdZ h6 vdo vao ⟨x.P, x.dims, A⟩ := I8 hOd (Hp.le_trans k5 l6) hOa (Hp.le_trans k4 (Hp.le_trans l5 l6)) hB k6
    have l26 := Hp.le_trans l3 (Hp.le_trans l4 (Hp.le_trans l5 l6))
    have hRs := hRs.up l26
    have hS2 := hS2.le l26
    have o3 := hRZ.d.rd.one
    have o4 := hRZ.a.rd.one
    refine Qa (A2 [3, 4] (by kernel_rfl) rfl ?_)
    refine Az rfl ?_ ?_
    ·refine Qc call15 rfl (Kf (x.re s) vd vq _ hxs hRs) (fun rw_ h7 ms7 l7 hF => ?_)
     obtain ⟨l7', vdw, vaw, mdw, maw, mBw, Aw, rfl, rfl, hOdw, hOaw, hAw, hBw⟩ := hF
     refine A7 fun h8 l8 k8 => (A7 fun h9 l9 k9 => (A7 fun h10 l10 k10 => ?_))
     have hRW : RdZ h10 vdw vaw ⟨x.P, x.dims, Aw⟩ := I8 hOdw (Hp.le_trans k9 l10) hOaw (Hp.le_trans k8 (Hp.le_trans l9 l10)) hBw k10
     have l610 := Hp.le_trans l7 (Hp.le_trans l8 (Hp.le_trans l9 l10))
     have hcur := Hp.le_trans l26 l610
     have hRZ := hRZ.up l610
     have o5 := hRW.d.rd.one
     have o6 := hRW.a.rd.one
     refine Qa (Qo 4 rfl (BZ [.int .i64 0, .slice none 0 0, .slice none 0 0] rfl Bz rfl rfl (fun g7 => Qa (Qo 6 rfl ?_))))
     refine Sa 0 [_, _, _] Bz rfl (by simp [o3, o4, o5, o6]) ?_
     refine Qa (Qo 7 rfl ?_)
     refine Sa 1 [_, _, _] Bz rfl (by simp [o3, o4, o5, o6]) ?_
     refine Qa (Qe ?_)
     refine A9 ?_; exact AA _ ⟨_, _, ⟨x.P, x.dims, A⟩, ⟨x.P, x.dims, Aw⟩, _, _, _, _, rfl, Hp.le_trans l26 l610, rfl, hRZ, hRW, rfl, rfl, hAc, rfl, rfl, hAw⟩ Qs
    refine Az rfl ?_ ?_
    ·refine BZ [.int .i64 0, .slice none 0 0, .slice none 0 0] rfl Bz rfl rfl (fun g7 => Qa (Qo 3 rfl (Qc call15 rfl (Kf (x.re s) vd vq _ hxs hRs) (fun rw_ h7 ms7 l7 hF => ?_))))
     obtain ⟨l7', vdw, vaw, mdw, maw, mBw, Aw, rfl, rfl, hOdw, hOaw, hAw, hBw⟩ := hF
     refine A7 fun h8 l8 k8 => (A7 fun h9 l9 k9 => (A7 fun h10 l10 k10 => ?_))
     have hRW : RdZ h10 vdw vaw ⟨x.P, x.dims, Aw⟩ := I8 hOdw (Hp.le_trans k9 l10) hOaw (Hp.le_trans k8 (Hp.le_trans l9 l10)) hBw k10
     have l610 := Hp.le_trans l7 (Hp.le_trans l8 (Hp.le_trans l9 l10))
     have hcur := Hp.le_trans l26 l610
     have hRZ := hRZ.up l610
     have o5 := hRW.d.rd.one
     have o6 := hRW.a.rd.one
     refine Qa (Qo 6 rfl ?_)
     refine Sa 0 [_, _, _] Bz rfl (by simp [o3, o4, o5, o6]) ?_
     refine Qa (Qo 7 rfl ?_)
     refine Sa 1 [_, _, _] Bz rfl (by simp [o3, o4, o5, o6]) ?_
     refine Qa (Qe ?_)
     refine A9 ?_; exact AA _ ⟨_, _, ⟨x.P, x.dims, A⟩, ⟨x.P, x.dims, Aw⟩, _, _, _, _, rfl, Hp.le_trans l26 l610, rfl, hRZ, hRW, rfl, rfl, hAc, rfl, rfl, hAw⟩ Qs
    exact A3
   refine Az rfl ?_ ?_
   ·refine BZ [.int .i64 0, .slice none 0 0, .slice none 0 0] rfl Bz rfl rfl (fun g7 => Qw (Qo 1 rfl (Qc call15 rfl (Kf x vd vs _ hx hR) (fun rz h3 ms3 l3 hF => ?_))))
    obtain ⟨l3', vdo, vao, md, ma, mB, A, rfl, rfl, hOd, hOa, hAc, hB⟩ := hF
    refine A7 fun h4 l4 k4 => (A7 fun h5 l5 k5 => (A7 fun h6 l6 k6 => ?_))
    have hRZ : RdZ h6 vdo vao ⟨x.P, x.dims, A⟩ := I8 hOd (Hp.le_trans k5 l6) hOa (Hp.le_trans k4 (Hp.le_trans l5 l6)) hB k6
    have l26 := Hp.le_trans l3 (Hp.le_trans l4 (Hp.le_trans l5 l6))
    have hRs := hRs.up l26
    have hS2 := hS2.le l26
    have o3 := hRZ.d.rd.one
    have o4 := hRZ.a.rd.one
    refine Qa (Qo 3 rfl (Qc call15 rfl (Kf (x.re s) vd vq _ hxs hRs) (fun rw_ h7 ms7 l7 hF => ?_)))
    obtain ⟨l7', vdw, vaw, mdw, maw, mBw, Aw, rfl, rfl, hOdw, hOaw, hAw, hBw⟩ := hF
    refine A7 fun h8 l8 k8 => (A7 fun h9 l9 k9 => (A7 fun h10 l10 k10 => ?_))
    have hRW : RdZ h10 vdw vaw ⟨x.P, x.dims, Aw⟩ := I8 hOdw (Hp.le_trans k9 l10) hOaw (Hp.le_trans k8 (Hp.le_trans l9 l10)) hBw k10
    have l610 := Hp.le_trans l7 (Hp.le_trans l8 (Hp.le_trans l9 l10))
    have hcur := Hp.le_trans l26 l610
    have hRZ := hRZ.up l610
    have o5 := hRW.d.rd.one
    have o6 := hRW.a.rd.one
    refine Qa (Qo 6 rfl ?_)
    refine Sa 0 [_, _, _] Bz rfl (by simp [o3, o4, o5, o6]) ?_
    refine Qa (Qo 7 rfl ?_)
    refine Sa 1 [_, _, _] Bz rfl (by simp [o3, o4, o5, o6]) ?_
    refine Qa (Qe ?_)
    refine A9 ?_; exact AA _ ⟨_, _, ⟨x.P, x.dims, A⟩, ⟨x.P, x.dims, Aw⟩, _, _, _, _, rfl, Hp.le_trans l26 l610, rfl, hRZ, hRW, rfl, rfl, hAc, rfl, rfl, hAw⟩ Qs
   exact A3
  exact A3
 ·obtain ⟨g7, g8, Z, W, vz, vza, vw, vwa, rfl, l2', rfl, hRZ, hRW, z1, z2, z3, w1, w2, w3⟩ := hI
  refine AL fun h3 l3 hS8 => (AL fun h4 l4 hS7 => ?_)
  have l34 := Hp.le_trans l3 l4
  have hRZ := hRZ.up l34
  have hRW := hRW.up l34
  have hS8 := hS8.le l4
  have hRtZ : Z.Rt := x.rt z1 z2 z3
  have hRtW : W.Rt := (x.re s).rt w1 w2 w3
  have zl : Z.dims.length = x.dims.length := by rw [z2]
  have wl_ : W.dims.length = x.dims.length := by rw [w2]
  have za : Z.ars.length = x.dims.length - 1 := by have := congrArg List.length z3; rwa [List.length_map, x.core_len] at this
  have wa : W.ars.length = x.dims.length - 1 := by have := congrArg List.length w3; rw [List.length_map, (x.re s).core_len] at this; exact this
  have hdn := x.dims_len
  have hpb := x.P_bd
  have hA7 := Seg.all hS7
  have hA70 := hA7 0 _ rfl
  have hA8 := Seg.all hS8
  refine Ax (Qf CG rfl (Ql rfl underlying3 (hA70 _) ?_))
  refine Qx (AT Sr [.int .i64 0, .slice none 0 0, .slice none 0 0] [(0, _)] [_, _, _] rfl Bz rfl rfl (by repeat (first | exact trivial | refine ⟨⟨rfl, rfl, rfl⟩, ?_⟩)) rfl) rfl ?_
  refine BZ [.int .i64 0, .slice none 0 0, .slice none 0 0] rfl Bz rfl rfl (fun g9 => ?_)
  refine Sa 0 [_, _, _] Bz rfl (by simp [Value.oneCell']) ?_
  refine Aq (Ac (Ax (Qf Bn rfl (Ql rfl underlying24 (hA7 _ _ rfl _) (Qx (AJ hRZ.d.rd.any rfl underlying24 rfl) rfl (Qm rfl (Aq (Ag (BX ?_)))))))))
  refine AD (fun q sl hh ms' => ∃ (k : Nat) (vo : Value) (md : Hp), q = Z.dims.length - k ∧ sl = [(5, .bool true), (7, .pointer (some ⟨g7, 0, none⟩)), (8, .pointer (some ⟨g8, 0, none⟩)), (9, .pointer (some ⟨g9, 0, none⟩)), (38, .int .i64 Z.dims.length), (39, .int .i64 k)] ∧ h4 = hh ∧ ms' = [md, AX g9 30 [.int .i64 x.P, vo, .slice none 0 0]] ∧ k ≤ Z.dims.length ∧ OwnL cI 1 3 md vo (x.sdims.take k))
   (Z.dims.length - 0) _ ⟨0, _, _, rfl, rfl, rfl, rfl, by omega, OwnL.nil Br⟩ Qs ?_
  rintro q sl hh ms' ⟨k, vo, md, rfl, rfl, rfl, rfl, hk, hO⟩
  refine Ax (Qm rfl (Aq (Ac ?_)))
  refine AF rfl (fun hlt => ?_) (fun hlt => ?_)
  ·have hkl : k < x.dims.length := by omega
   have hdk := x.d_le k
   have hsl : (x.sdims.take k).length ≤ 8 := by rw [List.length_take, x.sdims_len]; omega
   refine Ai (Ab (Ac (Ag (Ax (Qm rfl (Qm rfl (Aq (BB 14 Cd (by kernel_rfl) rfl (Wf Bn rfl (Wl rfl underlying24 (Cell.blk 1 rfl rfl) (Wf Bn rfl (Wl rfl underlying24 (hA7 _ _ rfl _) (Wm rfl (AV (Ah _ hRZ.d.rd.any rfl underlying24 A8 rfl rfl rfl (by omega)) rfl rfl (Wl rfl underlying3 (rdz_dim hRZ z2 hkl _) (Wf Bn rfl (Wl rfl underlying24 (hA8 _ _ rfl _) (Wm rfl (AV (Ah _ hRW.d.rd.any rfl underlying24 A8 rfl rfl rfl (by omega)) rfl rfl (Wl rfl underlying3 (rdz_dim hRW w2 hkl _) (AV (oA rfl) rfl rfl ?_)))))))))))))))))))))
   refine U9 (DX [_] rfl underlying24 A8 rfl (by rfl) rfl rfl (by omega)) rfl rfl ?_
   refine Ko (fun g55 => ?_)
   refine Bm 1 hO (RdL.one Br (x := (x.d k : Int) + (x.d k : Int)) (List.Mem.head _) rfl) rfl underlying24 A8 rfl (by omega) rfl rfl rfl Cv (by simp only [List.length_singleton]; omega) (by simp only [List.length_singleton]; omega) rfl rfl rfl (fun vo2 md2 hO2 => ?_)
   have ov2 : vo2.oneCell' = true := (hO2.rd (h := h) (ms := [md2]) (List.Mem.head _)).rd.one
   refine Qf Bn rfl ?_
   refine AK 2 _ rfl BN rfl rfl (by assumption) rfl rfl (by (simp; done)) rfl rfl ?_
   refine Ak (Aj (Ab (Ad (Qx (oA rfl) rfl (Qm rfl (Ak (A5 ?_)))))))
   refine Al (Z.dims.length - (k + 1)) _ (by omega) ⟨k + 1, vo2, md2, rfl, rfl, rfl, rfl, by omega, by rw [x.sdims_take hkl]; exact hO2⟩ Qs
  ·have hkz : k = Z.dims.length := by omega
   rw [hkz, zl, List.take_of_length_le (by rw [x.sdims_len]; omega)] at hO
   refine Aw (Aa (Aa (Af (Ab (Ac (Ax (Qf BQ rfl (Ql rfl underlying28 (hA7 _ _ rfl _) (Qx (AJ hRZ.a.rd.any rfl underlying28 rfl) rfl (Qm rfl (Aq (Ag (BX (BX ?_))))))))))))))
   refine AD (fun q sl hh ms' => ∃ (k : Nat) (va : Value) (ma mB : Hp) (A : List Ar), q = Z.ars.length - k ∧ sl = [(5, .bool true), (7, .pointer (some ⟨g7, 0, none⟩)), (8, .pointer (some ⟨g8, 0, none⟩)), (9, .pointer (some ⟨g9, 0, none⟩)), (61, .int .i64 Z.ars.length), (62, .int .i64 k)] ∧ h4.le hh ∧ ms' = [ma, mB, md, AX g9 30 [.int .i64 x.P, vo, va]] ∧ k ≤ Z.ars.length ∧ OwnL cA 5 45 ma va A ∧ A.map Ar.core = (x.score (x.re s)).take k ∧ BagE A mB)
    (Z.ars.length - 0) _ ⟨0, _, _, _, [], rfl, rfl, Hp.le_refl _, rfl, by omega, OwnL.nil Fm, rfl, BagE.nil⟩ Qs ?_
   rintro q sl hh ms' ⟨k, va, ma, mB, A, rfl, rfl, lh, rfl, hk, hOa, hAc, hB⟩
   have hRZ := hRZ.up lh
   have hRW := hRW.up lh
   have hS7 := hS7.le lh
   have hS8 := hS8.le lh
   have hA7 := Seg.all hS7
   have hA70 := hA7 0 _ rfl
   have hA8 := Seg.all hS8
   refine Ax (Qm rfl (Aq (Ac ?_)))
   refine AF rfl (fun hlt => ?_) (fun hlt => ?_)
   ·have hkl : k < Z.ars.length := by omega
    obtain ⟨uz, hsz, huz, hbz⟩ := rdz_ar hRZ z3 hkl
    obtain ⟨uw, hsw, huw, hbw⟩ := rdz_ar hRW w3 (show k < W.ars.length by omega)
    have ouz := huz.rd.one
    have ouw := huw.rd.one
    have hrc := x.rc_le k
    refine Ai (Ab (Ac (Ag (Ax (Qm rfl (Qm rfl (Aq ?_)))))))
    refine Bv (fun sl h5 ms' => ∃ (g12 g13 : Nat), sl = [(5, .bool true), (7, .pointer (some ⟨g7, 0, none⟩)), (8, .pointer (some ⟨g8, 0, none⟩)), (9, .pointer (some ⟨g9, 0, none⟩)), (11, .int .i64 k), (12, .pointer (some ⟨g12, 0, none⟩)), (13, .pointer (some ⟨g13, 0, none⟩)), (61, .int .i64 Z.ars.length), (62, .int .i64 k)] ∧ hh = h5 ∧ ms' = [AX g13 42 [.int .i64 x.P, .int .i64 (x.rows k), .int .i64 (x.cols k), uw], AX g12 42 [.int .i64 x.P, .int .i64 (x.rows k), .int .i64 (x.cols k), uz], ma, mB, md, AX g9 30 [.int .i64 x.P, vo, va]]) ?_ (fun s h ms hI => ?_)
    ·refine AW (n := 16) (bs := [true, true, true, true, true, true, true, true, true, true, true, true, false, false, false, false]) [true, true, true, true, true, true, true, true, true, true, true, true] Cd (by kernel_rfl) (by kernel_rfl) rfl rfl (QF BQ rfl (QL rfl underlying28 (hA7 _ _ rfl _) (Qq rfl (Qp rfl (Ah _ hRZ.a.rd.any rfl underlying28 Cr rfl rfl rfl (by omega)) (QF Ca rfl (Qp rfl (oG rfl underlying42 AI (hsz _)) (QF BQ rfl (QL rfl underlying28 (hA8 _ _ rfl _) (Qq rfl (Qp rfl (Ah _ hRW.a.rd.any rfl underlying28 Cr rfl rfl rfl (by omega)) (QF Ca rfl (Qp rfl (oG rfl underlying42 AI (hsw _)) ?_))))))))))))
     unfold CD
     simp only [List.cons_append, List.nil_append]
     refine A2 [12, 13] (by kernel_rfl) rfl ?_
     refine Az rfl ?_ ?_
     ·refine BZ [.int .i64 0, .int .i64 0, .int .i64 0, .slice none 0 0] rfl AI rfl rfl (fun g12 => Qw (Qo 13 rfl (BZ [.int .i64 0, .int .i64 0, .int .i64 0, .slice none 0 0] rfl AI rfl rfl (fun g13 => Qw (Qo 14 rfl ?_)))))
      refine Sa 1 [_, _, _, _] AI rfl (by simp [ouz, ouw]) ?_
      refine Qw (Qo 15 rfl ?_)
      refine Sa 0 [_, _, _, _] AI rfl (by simp [ouz, ouw]) ?_
      refine Qw (Qe ?_)
      exact AA _ ⟨_, _, rfl, rfl, rfl⟩ Qs
     refine Az rfl ?_ ?_
     ·refine BZ [.int .i64 0, .int .i64 0, .int .i64 0, .slice none 0 0] rfl AI rfl rfl (fun g13 => Qw (Qo 12 rfl (BZ [.int .i64 0, .int .i64 0, .int .i64 0, .slice none 0 0] rfl AI rfl rfl (fun g12 => Qw (Qo 14 rfl ?_)))))
      refine Sa 0 [_, _, _, _] AI rfl (by simp [ouz, ouw]) ?_
      refine Qw (Qo 15 rfl ?_)
      refine Sa 1 [_, _, _, _] AI rfl (by simp [ouz, ouw]) ?_
      refine Qw (Qe ?_)
      refine A9 ?_; exact AA _ ⟨_, _, rfl, rfl, rfl⟩ Qs
     exact A3
    ·obtain ⟨g12, g13, rfl, rfl, rfl⟩ := hI
     refine AL fun h5 l5 hS13 => (AL fun h6 l6 hS12 => ?_)
     have hS13 := hS13.le l6
     have l56 := Hp.le_trans l5 l6
     have hS7 := hS7.le l56
     have hS8 := hS8.le l56
     have hA7 := Seg.all hS7
     have hA70 := hA7 0 _ rfl
     have hA12 := Seg.all hS12
     have hA13 := Seg.all hS13
     obtain ⟨r, hr⟩ : ∃ r, x.rows k = r := ⟨_, rfl⟩
     obtain ⟨c, hc⟩ : ∃ c, x.cols k = c := ⟨_, rfl⟩
     rw [hr, hc] at hrc hA12 hA13
     refine Ax (Qf CG rfl (Ql rfl underlying3 (hA70 _) (Qf Bh rfl (Ql rfl underlying3 (hA12 _ _ rfl _) (Qf Bh rfl (Ql rfl underlying3 (hA13 _ _ rfl _) (Qx (oA rfl) rfl (Qf A0 rfl (Ql rfl underlying3 (hA12 _ _ rfl _) (Qf A0 rfl (Ql rfl underlying3 (hA13 _ _ rfl _) (Qx (oA rfl) rfl ?_))))))))))))
     refine Qc call23 rfl (FN x.P ((r : Int) + r) ((c : Int) + c) h6 ⟨by omega, by omega⟩) (fun xm h7 ms7 l7 hF => ?_)
     rw [show (r : Int) + r = ((r + r : Nat) : Int) from (Int.natCast_add _ _).symm, show (c : Int) + c = ((c + c : Nat) : Int) from (Int.natCast_add _ _).symm, DO x.P_is (by omega) (by omega)] at hF
     obtain ⟨rfl, xe, mx, rfl, rfl, hOx⟩ := hF
     have hOx : OwnL cI 1 3 mx xe (x.sme (x.re s) k 0 0) := by rw [← x.sme_zero, hr, hc]; exact hOx
     have hsl := fun i j => x.sme_len (x.re s) k i j
     rw [hr, hc] at hsl
     obtain ⟨R, hRr⟩ : ∃ R, r + r = R := ⟨_, rfl⟩
     obtain ⟨C, hC⟩ : ∃ C, c + c = C := ⟨_, rfl⟩
     rw [hRr, hC] at hsl
     have ox : xe.oneCell' = true := (hOx.rd (h := h) (ms := [mx]) (List.Mem.head _)).rd.one
     refine BZ [.int .i64 0, .int .i64 0, .int .i64 0, .slice none 0 0] rfl AI rfl rfl (fun g14 => ?_)
     refine Sa 0 [_, _, _, _] AI rfl (by simp [ox]) ?_
     refine Aq (AL fun h8 l8 hS14 => ?_)
     have hS14 : Seg h8 [] ⟨g14, 0, none⟩ [.int .i64 x.P, .int .i64 R, .int .i64 C, xe] := by rw [← hRr, ← hC]; exact hS14
     have hS12 := hS12.le l8
     have hS13 := hS13.le l8
     have l58 := Hp.le_trans l56 l8
     have huz := huz.up l58
     have huw := huw.up l58
     have hA12 := Seg.all hS12
     have hA13 := Seg.all hS13
     have hA14 := Seg.all hS14
     rw [hr, hc] at hA12 hA13
     have hml : (x.mat k).e.length = r * c := by rw [x.mtl_, hr, hc]
     have hml' : ((x.re s).mat k).e.length = r * c := by rw [(x.re s).mtl_]; show x.rows k * x.cols k = _; rw [hr, hc]
     have d3 : r * c ≤ 4 * 4 := Nat.mul_le_mul hrc.1 hrc.2
     have d6 : R * C ≤ 8 * 8 := Nat.mul_le_mul (by omega) (by omega)
     refine Bv (fun sl h9 ms' => ∃ (mx : Hp), sl = [(5, .bool true), (7, .pointer (some ⟨g7, 0, none⟩)), (8, .pointer (some ⟨g8, 0, none⟩)), (9, .pointer (some ⟨g9, 0, none⟩)), (11, .int .i64 k), (12, .pointer (some ⟨g12, 0, none⟩)), (13, .pointer (some ⟨g13, 0, none⟩)), (14, .pointer (some ⟨g14, 0, none⟩)), (61, .int .i64 Z.ars.length), (62, .int .i64 k)] ∧ h8 = h9 ∧ ms' = [mx, ma, mB, md, AX g9 30 [.int .i64 x.P, vo, va]] ∧ OwnL cI 1 3 mx xe (x.sme (x.re s) k r 0)) ?_ (fun s h ms hI => ?_)
     ·refine Ac (Ad (Qf Bh rfl (Ql rfl underlying3 (hA12 _ _ rfl _) (Qm rfl (Aq (Ag ?_))))))
      refine AD (fun q sl h9 ms' => ∃ (i : Nat) (mx : Hp), q = r - i ∧ sl = [(5, .bool true), (7, .pointer (some ⟨g7, 0, none⟩)), (8, .pointer (some ⟨g8, 0, none⟩)), (9, .pointer (some ⟨g9, 0, none⟩)), (11, .int .i64 k), (12, .pointer (some ⟨g12, 0, none⟩)), (13, .pointer (some ⟨g13, 0, none⟩)), (14, .pointer (some ⟨g14, 0, none⟩)), (61, .int .i64 Z.ars.length), (62, .int .i64 k), (91, .int .i64 r), (92, .int .i64 i)] ∧ h8 = h9 ∧ ms' = [mx, ma, mB, md, AX g9 30 [.int .i64 x.P, vo, va]] ∧ i ≤ r ∧ OwnL cI 1 3 mx xe (x.sme (x.re s) k i 0))
       (r - 0) _ ⟨0, mx, rfl, rfl, rfl, rfl, by omega, hOx⟩ Qs ?_
      rintro q sl h9 ms' ⟨i, mx, rfl, rfl, rfl, rfl, hi, hOx⟩
      refine Ax (Qm rfl (Aq (Ac ?_)))
      refine AF rfl (fun hlt4 => ?_) (fun hlt4 => ?_)
      ·have hir : i < r := by omega
       have d1 : (i + 1) * c = i * c + c := by rw [Nat.add_mul, Nat.one_mul]
       have d2 : (i + 1) * c ≤ r * c := Nat.mul_le_mul_right c hir
       have d4 : ((i : Int) + 1) * c = i * c + c := by rw [Int.add_mul, Int.one_mul]
       have d5 : (i + 1) * C = i * C + C := by rw [Nat.add_mul, Nat.one_mul]
       have d7 : (i + 1) * C ≤ R * C := Nat.mul_le_mul_right C (by omega)
       have el1 := hsl i 0
       obtain ⟨p1, p2⟩ := row_of hml hir
       have hst := x.sme_top (x.re s) k (hr ▸ hir) _ (by rw [hc]; exact p1) (by rw [hc]; exact p2)
       rw [hc, hC] at hst
       refine Ai (Ab (Ac (Ag (Ax (Qm rfl (Qm rfl (Aq (BB 19 Cd (by kernel_rfl) rfl (Wf Bc rfl (Wl rfl underlying24 (hA14 _ _ rfl _) (Wm rfl (Wf A0 rfl (Wl rfl underlying3 (hA14 _ _ rfl _) (AV (oM rfl) rfl rfl (AV (Lo (i * C) (hOx.rd (h := h8) (ms := [mx]) (List.Mem.head _)).rd rfl underlying24 A8 rfl rfl (by omega) (by omega)) rfl rfl (Wf Bc rfl (Wl rfl underlying24 (hA12 _ _ rfl _) (Wm rfl (Wf A0 rfl (Wl rfl underlying3 (hA12 _ _ rfl _) (AV (oM rfl) rfl rfl (Wm rfl (AV (oA rfl) rfl rfl (Wf A0 rfl (Wl rfl underlying3 (hA12 _ _ rfl _) (AV (oM rfl) rfl rfl (AV (J6 (i * c) ((i + 1) * c) huz.rd rfl underlying24 A8 rfl rfl rfl (by omega) (by omega) (by omega) (by omega)) rfl rfl (BC (wl_copyAt 0 (i * C) hOx (huz.any.sub_ (i := i * c) (j := (i + 1) * c) (by omega) (by omega)) (by omega) rfl underlying24 A8 rfl rfl rfl rfl rfl rfl (fun mx' hOx' => ?_))))))))))))))))))))))))))))))
       rw [hst] at hOx'
       refine Ak (Aj (Ab (Ad (Qx (oA rfl) rfl (Qm rfl (Ak ?_))))))
       refine Al (r - (i + 1)) _ (by omega) ⟨i + 1, mx', rfl, rfl, rfl, rfl, by omega, hOx'⟩ Qs
      ·have hir : i = r := by omega
       rw [hir] at hOx
       refine Aw (Aa (Aa (Af ?_)))
       exact AA _ ⟨mx, rfl, rfl, rfl, hOx⟩ Qs
     ·obtain ⟨mx, rfl, rfl, rfl, hOx⟩ := hI
      refine Bv (fun sl h9 ms' => ∃ (mx : Hp), sl = [(5, .bool true), (7, .pointer (some ⟨g7, 0, none⟩)), (8, .pointer (some ⟨g8, 0, none⟩)), (9, .pointer (some ⟨g9, 0, none⟩)), (11, .int .i64 k), (14, .pointer (some ⟨g14, 0, none⟩)), (61, .int .i64 Z.ars.length), (62, .int .i64 k)] ∧ h8 = h9 ∧ ms' = [mx, ma, mB, md, AX g9 30 [.int .i64 x.P, vo, va]] ∧ OwnL cI 1 3 mx xe (x.sme (x.re s) k r r)) ?_ (fun s h ms hI => ?_)
      ·refine Ac (Ad (Qf Bh rfl (Ql rfl underlying3 (hA13 _ _ rfl _) (Qm rfl (Aq (Ag ?_))))))
       refine AD (fun q sl h9 ms' => ∃ (j : Nat) (mx : Hp), q = r - j ∧ sl = [(5, .bool true), (7, .pointer (some ⟨g7, 0, none⟩)), (8, .pointer (some ⟨g8, 0, none⟩)), (9, .pointer (some ⟨g9, 0, none⟩)), (11, .int .i64 k), (12, .pointer (some ⟨g12, 0, none⟩)), (13, .pointer (some ⟨g13, 0, none⟩)), (14, .pointer (some ⟨g14, 0, none⟩)), (61, .int .i64 Z.ars.length), (62, .int .i64 k), (117, .int .i64 r), (118, .int .i64 j)] ∧ h8 = h9 ∧ ms' = [mx, ma, mB, md, AX g9 30 [.int .i64 x.P, vo, va]] ∧ j ≤ r ∧ OwnL cI 1 3 mx xe (x.sme (x.re s) k r j))
        (r - 0) _ ⟨0, mx, rfl, rfl, rfl, rfl, by omega, hOx⟩ Qs ?_
       rintro q sl h9 ms' ⟨j, mx, rfl, rfl, rfl, rfl, hj, hOx⟩
       refine Ax (Qm rfl (Aq (Ac ?_)))
       refine AF rfl (fun hlt6 => ?_) (fun hlt6 => ?_)
       ·have hjr : j < r := by omega
        have d1 : (j + 1) * c = j * c + c := by rw [Nat.add_mul, Nat.one_mul]
        have d2 : (j + 1) * c ≤ r * c := Nat.mul_le_mul_right c hjr
        have d4 : ((j : Int) + 1) * c = j * c + c := by rw [Int.add_mul, Int.one_mul]
        have d5 : (r + j + 1) * C = (r + j) * C + C := by rw [Nat.add_mul, Nat.one_mul]
        have d7 : (r + j + 1) * C ≤ R * C := Nat.mul_le_mul_right C (by omega)
        have d8 : ((r : Int) + j) * C = (((r + j) * C : Nat) : Int) := by rw [Int.natCast_mul, Int.natCast_add]
        have el1 := hsl r j
        obtain ⟨p1, p2⟩ := row_of hml' hjr
        have hst := x.sme_low (x.re s) k (hr ▸ hjr) _ (by rw [hc]; exact p1) (by rw [hc]; exact p2)
        rw [hr, hc, hC] at hst
        refine Ai (Ab (Ac (Ag (Ax (Qm rfl (Qm rfl (Aq (BB 25 Cd (by kernel_rfl) rfl (Wf Bc rfl (Wl rfl underlying24 (hA14 _ _ rfl _) (Wf Bh rfl (Wl rfl underlying3 (hA12 _ _ rfl _) (Wm rfl (AV (oA rfl) rfl rfl (Wf A0 rfl (Wl rfl underlying3 (hA14 _ _ rfl _) (AV (oM rfl) rfl rfl (Wf A0 rfl (Wl rfl underlying3 (hA12 _ _ rfl _) (AV (oA rfl) rfl rfl (AV (Lo ((r + j) * C + c) (hOx.rd (h := h8) (ms := [mx]) (List.Mem.head _)).rd rfl underlying24 A8 rfl rfl (by omega) (by omega)) rfl rfl (Wf Bc rfl (Wl rfl underlying24 (hA13 _ _ rfl _) (Wm rfl (Wf A0 rfl (Wl rfl underlying3 (hA13 _ _ rfl _) (AV (oM rfl) rfl rfl (Wm rfl (AV (oA rfl) rfl rfl (Wf A0 rfl (Wl rfl underlying3 (hA13 _ _ rfl _) (AV (oM rfl) rfl rfl (AV (J6 (j * c) ((j + 1) * c) huw.rd rfl underlying24 A8 rfl rfl rfl (by omega) (by omega) (by omega) (by omega)) rfl rfl (BC (wl_copyAt 0 ((r + j) * C + c) hOx (huw.any.sub_ (i := j * c) (j := (j + 1) * c) (by omega) (by omega)) (by omega) rfl underlying24 A8 rfl rfl rfl rfl rfl rfl (fun mx' hOx' => ?_))))))))))))))))))))))))))))))))))))
        rw [hst] at hOx'
        refine Ak (Aj (Ab (Ad (Qx (oA rfl) rfl (Qm rfl (Ak ?_))))))
        refine Al (r - (j + 1)) _ (by omega) ⟨j + 1, mx', rfl, rfl, rfl, rfl, by omega, hOx'⟩ Qs
       ·have hjr : j = r := by omega
        rw [hjr] at hOx
        refine Aw (Aa (Aa (Af ?_)))
        exact AA _ ⟨mx, rfl, rfl, rfl, hOx⟩ Qs
      ·obtain ⟨mx, rfl, rfl, rfl, hOx⟩ := hI
       have hcur := Hp.le_trans l58 (Hp.le_refl h8)
       have hA7 := Seg.all (hS7.le l8)
       have hA70 := hA7 0 _ rfl
       have ova : va.oneCell' = true := (hOa.rd (h := h) (ms := [ma]) (List.Mem.head _)).rd.one
       have hAl : A.length = k := by
        have h1 := congrArg List.length hAc
        rw [List.length_map, List.length_take, x.score_len] at h1; omega
       have hsc : (x.score (x.re s)).take (k + 1) = (x.score (x.re s)).take k ++ [(x.bk k, ⟨x.P, R, C, x.sme (x.re s) k r r⟩)] := by
        rw [List.take_succ_eq_append_getElem (by rw [x.score_len]; omega)]
        congr 2
        simp only [Pl.score, List.getElem_map, List.getElem_range, Pl.smat, hr, hc, hRr, hC]
       have hRZ := hRZ.up l58
       refine BB 11 Cd (by kernel_rfl) rfl (Wf BQ rfl (Wl rfl underlying28 (Cell.blk 4 (k := 2) rfl rfl) (Wf BQ rfl (Wl rfl underlying28 (hA7 _ _ rfl _) (Wm rfl (AV (Ah _ hRZ.a.rd.any rfl underlying28 Cr rfl rfl rfl (by omega)) rfl rfl (Wf EK rfl (Wl rfl underlying4 ((hbz _).le l58) (AV (oG rfl underlying42 AI (Seg.any hS14)) rfl rfl ?_)))))))))
       refine AV (AT Pa [.bool false, .int .i64 0, .int .i64 0, .int .i64 0, .slice none 0 0] [(0, _), (1, _)] [_, _, _, _, _] rfl Cr rfl rfl (by repeat (first | exact trivial | refine ⟨⟨rfl, rfl, rfl⟩, ?_⟩)) rfl) rfl rfl ?_
       refine U9 (DX [_, _, _, _, _] rfl underlying28 Cr rfl (by rfl) rfl rfl (by omega)) rfl rfl ?_
       refine Ko (fun g158 => ?_)
       refine Ba 2 hOa (RdL.one Fm (x := ⟨x.bk k, ⟨x.P, R, C, x.sme (x.re s) k r r⟩, xe⟩) (List.Mem.head _) rfl) rfl underlying28 Cr rfl (by omega) rfl rfl rfl (Kc ox) (by simp only [List.length_singleton]; omega) (by simp only [List.length_singleton]; omega) rfl rfl rfl (fun va2 ma2 hOa2 => ?_)
       have ova2 : va2.oneCell' = true := (hOa2.rd (h := h) (ms := [ma2]) (List.Mem.head _)).rd.one
       refine Qf BQ rfl ?_
       refine AK 5 _ rfl Tm rfl rfl (by assumption) rfl rfl (by (simp; done)) rfl rfl ?_
       refine Ak (Aj (Ab (Ad (Qx (oA rfl) rfl (Qm rfl (Ak (A5 (CF (ms' := [mB, mx, ma2, md, AX g9 30 [.int .i64 x.P, vo, va2]]) (K5 _ _ _ |>.trans (List.Perm.refl _) |> fun p => (p.append_right [md, AX g9 30 [.int .i64 x.P, vo, va2]])) (Ck fun hap => ?_)))))))))
       have hd12 : mB.disj mx := (List.pairwise_cons.1 hap).1 _ List.mem_cons_self
       refine Cq (A9 ?_)
       refine Al (Z.ars.length - (k + 1)) _ (by omega) ⟨k + 1, va2, ma2, mB.join mx, A ++ [⟨x.bk k, ⟨x.P, R, C, x.sme (x.re s) k r r⟩, xe⟩], rfl, rfl, Hp.le_trans lh l58, rfl, by omega, hOa2, ?_, hB.snoc hOx hd12⟩ Qs
       rw [List.map_append, hAc, hsc]
       rfl
   ·have hkz : k = Z.ars.length := by omega
    rw [hkz, List.take_of_length_le (by rw [x.score_len]; omega)] at hAc
    refine Aw (Aa (Aa (Af (Ab (Ax (A7 fun h5 l5 k5 => (A7 fun h6 l6 k6 => (A7 fun h7 l7 k7 => ?_))))))))
    have hRT : RdZ h7 vo va ⟨x.P, x.sdims, A⟩ := I8 hO k7 hOa (Hp.le_trans k5 (Hp.le_trans l6 l7)) hB (Hp.le_trans k6 l7)
    refine BD fun h8 l8 hS9 => ?_
    have l48 := Hp.le_trans l5 (Hp.le_trans l6 (Hp.le_trans l7 l8))
    have hRT := hRT.up l8
    generalize hT : (⟨x.P, x.sdims, A⟩ : Zz) = T at hRT
    have t1 : T.p = x.P := by rw [← hT]
    have t2 : T.dims = x.sdims := by rw [← hT]
    have t3 : T.ars.map Ar.core = x.score (x.re s) := by rw [← hT]; exact hAc
    have hRtT : T.Rt := x.srt s t1 t2 t3
    have hRZ := hRZ.up l48
    have hRW := hRW.up l48
    have hS7 := hS7.le l48
    have hS8 := hS8.le l48
    have o7 := hRZ.d.rd.one
    have o8 := hRZ.a.rd.one
    have o9 := hRW.d.rd.one
    have o10 := hRW.a.rd.one
    have o11 := hRT.d.rd.one
    have o12 := hRT.a.rd.one
    refine Gl (K := kP) (V := kI) (Ok := Mj) rfl rfl rfl rfl (fun gT mT0 OT0 => Qm rfl (Aq (Ac (Ac (AW (n := 7) (bs := [true, false, true, false, false, false, true]) [true, false, true, false, false, false, true] Cd (by kernel_rfl) (by kernel_rfl) rfl rfl (Qp rfl (oG rfl underlying30 Bz (Seg.any hS7)) (Qp rfl (oG rfl underlying30 Bz (Seg.any hS8)) (Qq rfl ?_))))))))
    unfold CD
    simp only [List.cons_append, List.nil_append]
    refine Qo 1 rfl (Qc call17 rfl (bars_at z1 vz vza _ hRtZ hRZ) (fun rb h12 ms12 l12 hF => ?_))
    obtain ⟨l12', bl, mb, rfl, hOb, hb1, hb2, hb3, hIB⟩ := hF
    refine AH hOb fun h13 l13 hRb => ?_
    have hRW := hRW.up (Hp.le_trans l12 l13)
    have ob := hRb.rd.one
    have hcurA := Hp.le_trans l12 l13
    refine Qa (Qo 3 rfl (Qc call17 rfl (bars_at w1 vw vwa _ hRtW hRW) (fun rc h14 ms14 l14 hF => ?_)))
    obtain ⟨l14', bl', mb', rfl, hOb', hb1', hb2', hb3', hIB'⟩ := hF
    refine AH hOb' fun h15 l15 hRc => ?_
    have l13_15 := Hp.le_trans l14 l15
    have hRb := hRb.up l13_15
    have hcur := Hp.le_trans l12 (Hp.le_trans l13 l13_15)
    have oc := hRc.rd.one
    refine Qa (Qo 4 rfl (AZ [(0, _), (1, _)] [.slice none 0 0, .slice none 0 0] [_, _] rfl underlying52 elOfBars rfl (by omega) (by kernel_rfl) ⟨⟨hRb.rd.cells, rfl, rfl⟩, ⟨hRc.rd.cells, rfl, rfl⟩, trivial⟩ rfl rfl rfl rfl (fun g167 => AH (OwnL.blk (g := g167) (el := 33) (F := cVv) (l := [rb, rc]) 2 cVv_len rfl (by omega)) fun h16 l16 hRL => ?_)))
    have hcurB := Hp.le_trans hcur l16
    refine Qa (An 5 168 (by kernel_rfl) rfl (by assumption) rfl (Ml (ty := 52) rfl underlying52 rfl) (Qe ?_))
    have hRb := hRb.up l16
    have hRc := hRc.up l16
    have hRT := hRT.up hcurB
    have hS9 := hS9.le hcurB
    refine Ab (Ag ?_)
    refine AD (fun q sl hh ms' => ∃ (k : Nat) (mT : Hp) (M : List ((Int × Int) × Int)) (bs : List Nat), q = [rb, rc].length - k ∧ sl = [(5, .bool true), (9, .pointer (some ⟨g9, 0, none⟩)), (17, .map (some gT)), (167, .slice (some ⟨g167, 0, none⟩) 2 2), (168, .int .i64 [rb, rc].length), (169, .int .i64 k)] ∧ h16.le hh ∧ ms' = [mT] ∧ k ≤ [rb, rc].length ∧ DI kP kI gT Mj mT M bs ∧ TM M (preL bl bl' k))
     ([rb, rc].length - 0) _ ⟨0, _, _, _, rfl, rfl, Hp.le_refl _, rfl, by omega, OT0, TM.nil⟩ Qs ?_
    rintro q sl hh ms' ⟨k, mT, M, bs, rfl, rfl, lq, rfl, hk, OT, hTM⟩
    have hRL := hRL.up lq
    refine Ax (Qm rfl (Aq (Ac ?_)))
    refine AF rfl (fun hlt8 => ?_) (fun hlt8 => ?_)
    ·have hk2 : k < [rb, rc].length := Bx hlt8
     have hk3 : k < 2 := hk2
     obtain ⟨u, l, hu, hRu, hpre, hl1, hl2, hl3, hl4⟩ := pick2 (hRb.up lq) (hRc.up lq) hb1 hb2 hb3 hb1' hb2' hb3' hk2
     have ou := hRu.rd.one
     have hcu : ∀ ms, Cell hh ms ((Bl (.slice (some ⟨g167, 0, none⟩) 2 2)).add (k * 1)) u := fun ms => by
      have := (hRL.any (ms := ms)).cell0 hk2 rfl
      rw [hu] at this; exact this
     refine Ai (Ab (Ac (Ag (Ax (Qx (Dz (k) rfl underlying52 elOfBars rfl rfl (by omega) (by omega)) rfl (Ql rfl underlying33 (hcu _) (Qm rfl (B3 (Qm rfl (Qx (AJ hRu.rd.any rfl underlying33 rfl) rfl (Qm rfl (Aq (Ag ?_)))))))))))))
     refine AD (fun q sl h17 ms' => ∃ (j : Nat) (mT : Hp) (M : List ((Int × Int) × Int)) (bs : List Nat), q = l.length - j ∧ sl = [(5, .bool true), (9, .pointer (some ⟨g9, 0, none⟩)), (17, .map (some gT)), (167, .slice (some ⟨g167, 0, none⟩) 2 2), (168, .int .i64 [rb, rc].length), (169, .int .i64 k), (173, u), (174, .int .i64 l.length), (175, .int .i64 j)] ∧ hh.le h17 ∧ ms' = [mT] ∧ j ≤ l.length ∧ DI kP kI gT Mj mT M bs ∧ TM M (preL bl bl' k ++ l.take j))
      (l.length - 0) _ ⟨0, mT, M, bs, rfl, rfl, Hp.le_refl _, rfl, by omega, OT, by rw [List.take_zero, List.append_nil]; exact hTM⟩ Qs ?_
     rintro q sl h17 ms' ⟨j, mT, M, bs, rfl, rfl, lj, rfl, hj, OT, hTM⟩
     have hRu := hRu.up lj
     refine Ax (Qm rfl (Aq (Ac ?_)))
     refine AF rfl (fun hlt10 => ?_) (fun hlt10 => ?_)
     ·have hjl : j < l.length := Bx hlt10
      have hseg : ∀ ms, Seg h17 ms ((Bl u).add (j * 3)) (GO l[j]) := fun ms => (hRu.any (ms := ms)).seg hjl
      have hpk := hl4 _ (List.getElem_mem hjl)
      have hyn := hl3 _ (List.mem_append_right _ (List.getElem_mem hjl))
      obtain ⟨v0, hv0⟩ : ∃ v0, (Dg M (l[j].fr, l[j].to)).getD 0 = v0 := ⟨_, rfl⟩
      have hvb : 0 ≤ v0 ∧ v0 ≤ 20400 * 40800 := by
       have h1 := sumA_bd (l[j].fr, l[j].to) (preL bl bl' k ++ l.take j) fun y hy => hl3 y (by
        rcases List.mem_append.1 hy with h | h
        ·exact List.mem_append_left _ h
        ·exact List.mem_append_right _ (List.mem_of_mem_take h))
       rw [← hTM.cnt, hv0, List.length_append, List.length_take] at h1
       omega
      have hst := hTM.step l[j] v0 hv0
      rw [List.append_assoc, ← List.take_succ_eq_append_getElem hjl] at hst
      have hv1 := L9 M (l[j].fr, l[j].to) v0
      refine Ai (Ab ?_)
      refine Bv (fun sl h19 ms' => ∃ (mT : Hp) (M : List ((Int × Int) × Int)) (bs : List Nat), sl = [(5, .bool true), (9, .pointer (some ⟨g9, 0, none⟩)), (17, .map (some gT)), (167, .slice (some ⟨g167, 0, none⟩) 2 2), (168, .int .i64 [rb, rc].length), (169, .int .i64 k), (173, u), (174, .int .i64 l.length), (175, .int .i64 j)] ∧ h17.le h19 ∧ ms' = [mT] ∧ DI kP kI gT Mj mT M bs ∧ TM M (preL bl bl' k ++ l.take (j + 1))) ?_ (fun s h ms hI => ?_)
      ·refine Ag (Ax (Qx (Ah (j) hRu.rd.any rfl underlying33 DV rfl rfl (by omega) (by omega)) rfl (Qx (oG rfl underlying37 DV (hseg _)) rfl (BZ [.int .i64 0, .int .i64 0, .int .i64 0] rfl DV rfl rfl (fun g21 => ?_)))))
       refine Sa 0 [_, _, _] DV rfl (by simp [Value.oneCell']) ?_
       refine Aq (AL fun h18 l18 hS21 => ?_)
       have hA21 := Seg.all hS21
       have hA210 := hA21 0 _ rfl
       refine AW (n := 13) (bs := [true, true, true, true, true, true, false, true, true, false, false, false, false]) [true, true, true, true, true, true, false, true, true] Cd (by kernel_rfl) (by kernel_rfl) rfl rfl (Qq rfl (QF MB rfl (QL rfl underlying3 (hA210 _) (QF MM rfl (QL rfl underlying3 (hA21 _ _ rfl _) ?_)))))
       refine Qp rfl (EO [.int .i64 0, .int .i64 0] [(0, [_]), (1, [_])] [_, _] rfl underlying53 Fx rfl A8 rfl (by repeat (first | exact trivial | refine ⟨⟨by rfl, rfl, rfl⟩, ?_⟩)) rfl) ?_
       refine QF M1 rfl (QL rfl underlying3 (hA21 _ _ rfl _) ?_)
       unfold CD
       simp only [List.cons_append, List.nil_append]
       refine A2 [6, 10] (by kernel_rfl) rfl ?_
       refine Az rfl ?_ ?_
       ·refine Qx (Gp (z := 0) (l[j].fr, l[j].to) v0 hv0 Ee OT (by simp) rfl underlying51 Hr rfl rfl hpk) rfl ?_
        refine Qw (An 9 188 (by kernel_rfl) rfl (Hp.le_refl _) rfl (oA rfl) (Qo 10 rfl (H2 (V := kI) (z := (0 : Int)) 0 (l[j].fr, l[j].to) Ee OT rfl rfl underlying51 Hr rfl rfl hpk rfl rfl rfl (fun m2 bs2 j2 b2 O2 hj2 hb2 => Qw ?_))))
        rw [hv0] at O2 hj2
        refine An 11 190 (by kernel_rfl) rfl (Hp.le_refl _) rfl (AC rfl rfl rfl) (Qo 12 rfl (Gi 0 (v0 + l[j].n) O2 hj2 hb2 rfl rfl rfl rfl rfl rfl rfl (fun m3 O3 => Qw (Qe ?_))))
        exact Aj (AA _ ⟨m3, _, bs2, rfl, l18, rfl, O3, hst⟩ Qs)
       refine Az rfl ?_ ?_
       ·refine H2 (V := kI) (z := (0 : Int)) 0 (l[j].fr, l[j].to) Ee OT rfl rfl underlying51 Hr rfl rfl hpk rfl rfl rfl (fun m2 bs2 j2 b2 O2 hj2 hb2 => Qw ?_)
        rw [hv0] at O2 hj2
        refine An 11 190 (by kernel_rfl) rfl (Hp.le_refl _) rfl (AC rfl rfl rfl) (Qo 6 rfl ?_)
        refine Qx (Gp (z := 0) (l[j].fr, l[j].to) v0 hv1 Ee O2 (by simp) rfl underlying51 Hr rfl rfl hpk) rfl ?_
        refine Qw (An 9 188 (by kernel_rfl) rfl (Hp.le_refl _) rfl (oA rfl) (Qo 12 rfl (Gi 0 (v0 + l[j].n) O2 hj2 hb2 rfl rfl rfl rfl rfl rfl rfl (fun m3 O3 => Qw (Qe ?_)))))
        exact Aj (AA _ ⟨m3, _, bs2, rfl, l18, rfl, O3, hst⟩ Qs)
       exact A3
      ·obtain ⟨mT, M, bs, rfl, l19, rfl, OT, hTM⟩ := hI
       refine Ad (Qx (oA rfl) rfl (Qm rfl (Ak ?_)))
       exact Al (l.length - (j + 1)) _ (by omega) ⟨j + 1, mT, M, bs, rfl, rfl, Hp.le_trans lj l19, rfl, by omega, OT, hTM⟩ Qs
     ·have hjl : j = l.length := by omega
      rw [hjl, List.take_length, ← hpre] at hTM
      refine Aw (Aa (Aa (Af (Aj (Ab (Ad (Qx (oA rfl) rfl (Qm rfl (Ak ?_)))))))))
      exact Al ([rb, rc].length - (k + 1)) _ (by omega) ⟨k + 1, mT, M, bs, rfl, rfl, Hp.le_trans lq lj, rfl, by omega, OT, hTM⟩ Qs
    ·have hk2 : k = 2 := by have : ¬ k < [rb, rc].length := fun h => hlt8 (by omega); have h2 : [rb, rc].length = 2 := rfl; omega
     subst hk2
     have hTM : TM M (bl ++ bl') := hTM
     have hRT := hRT.up lq
     have hS9 := hS9.le lq
     refine Aw (Aa (Aa (Af (Ab (Ax (Qx (oG rfl underlying30 Bz (Seg.any hS9)) rfl (Qc call17 rfl (bars_at t1 vo va _ hRtT hRT) (fun rd h20 ms20 l20 hF => ?_))))))))
     obtain ⟨l20', bs2, mb2, rfl, hOs, hs1, hs2, hs3, hIS⟩ := hF
     obtain ⟨hE1, hE2⟩ := x.sums s z1 z2 z3 w1 w2 w3 t1 t2 t3 OT.keys hIB hIB' hIS hTM
     refine AH hOs fun h21 l21 hRd => ?_
     have od := hRd.rd.one
     refine Qm rfl (Aq (Ac (Ax (Qm rfl (Qx (AJ hRd.rd.any rfl underlying33 rfl) rfl (Qm rfl (Aq (Ag ?_))))))))
     refine AD (fun q sl hh ms' => ∃ (k : Nat), q = bs2.length - k ∧ sl = [(5, .bool true), (17, .map (some gT)), (22, rd), (195, rd), (196, .int .i64 bs2.length), (197, .int .i64 k)] ∧ h21.le hh ∧ ms' = [mT] ∧ k ≤ bs2.length)
      (bs2.length - 0) _ ⟨0, rfl, rfl, Hp.le_refl _, rfl, by omega⟩ Qs ?_
     rintro q sl hh ms' ⟨k, rfl, rfl, lr, rfl, hk⟩
     have hRd := hRd.up lr
     refine Ax (Qm rfl (Aq (Ac ?_)))
     refine AF rfl (fun hlt12 => ?_) (fun hlt12 => ?_)
     ·have hkl : k < bs2.length := Bx hlt12
      have hyn := hs2 _ (List.getElem_mem hkl)
      have hpk := hs3 _ (List.getElem_mem hkl)
      have hmk := hE1 _ (List.getElem_mem hkl)
      have hseg : ∀ ms, Seg hh ms ((Bl rd).add (k * 3)) (GO bs2[k]) := fun ms => (hRd.any (ms := ms)).seg hkl
      refine Ai (Ab (Ac (Ag (Ax (Qx (Ah (k) hRd.rd.any rfl underlying33 DV rfl rfl (by omega) (by omega)) rfl (Qx (oG rfl underlying37 DV (hseg _)) rfl (BZ [.int .i64 0, .int .i64 0, .int .i64 0] rfl DV rfl rfl (fun g24 => ?_))))))))
      refine Sa 0 [_, _, _] DV rfl (by simp [Value.oneCell']) ?_
      refine Aq (AL fun h22 l22 hS24 => ?_)
      have hA24 := Seg.all hS24
      have hA240 := hA24 0 _ rfl
      refine Ac (AW (n := 10) (bs := [true, true, true, true, true, true, false, true, true, false]) [true, true, true, true, true, true, false, true, true] Cd (by kernel_rfl) (by kernel_rfl) rfl rfl (Qq rfl (QF MB rfl (QL rfl underlying3 (hA240 _) (QF MM rfl (QL rfl underlying3 (hA24 _ _ rfl _) ?_))))))
      refine Qp rfl (EO [.int .i64 0, .int .i64 0] [(0, [_]), (1, [_])] [_, _] rfl underlying53 Fx rfl A8 rfl (by repeat (first | exact trivial | refine ⟨⟨by rfl, rfl, rfl⟩, ?_⟩)) rfl) ?_
      refine QF M1 rfl (QL rfl underlying3 (hA24 _ _ rfl _) ?_)
      unfold CD
      simp only [List.cons_append, List.nil_append]
      refine Qo 6 rfl ?_
      refine Qx (Gp (z := 0) (bs2[k].fr, bs2[k].to) bs2[k].n hmk Ee OT (by simp) rfl underlying51 Hr rfl rfl hpk) rfl ?_
      refine Qw (An 9 210 (by kernel_rfl) rfl (Hp.le_refl _) rfl (B4 rfl rfl rfl) (Qe (Ab ?_)))
      refine AF rfl (fun hne => ?_) (fun hne => ?_)
      ·exact absurd rfl hne
      ·refine Ai (Aj (Ab (Ad (Qx (oA rfl) rfl (Qm rfl (Ak ?_))))))
       exact Al (bs2.length - (k + 1)) _ (by omega) ⟨k + 1, rfl, rfl, Hp.le_trans lr l22, rfl, by omega⟩ Qs
     ·refine Aw (Aa (Aa (Af (Ab (Ax (Qm rfl (Qm rfl (Qg (As rfl rfl) rfl (Qg (AJ hRd.rd.any rfl underlying33 rfl) rfl (Qg (As rfl rfl) rfl ?_))))))))))
      refine Qg (Go.Eng.SW OT (by simp) rfl underlying51 rfl) rfl ?_
      refine Qg (EJ rfl rfl rfl) rfl (Qm rfl (Qm rfl (Aq (Ao ?_))))
      have hlen : (bs2.length : Int) = (M.length : Int) := by rw [hE2]
      exact Am rfl rfl (by rw [decide_eq_true hlen])
end Go.Proofs.YtdnelknieikbaaaGreat
