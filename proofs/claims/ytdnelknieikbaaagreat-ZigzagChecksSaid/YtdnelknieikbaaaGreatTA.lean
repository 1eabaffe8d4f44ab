/- Parts of the proof: La Lf Lb Lc Ld Le Lg Lh Lj Lk Lm Ln Eng1. -/
import Derived.Sort.LotA
import Derived.Calls
import Derived.Laws.Sem
import Derived.Laws.World
import Derived.Laws.Rows
import Derived.Laws.AppendOwn
import Derived.Below
set_option linter.unusedSimpArgs false
set_option linter.unusedVariables false
namespace Go.Lin
variable {p a b c d : Int} {n : Nat} {f : Nat → Int}
def sm : Nat → (Nat → Int) → Int
  | 0, _ => 0
  | n + 1, f => sm n f + f n
theorem AE {g : Nat → Int} (h : ∀ i, i < n → f i = g i) : sm n f = sm n g := by
  induction n with
  | zero => rfl
  | succ n ih => unfold sm; rw [ih fun i hi => h i (by omega), h n (by omega)]
theorem CS (n : Nat) : sm n (fun _ => 0) = 0 := by
  induction n with
  | zero => rfl
  | succ n ih => unfold sm; rw [ih]; rfl
theorem FF (n : Nat) (f g : Nat → Int) : sm n (fun i => f i + g i) = sm n f + sm n g := by
  induction n with
  | zero => rfl
  | succ n ih =>
    show sm n (fun i => f i + g i) + (f n + g n) = sm n f + f n + (sm n g + g n)
    rw [ih]; omega
theorem Mm (n : Nat) (f g : Nat → Int) : sm n (fun i => f i - g i) = sm n f - sm n g := by
  induction n with
  | zero => rfl
  | succ n ih =>
    show sm n (fun i => f i - g i) + (f n - g n) = sm n f + f n - (sm n g + g n)
    rw [ih]; omega
theorem Cb (n : Nat) (c : Int) (f : Nat → Int) : sm n (fun i => c * f i) = c * sm n f := by
  induction n with
  | zero => simp [sm]
  | succ n ih => unfold sm; rw [ih, Int.mul_add]
theorem Iy (n : Nat) (c : Int) (f : Nat → Int) : sm n (fun i => f i * c) = sm n f * c := by
  rw [Int.mul_comm, ← Cb]; exact AE fun i _ => Int.mul_comm _ _
theorem D9 (m n : Nat) (f : Nat → Nat → Int) : sm m (fun i => sm n (f i)) = sm n (fun j => sm m (fun i => f i j)) := by
  induction m with
  | zero => simp [sm, CS]
  | succ m ih =>
    show sm m (fun i => sm n (f i)) + sm n (f m) = sm n (fun j => sm m (fun i => f i j) + f m j)
    rw [ih, FF]
theorem DZ (n : Nat) (k : Nat) (f : Nat → Int) (hk : k < n) (h : ∀ i, i < n → i ≠ k → f i = 0) : sm n f = f k := by
  induction n with
  | zero => omega
  | succ n ih =>
    unfold sm
    by_cases e : k = n
    · subst e
      have : sm k f = sm k fun _ => 0 := AE fun i hi => h i (by omega) (by omega)
      rw [this, CS]; omega
    · rw [ih (by omega) fun i hi hne => h i (by omega) hne, h n (by omega) (by omega)]; omega
theorem DP (n : Nat) (k : Nat) (f : Nat → Int) (hk : k < n) : sm n (fun i => if i = k then f i else 0) = f k := by
  rw [DZ n k _ hk fun i _ hne => by simp [hne]]; simp
theorem El (m n : Nat) (f : Nat → Int) : sm (m + n) f = sm m f + sm n (fun i => f (m + i)) := by
  induction n with
  | zero => simp [sm]
  | succ n ih =>
    show sm (m + n) f + f (m + n) = sm m f + (sm n (fun i => f (m + i)) + f (m + n))
    rw [ih]; omega
theorem CL (h : ∀ i, i < n → f i = 0) : sm n f = 0 := by
  rw [AE (g := fun _ => 0) h, CS]
def Cg (p a b : Int) : Prop := p ∣ a - b
theorem Cg.refl (p a : Int) : Cg p a a := by unfold Cg; rw [Int.sub_self]; exact Int.dvd_zero p
theorem Cg.of_eq (h : a = b) : Cg p a b := h ▸ Cg.refl p a
theorem Cg.symm (h : Cg p a b) : Cg p b a := by
  unfold Cg at *
  have := Int.dvd_neg.2 h
  rwa [Int.neg_sub] at this
theorem Cg.trans (h : Cg p a b) (h' : Cg p b c) : Cg p a c := by
  unfold Cg at *
  have := Int.dvd_add h h'
  rwa [show a - b + (b - c) = a - c by omega] at this
theorem Cg.add (h : Cg p a b) (h' : Cg p c d) : Cg p (a + c) (b + d) := by
  unfold Cg at *
  have := Int.dvd_add h h'
  rwa [show a - b + (c - d) = a + c - (b + d) by omega] at this
theorem Cg.sub (h : Cg p a b) (h' : Cg p c d) : Cg p (a - c) (b - d) := by
  unfold Cg at *
  have := Int.dvd_sub h h'
  rwa [show a - b - (c - d) = a - c - (b - d) by omega] at this
theorem Cg.mul (h : Cg p a b) (h' : Cg p c d) : Cg p (a * c) (b * d) := by
  unfold Cg at *
  have e : a * c - b * d = (a - b) * c + b * (c - d) := by rw [Int.sub_mul, Int.mul_sub]; omega
  rw [e]
  exact Int.dvd_add (Int.dvd_mul_of_dvd_left h) (Int.dvd_mul_of_dvd_right h')
theorem Cg.neg (h : Cg p a b) : Cg p (-a) (-b) := by
  have := (Cg.refl p 0).sub h
  simpa using this
theorem Cg.mod (p a : Int) : Cg p (a % p) a := by
  unfold Cg
  refine ⟨-(a / p), ?_⟩
  have := Int.emod_add_mul_ediv a p
  rw [Int.mul_neg]; omega
theorem Cg.self (p : Int) : Cg p p 0 := ⟨1, by omega⟩
theorem Cg.sm {g : Nat → Int} (h : ∀ i, i < n → Cg p (f i) (g i)) : Cg p (Lin.sm n f) (Lin.sm n g) := by
  induction n with
  | zero => exact Cg.refl _ _
  | succ n ih => exact (ih fun i hi => h i (by omega)).add (h n (by omega))
theorem Cg.iff_mod : Cg p a b ↔ a % p = b % p := by
  unfold Cg
  rw [Int.dvd_iff_emod_eq_zero, Int.emod_eq_emod_iff_emod_sub_eq_zero]
theorem Cg.eq (h : Cg p a b) (ha : 0 ≤ a ∧ a < p) (hb : 0 ≤ b ∧ b < p) : a = b := by
  have := Cg.iff_mod.1 h
  rwa [Int.emod_eq_of_lt ha.1 ha.2, Int.emod_eq_of_lt hb.1 hb.2] at this
end Go.Lin
namespace Go.Lin
variable {c r j i n : Nat} {f : Nat → Int}
def vec (n : Nat) (f : Nat → Int) : List Int := (List.range n).map f
def mat (r c : Nat) (f : Nat → Nat → Int) : List Int := (List.range (r * c)).map fun k => f (k / c) (k % c)
theorem AQ (n : Nat) (f : Nat → Int) : (vec n f).length = n := by simp [vec]
theorem AY (r c : Nat) (f : Nat → Nat → Int) : (mat r c f).length = r * c := by simp [mat]
theorem Cp (hi : i < r) (hj : j < c) : i * c + j < r * c := by
  have : (i + 1) * c ≤ r * c := Nat.mul_le_mul_right c hi
  rw [Nat.add_mul, Nat.one_mul] at this
  omega
theorem Hs (hj : j < c) : (i * c + j) / c = i := by
  rw [Nat.mul_comm, Nat.mul_add_div (by omega), Nat.div_eq_of_lt hj, Nat.add_zero]
theorem HE (hj : j < c) : (i * c + j) % c = j := by
  rw [Nat.mul_comm, Nat.mul_add_mod, Nat.mod_eq_of_lt hj]
theorem EE (hj : j < n) : (vec n f)[j]'(by rw [AQ]; exact hj) = f j := by simp [vec]
theorem EE? (hj : j < n) : (vec n f)[j]? = some (f j) := by simp [vec, hj]
theorem Tz {f : Nat → Nat → Int} (hi : i < r) (hj : j < c) : (mat r c f)[i * c + j]'(by rw [AY]; exact Cp hi hj) = f i j := by
  simp [mat, Hs hj, HE hj]
theorem BA {g : Nat → Int} (h : ∀ j, j < n → f j = g j) : vec n f = vec n g := by
  unfold vec
  exact List.map_congr_left fun k hk => h k (List.mem_range.1 hk)
theorem M9 {k : Nat} (h : k < r * c) : k / c < r ∧ k % c < c := by
  have hc : 0 < c := Nat.pos_of_ne_zero fun h0 => by subst h0; simp at h
  exact ⟨(Nat.div_lt_iff_lt_mul hc).2 h, Nat.mod_lt _ hc⟩
theorem AO {f g : Nat → Nat → Int} (h : ∀ i, i < r → ∀ j, j < c → f i j = g i j) : mat r c f = mat r c g := by
  unfold mat
  refine List.map_congr_left fun k hk => ?_
  have := M9 (List.mem_range.1 hk)
  exact h _ this.1 _ this.2
theorem mem_mat {f : Nat → Nat → Int} {x : Int} : x ∈ mat r c f ↔ ∃ i j, i < r ∧ j < c ∧ x = f i j := by
  unfold mat
  rw [List.mem_map]
  constructor
  · rintro ⟨k, hk, rfl⟩
    have := M9 (List.mem_range.1 hk)
    exact ⟨_, _, this.1, this.2, rfl⟩
  · rintro ⟨i, j, hi, hj, rfl⟩
    exact ⟨i * c + j, List.mem_range.2 (Cp hi hj), by rw [Hs hj, HE hj]⟩
theorem mem_vec {x : Int} : x ∈ vec n f ↔ ∃ j, j < n ∧ x = f j := by
  unfold vec
  rw [List.mem_map]
  exact ⟨fun ⟨k, hk, e⟩ => ⟨k, List.mem_range.1 hk, e.symm⟩, fun ⟨k, hk, e⟩ => ⟨k, List.mem_range.2 hk, e.symm⟩⟩
def VE (c : Nat) (l : List Int) (i j : Nat) : Int := l.getD (i * c + j) 0
theorem Ux {l : List Int} (h : l.length = r * c) : l = mat r c (VE c l) := by
  refine List.ext_getElem (by rw [AY, h]) fun k h1 h2 => ?_
  have hk : k < r * c := by omega
  have hd : k / c * c + k % c = k := by rw [Nat.mul_comm]; exact Nat.div_add_mod k c
  simp [mat, VE, hd, List.getElem?_eq_getElem h1]
theorem I2 (l : List Int) : l = vec l.length fun j => l.getD j 0 := by
  refine List.ext_getElem (by rw [AQ]) fun k h1 h2 => ?_
  simp [vec, List.getElem?_eq_getElem h1]
def DB (f : Nat → Nat → Int) (i j : Nat) (x : Int) : Nat → Nat → Int := fun a b => if a = i ∧ b = j then x else f a b
theorem C4 {f : Nat → Nat → Int} (x : Int) (hj : j < c) : (mat r c f).set (i * c + j) x = mat r c (DB f i j x) := by
  refine List.ext_getElem (by simp [AY]) fun k h1 h2 => ?_
  have hk : k < r * c := by rw [AY] at h2; exact h2
  have hd : k / c * c + k % c = k := by rw [Nat.mul_comm]; exact Nat.div_add_mod k c
  rw [List.getElem_set]
  by_cases he : i * c + j = k
  · subst he
    rw [if_pos rfl]
    simp [mat, DB, Hs hj, HE hj]
  · rw [if_neg he]
    have : ¬ (k / c = i ∧ k % c = j) := fun ⟨h3, h4⟩ => he (by rw [← h3, ← h4]; exact hd)
    simp [mat, DB, this]
theorem D6 (x : Int) : (vec n f).set j x = vec n fun k => if k = j then x else f k := by
  refine List.ext_getElem (by simp [AQ]) fun k h1 h2 => ?_
  rw [List.getElem_set]
  by_cases he : j = k
  · subst he; simp [vec]
  · rw [if_neg he]; simp [vec, Ne.symm he]
theorem Kv (r c : Nat) : List.replicate (r * c) (0 : Int) = mat r c fun _ _ => 0 := by
  unfold mat
  rw [List.map_const', List.length_range]
theorem G5 (n : Nat) : List.replicate n (0 : Int) = vec n fun _ => 0 := by
  unfold vec
  rw [List.map_const', List.length_range]
theorem Ti {f : Nat → Nat → Int} (hi : i < r) : ((mat r c f).drop (i * c)).take c = vec c (f i) := by
  have h0 : (i + 1) * c ≤ r * c := Nat.mul_le_mul_right c hi
  rw [Nat.add_mul, Nat.one_mul] at h0
  refine List.ext_getElem (by simp [AY, AQ]; omega) fun k h1 h2 => ?_
  rw [AQ] at h2
  have hi' : i * c + k < r * c := Cp hi h2
  simp [vec, mat, Hs h2, HE h2]
theorem Hh {f : Nat → Nat → Int} : mat r c f ++ vec c (f r) = mat (r + 1) c f := by
  have hl : r * c + c = (r + 1) * c := by rw [Nat.add_mul, Nat.one_mul]
  refine List.ext_getElem (by simp [AY, AQ, hl]) fun k h1 h2 => ?_
  rw [AY] at h2
  by_cases hk : k < r * c
  · rw [List.getElem_append_left (by rw [AY]; exact hk)]; simp [mat]
  · rw [List.getElem_append_right (by rw [AY]; omega)]
    obtain ⟨j, rfl⟩ : ∃ j, k = r * c + j := ⟨k - r * c, by omega⟩
    have hj : j < c := by omega
    simp [mat, vec, AY, Hs hj, HE hj]
theorem SI {c' : Nat} {g : Nat → Int} : vec c f ++ vec c' g = vec (c + c') fun j => if j < c then f j else g (j - c) := by
  refine List.ext_getElem (by simp [AQ]) fun k h1 h2 => ?_
  rw [AQ] at h2
  by_cases hk : k < c
  · rw [List.getElem_append_left (by rw [AQ]; exact hk)]; simp [vec, hk]
  · rw [List.getElem_append_right (by rw [AQ]; omega)]; simp [vec, AQ, hk]
end Go.Lin
namespace Go.Lin
variable {p a : Nat}
def Prm (p : Nat) : Prop := 2 ≤ p ∧ ∀ d, d ∣ p → d = 1 ∨ d = p
theorem Prm.coprime (hp : Prm p) (h : ¬ p ∣ a) : Nat.Coprime p a := by
  rcases hp.2 (Nat.gcd p a) (Nat.gcd_dvd_left p a) with h1 | h1
  · exact h1
  · exact absurd (h1 ▸ Nat.gcd_dvd_right p a) h
theorem Prm.mul {b : Nat} (hp : Prm p) (h : p ∣ a * b) : p ∣ a ∨ p ∣ b := by
  by_cases hb : p ∣ b
  · exact .inr hb
  · exact .inl ((hp.coprime hb).dvd_of_dvd_mul_right h)
theorem GZ (h2 : 2 ≤ p) (h : ∀ k, 2 ≤ k → k * k ≤ p → p % k ≠ 0) : Prm p := by
  refine ⟨h2, fun d hd => ?_⟩
  obtain ⟨e, he⟩ := hd
  have hd0 : d ≠ 0 := fun h0 => by subst h0; simp at he; omega
  have he0 : e ≠ 0 := fun h0 => by subst h0; simp at he; omega
  by_cases hd1 : d = 1
  · exact .inl hd1
  by_cases he1 : e = 1
  · subst he1; exact .inr (by omega)
  exfalso
  rcases Nat.le_total d e with hle | hle
  · refine h d (by omega) (by rw [he]; exact Nat.mul_le_mul_left d hle) (by rw [he]; exact Nat.mul_mod_right d e)
  · refine h e (by omega) (by rw [he]; exact Nat.mul_le_mul_right e hle) (by rw [he]; exact Nat.mul_mod_left d e)
def prod (l : List Nat) : Nat := l.foldr (· * ·) 1
theorem MJ {l : List Nat} (h : a ∈ l) : prod l = a * prod (l.erase a) := by
  induction l with
  | nil => simp at h
  | cons b l ih =>
    by_cases e : b = a
    · subst e; simp [prod]
    · rw [List.erase_cons_tail (by simpa using e)]
      have := ih ((List.mem_cons.1 h).resolve_left fun h => e h.symm)
      show b * prod l = a * (b * prod (l.erase a))
      rw [this, Nat.mul_left_comm]
theorem JL : ∀ (l l' : List Nat), l.Nodup → l'.Nodup → (∀ x ∈ l, x ∈ l') → l.length = l'.length → prod l = prod l'
  | [], l', _, _, _, hl => by
    have : l' = [] := List.eq_nil_of_length_eq_zero hl.symm
    rw [this]
  | a :: l, l', hn, hn', h, hl => by
    have h1 : a ∈ l' := h a (by simp)
    have h2 : ∀ x ∈ l, x ∈ l'.erase a := fun x hx => by
      have : x ≠ a := fun e => (List.nodup_cons.1 hn).1 (e ▸ hx)
      exact (List.mem_erase_of_ne this).2 (h x (by simp [hx]))
    have h3 := JL l (l'.erase a) (List.nodup_cons.1 hn).2 (hn'.erase a) h2 (by rw [List.length_erase_of_mem h1, ← hl]; simp)
    rw [MJ h1, ← h3]; rfl
theorem Ld (a p : Nat) : ∀ l : List Nat, prod (l.map fun x => a * x % p) % p = a ^ l.length * prod l % p
  | [] => by simp [prod]
  | x :: l => by
    have ih := Ld a p l
    show (a * x % p * prod (l.map fun x => a * x % p)) % p = a ^ (l.length + 1) * (x * prod l) % p
    rw [Nat.mul_mod, ih, Nat.mod_mod, ← Nat.mul_mod]
    congr 1
    rw [Nat.pow_succ]
    simp only [Nat.mul_assoc, Nat.mul_left_comm, Nat.mul_comm]
theorem Prm.prod (hp : Prm p) : ∀ l : List Nat, (∀ x ∈ l, ¬ p ∣ x) → ¬ p ∣ Lin.prod l
  | [], _, h => by
    have := Nat.le_of_dvd (by decide) (show p ∣ 1 from h)
    have := hp.1; omega
  | x :: l, hl, h => by
    rcases hp.mul (show p ∣ x * Lin.prod l from h) with h | h
    · exact hl x (by simp) h
    · exact Prm.prod hp l (fun y hy => hl y (by simp [hy])) h
theorem PU (hp : Prm p) (ha : ¬ p ∣ a) : a ^ (p - 1) % p = 1 := by
  have hp2 := hp.1
  have hr : ∀ x ∈ (List.range (p - 1)).map (· + 1), 1 ≤ x ∧ x < p := fun x hx => by
    obtain ⟨i, hi, rfl⟩ := List.mem_map.1 hx
    simp at hi; omega
  have hnd : ∀ x, 1 ≤ x → x < p → ¬ p ∣ x := fun x h1 h2 h => by have := Nat.le_of_dvd (by omega) h; omega
  have hn : ((List.range (p - 1)).map (· + 1)).Nodup := List.pairwise_map.2 (List.nodup_range.imp fun h e => h (by omega))
  have hinj : ∀ x y, 1 ≤ x → x < p → 1 ≤ y → y < p → a * x % p = a * y % p → x = y := by
    have go : ∀ x y, x ≤ y → 1 ≤ x → y < p → a * x % p = a * y % p → x = y := fun x y hxy h1 h2 h => by
      have h3 : p ∣ a * y - a * x := Nat.dvd_of_mod_eq_zero (Nat.sub_mod_eq_zero_of_mod_eq h.symm)
      rw [← Nat.mul_sub] at h3
      have h4 := (hp.mul h3).resolve_left ha
      rcases Nat.eq_zero_or_pos (y - x) with h5 | h5
      · omega
      · have := Nat.le_of_dvd h5 h4; omega
    intro x y h1 h2 h3 h4 h
    rcases Nat.le_total x y with h5 | h5
    · exact go x y h5 h1 h4 h
    · exact (go y x h5 h3 h2 h.symm).symm
  have hs := JL (((List.range (p - 1)).map (· + 1)).map fun x => a * x % p) ((List.range (p - 1)).map (· + 1))
    (List.pairwise_map.2 (hn.imp_of_mem fun {x y} hx hy hne e => hne (hinj x y (hr x hx).1 (hr x hx).2 (hr y hy).1 (hr y hy).2 e))) hn (fun y hy => by
      obtain ⟨x, hx, rfl⟩ := List.mem_map.1 hy
      have h1 : a * x % p < p := Nat.mod_lt _ (by omega)
      have h2 : a * x % p ≠ 0 := fun h0 => by
        rcases hp.mul (Nat.dvd_of_mod_eq_zero h0) with h | h
        · exact ha h
        · exact hnd x (hr x hx).1 (hr x hx).2 h
      exact List.mem_map.2 ⟨a * x % p - 1, by simp; omega, by omega⟩) (by simp)
  have hm := Ld a p ((List.range (p - 1)).map (· + 1))
  rw [hs, List.length_map, List.length_range] at hm
  have hP := Prm.prod hp ((List.range (p - 1)).map (· + 1)) fun x hx => hnd x (hr x hx).1 (hr x hx).2
  generalize Lin.prod ((List.range (p - 1)).map (· + 1)) = P at hm hP
  have hpos : 0 < a ^ (p - 1) := Nat.pow_pos (Nat.pos_of_ne_zero fun h => ha (h ▸ Nat.dvd_zero p))
  have h5 : p ∣ a ^ (p - 1) * P - P := Nat.dvd_of_mod_eq_zero (Nat.sub_mod_eq_zero_of_mod_eq hm.symm)
  have e : a ^ (p - 1) * P - P = (a ^ (p - 1) - 1) * P := by rw [Nat.sub_mul, Nat.one_mul]
  rw [e] at h5
  have h6 := (hp.mul h5).resolve_right hP
  obtain ⟨k, hk⟩ := h6
  have h7 : a ^ (p - 1) = p * k + 1 := by omega
  rw [h7, Nat.mul_add_mod, Nat.mod_eq_of_lt (by omega)]
structure Fld (p : Int) : Prop where
  two : 2 ≤ p
  inv : ∀ a, ¬ p ∣ a → ∃ b, Cg p (a * b) 1
  mul : ∀ a b, p ∣ a * b → p ∣ a ∨ p ∣ b
theorem Prm.fld (hp : Prm p) : Fld p := by
  have hp2 := hp.1
  have hpp : (0 : Int) < p := by omega
  have key : ∀ a : Int, (p : Int) ∣ a ↔ p ∣ (a % p).toNat := fun a => by
    have h1 := Int.emod_nonneg a (show (p : Int) ≠ 0 by omega)
    rw [Int.dvd_iff_emod_eq_zero]
    constructor
    · intro h; rw [h]; exact Nat.dvd_zero p
    · intro h
      have h2 := Int.emod_lt_of_pos a hpp
      rcases Nat.eq_zero_or_pos (a % p).toNat with h3 | h3
      · omega
      · have := Nat.le_of_dvd h3 h; omega
  refine ⟨by omega, fun a ha => ?_, fun a b h => ?_⟩
  · have ha' : ¬ p ∣ (a % p).toNat := fun h => ha ((key a).2 h)
    have hf := PU hp ha'
    have h1 := Int.emod_nonneg a (show (p : Int) ≠ 0 by omega)
    refine ⟨(((a % p).toNat ^ (p - 2) : Nat) : Int), ?_⟩
    have e1 : Cg p (a * (((a % p).toNat ^ (p - 2) : Nat) : Int)) ((((a % p).toNat : Nat) : Int) * (((a % p).toNat ^ (p - 2) : Nat) : Int)) := by
      refine Cg.mul ?_ (Cg.refl _ _)
      rw [Int.toNat_of_nonneg h1]; exact (Cg.mod p a).symm
    refine e1.trans ?_
    rw [← Int.natCast_mul, Nat.mul_comm, ← Nat.pow_succ, show (p - 2).succ = p - 1 by omega]
    refine Cg.iff_mod.2 ?_
    have := congrArg (fun n : Nat => (n : Int)) hf
    simp only [Int.natCast_emod] at this
    rw [this, Int.emod_eq_of_lt (by omega) (by omega)]; rfl
  · have h1 := Int.emod_nonneg a (show (p : Int) ≠ 0 by omega)
    have h2 := Int.emod_nonneg b (show (p : Int) ≠ 0 by omega)
    have h3 : p ∣ (a % p).toNat * (b % p).toNat := by
      have : ((p : Int)) ∣ (a % p) * (b % p) := by
        have h4 := ((Cg.mod p a).mul (Cg.mod p b))
        have h5 : Cg p (a * b) 0 := by unfold Cg; rw [Int.sub_zero]; exact h
        have := h4.trans h5
        unfold Cg at this; rwa [Int.sub_zero] at this
      rw [← Int.toNat_of_nonneg h1, ← Int.toNat_of_nonneg h2, ← Int.natCast_mul] at this
      exact Int.natCast_dvd_natCast.1 this
    rcases hp.mul h3 with h | h
    · exact .inl ((key a).2 h)
    · exact .inr ((key b).2 h)
end Go.Lin
namespace Go.Lin
def skip (j0 j : Nat) : Nat := if j < j0 then j else j + 1
theorem ND (m j0 : Nat) (f : Nat → Int) (h : j0 < m + 1) : sm (m + 1) f = sm m (fun j => f (skip j0 j)) + f j0 := by
  induction m with
  | zero => have : j0 = 0 := by omega
            subst this; simp [sm]
  | succ m ih =>
    by_cases e : j0 = m + 1
    · subst e
      show sm (m + 1) f + f (m + 1) = _
      congr 1
      exact AE fun i hi => by unfold skip; rw [if_pos hi]
    · show sm (m + 1) f + f (m + 1) = sm m (fun j => f (skip j0 j)) + f (skip j0 m) + f j0
      rw [ih (by omega)]
      have : skip j0 m = m + 1 := by unfold skip; rw [if_neg (by omega)]
      rw [this]; omega
theorem Ta {j0 j m : Nat} (h : j < m) : skip j0 j < m + 1 := by unfold skip; split <;> omega
theorem IK {p : Int} (F : Fld p) : ∀ (k m : Nat) (A : Nat → Nat → Int), k < m → ∃ c : Nat → Int, (∃ j, j < m ∧ ¬ p ∣ c j) ∧ ∀ i, i < k → Cg p (sm m fun j => A i j * c j) 0 := by
  intro k
  induction k with
  | zero =>
    intro m A hm
    refine ⟨fun _ => 1, ⟨0, hm, fun h => ?_⟩, fun i hi => by omega⟩
    have h : p ∣ 1 := h
    have := Int.le_of_dvd (by decide) h
    have := F.two; omega
  | succ k ih =>
    intro m A hm
    obtain ⟨m, rfl⟩ : ∃ m', m = m' + 1 := ⟨m - 1, by omega⟩
    by_cases hz : ∀ j, j < m + 1 → p ∣ A k j
    · obtain ⟨c, h1, h2⟩ := ih (m + 1) A (by omega)
      refine ⟨c, h1, fun i hi => ?_⟩
      by_cases e : i = k
      · subst e
        have : Cg p (sm (m + 1) fun j => A i j * c j) (sm (m + 1) fun _ => 0) := Cg.sm fun j hj => by
          have h3 : Cg p (A i j) 0 := by unfold Cg; rw [Int.sub_zero]; exact hz j hj
          have := h3.mul (Cg.refl p (c j))
          rwa [Int.zero_mul] at this
        rwa [CS] at this
      · exact h2 i (by omega)
    · obtain ⟨j0, hj0⟩ := Classical.not_forall.1 hz
      obtain ⟨hj, hnd⟩ := Classical.not_imp.1 hj0
      obtain ⟨b, hb⟩ := F.inv _ hnd
      obtain ⟨c, ⟨j1, hj1, hc1⟩, h2⟩ := ih m (fun i j => A i (skip j0 j) - A i j0 * b * A k (skip j0 j)) (by omega)
      -- the unknown that is left out
      obtain ⟨t, ht⟩ : ∃ t, t = sm m fun j => A k (skip j0 j) * c j := ⟨_, rfl⟩
      let c' : Nat → Int := fun i => if i < j0 then c i else if i = j0 then -(b * t) else c (i - 1)
      have hc' : ∀ j, c' (skip j0 j) = c j := fun j => by
        show (if skip j0 j < j0 then c (skip j0 j) else if skip j0 j = j0 then -(b * t) else c (skip j0 j - 1)) = c j
        unfold skip
        by_cases h : j < j0
        · simp [h]
        · simp only [h, if_false]
          rw [if_neg (by omega), if_neg (by omega)]; congr 1
      have hc0 : c' j0 = -(b * t) := by
        show (if j0 < j0 then c j0 else if j0 = j0 then -(b * t) else c (j0 - 1)) = _
        rw [if_neg (by omega), if_pos rfl]
      refine ⟨c', ⟨skip j0 j1, Ta hj1, by rw [hc']; exact hc1⟩, fun i hi => ?_⟩
      rw [ND m j0 _ hj, hc0]
      have e1 : sm m (fun j => A i (skip j0 j) * c' (skip j0 j)) = sm m fun j => A i (skip j0 j) * c j := AE fun j _ => by rw [hc']
      rw [e1]
      by_cases e : i = k
      · subst e
        -- t - A b t
        rw [← ht]
        have h3 : Cg p (A i j0 * (-(b * t))) (-t) := by
          have := (hb.mul (Cg.refl p t)).neg
          rw [Int.one_mul] at this
          have e2 : A i j0 * -(b * t) = -(A i j0 * b * t) := by rw [Int.mul_neg, Int.mul_assoc]
          rw [e2]; exact this
        have := (Cg.refl p t).add h3
        rw [show t + -t = 0 by omega] at this
        exact this
      · have h3 := h2 i (by omega)
        have e2 : (sm m fun j => (A i (skip j0 j) - A i j0 * b * A k (skip j0 j)) * c j) = (sm m fun j => A i (skip j0 j) * c j) + A i j0 * -(b * t) := by
          rw [AE (g := fun j => A i (skip j0 j) * c j - A i j0 * b * (A k (skip j0 j) * c j)) fun j _ => by rw [Int.sub_mul, Int.mul_assoc (A i j0 * b)], Mm, Cb, ← ht, Int.mul_neg, Int.mul_assoc]
          omega
        rw [e2] at h3; exact h3
end Go.Lin
namespace Go.Lin
variable {n : Nat} {b : Nat → Bool} {p : Int}
def Df (n : Nat) (b : Nat → Bool) : List Nat := (List.range n).filter b
def cnt (n : Nat) (b : Nat → Bool) : Nat := (Df n b).length
theorem EN (n : Nat) (b : Nat → Bool) : (Df n b).Nodup := List.Pairwise.filter _ List.nodup_range
theorem mem_sel {l : Nat} : l ∈ Df n b ↔ l < n ∧ b l = true := by simp [Df]
theorem Ls {l : List Nat} (hn : l.Nodup) {i j : Nat} {a : Nat} (h1 : l[i]? = some a) (h2 : l[j]? = some a) : i = j := by
  obtain ⟨i1, i2⟩ := List.getElem?_eq_some_iff.1 h1
  obtain ⟨j1, j2⟩ := List.getElem?_eq_some_iff.1 h2
  have hp := List.pairwise_iff_getElem.1 hn
  rcases Nat.lt_trichotomy i j with h | h | h
  · exact absurd (i2.trans j2.symm) (hp i j i1 j1 h)
  · exact h
  · exact absurd (j2.trans i2.symm) (hp j i j1 i1 h)
theorem EP (n : Nat) (b : Nat → Bool) : Df (n + 1) b = Df n b ++ if b n then [n] else [] := by
  unfold Df
  rw [List.range_succ, List.filter_append]
  congr 1
  cases h : b n <;> simp [h]
theorem BO (n : Nat) (b : Nat → Bool) : cnt (n + 1) b = cnt n b + if b n then 1 else 0 := by
  unfold cnt
  rw [EP, List.length_append]
  cases b n <;> simp
theorem KC (n : Nat) (b : Nat → Bool) (f : Nat → Int) : sm n (fun l => if b l then f l else 0) = sm (cnt n b) fun t => f ((Df n b).getD t 0) := by
  induction n with
  | zero => rfl
  | succ n ih =>
    show sm n (fun l => if b l then f l else 0) + (if b n then f n else 0) = _
    rw [ih, BO]
    cases h : b n with
    | false =>
      simp only [Bool.false_eq_true, if_false, Nat.add_zero, Int.add_zero]
      exact AE fun t ht => by rw [EP, h]; simp
    | true =>
      simp only [if_true]
      show _ = sm (cnt n b) (fun t => f ((Df (n + 1) b).getD t 0)) + f ((Df (n + 1) b).getD (cnt n b) 0)
      have e1 : (Df (n + 1) b).getD (cnt n b) 0 = n := by rw [EP, h]; simp [cnt, List.getD]
      rw [e1]
      congr 1
      exact AE fun t ht => by
        have : t < (Df n b).length := ht
        rw [EP, h]; simp [List.getD, List.getElem?_append_left this]
theorem CC {b' : Nat → Bool} (h : ∀ l, l < n → b l = b' l) : cnt n b = cnt n b' := by
  unfold cnt Df
  congr 1
  exact List.filter_congr fun l hl => h l (by simpa using hl)
theorem GY (F : Fld p) (k n : Nat) (b : Nat → Bool) (A : Nat → Nat → Int) (h : k < cnt n b) : ∃ c : Nat → Int, (∃ l, l < n ∧ b l = true ∧ ¬ p ∣ c l) ∧ ∀ i, i < k → Cg p (sm n fun l => if b l then A i l * c l else 0) 0 := by
  obtain ⟨c, ⟨t, ht, hc⟩, h2⟩ := IK F k (cnt n b) (fun i t => A i ((Df n b).getD t 0)) h
  have hat : ∀ t, t < cnt n b → (Df n b).idxOf ((Df n b).getD t 0) = t := fun t ht => by
    have ht' : t < (Df n b).length := ht
    have e : (Df n b).getD t 0 = (Df n b)[t] := by simp [List.getD, ht']
    rw [e]
    have hm : (Df n b)[t] ∈ Df n b := List.getElem_mem ht'
    have hlt := List.idxOf_lt_length_of_mem hm
    refine Ls (EN n b) (a := (Df n b)[t]) ?_ (List.getElem?_eq_getElem ht')
    rw [List.getElem?_eq_getElem hlt, List.getElem_idxOf]
  refine ⟨fun l => c ((Df n b).idxOf l), ⟨(Df n b).getD t 0, ?_, ?_, by show ¬ p ∣ c _; rw [hat t ht]; exact hc⟩, fun i hi => ?_⟩
  · have ht' : t < (Df n b).length := ht
    have : (Df n b).getD t 0 ∈ Df n b := by simp [List.getD, ht']
    exact (mem_sel.1 this).1
  · have ht' : t < (Df n b).length := ht
    have : (Df n b).getD t 0 ∈ Df n b := by simp [List.getD, ht']
    exact (mem_sel.1 this).2
  · rw [KC n b fun l => A i l * c ((Df n b).idxOf l)]
    have := h2 i hi
    rwa [AE (g := fun t => A i ((Df n b).getD t 0) * c ((Df n b).idxOf ((Df n b).getD t 0))) fun t ht => by rw [hat t ht]] at this
def Bj (n : Nat) (b : Nat → Bool) (c : Nat → Int) (v : Nat → Nat → Int) (i : Nat) : Int := sm n fun l => if b l then c l * v l i else 0
def Ind (p : Int) (n : Nat) (b : Nat → Bool) (d : Nat) (v : Nat → Nat → Int) : Prop := ∀ c : Nat → Int, (∀ i, i < d → Cg p (Bj n b c v i) 0) → ∀ l, l < n → b l = true → p ∣ c l
def Spn (p : Int) (n : Nat) (b : Nat → Bool) (d : Nat) (v : Nat → Nat → Int) (x : Nat → Int) : Prop := ∃ c : Nat → Int, ∀ i, i < d → Cg p (x i) (Bj n b c v i)
theorem CA (F : Fld p) {n' d : Nat} {b' : Nat → Bool} {v v' : Nat → Nat → Int} (hI : Ind p n b d v) (hS : ∀ l, l < n → b l = true → Spn p n' b' d v' (v l)) : cnt n b ≤ cnt n' b' := by
  refine Nat.le_of_not_lt fun hlt => ?_
  have hex : ∀ l, ∃ a : Nat → Int, l < n → b l = true → ∀ i, i < d → Cg p (v l i) (Bj n' b' a v' i) := fun l => by
    by_cases h : l < n ∧ b l = true
    · obtain ⟨a, ha⟩ := hS l h.1 h.2
      exact ⟨a, fun _ _ => ha⟩
    · exact ⟨fun _ => 0, fun h1 h2 => absurd ⟨h1, h2⟩ h⟩
  obtain ⟨a, ha⟩ := Classical.axiomOfChoice hex
  obtain ⟨c, ⟨l, hl, hb, hc⟩, h2⟩ := GY F (cnt n' b') n b (fun e l => a l ((Df n' b').getD e 0)) hlt
  refine hc (hI c (fun i hi => ?_) l hl hb)
  -- the sum by the second family
  have e1 : Cg p (Bj n b c v i) (sm n fun l => if b l then sm n' (fun l' => if b' l' then c l * (a l l' * v' l' i) else 0) else 0) := by
    refine Cg.sm fun l hl => ?_
    cases hbl : b l with
    | false => exact Cg.refl _ _
    | true =>
      simp only [if_true]
      have := (Cg.refl p (c l)).mul (ha l hl hbl i hi)
      refine this.trans (Cg.of_eq ?_)
      unfold Bj
      rw [← Cb]
      exact AE fun l' _ => by cases b' l' <;> simp
  have e2 : (sm n fun l => if b l then sm n' (fun l' => if b' l' then c l * (a l l' * v' l' i) else 0) else 0) = sm n' fun l' => if b' l' then (sm n fun l => if b l then a l l' * c l else 0) * v' l' i else 0 := by
    rw [AE (g := fun l => sm n' fun l' => if b l then (if b' l' then c l * (a l l' * v' l' i) else 0) else 0) fun l _ => by
      cases b l
      · simp [CS]
      · simp, D9]
    refine AE fun l' _ => ?_
    cases b' l' with
    | false => simp only [Bool.false_eq_true, if_false]; exact CL fun l _ => by cases b l <;> rfl
    | true =>
      simp only [if_true]
      rw [← Iy]
      refine AE fun l _ => ?_
      cases b l
      · simp
      · simp only [if_true]; rw [← Int.mul_assoc, Int.mul_comm (c l)]
  rw [e2] at e1
  refine e1.trans ?_
  have : Cg p (sm n' fun l' => if b' l' then (sm n fun l => if b l then a l l' * c l else 0) * v' l' i else 0) (sm n' fun _ => 0) := Cg.sm fun l' hl' => by
    cases hb' : b' l' with
    | false => exact Cg.refl _ _
    | true =>
      simp only [if_true]
      obtain ⟨e, he, hee⟩ := List.getElem_of_mem (mem_sel.2 ⟨hl', hb'⟩)
      have h3 := h2 e he
      have e3 : (Df n' b').getD e 0 = l' := by simp [List.getD, he, hee]
      simp only [e3] at h3
      have := h3.mul (Cg.refl p (v' l' i))
      rwa [Int.zero_mul] at this
  rwa [CS] at this
theorem Uo (F : Fld p) {d : Nat} {v : Nat → Nat → Int} (hI : Ind p n b d v) (hc : cnt n b = d) (x : Nat → Int) : Spn p n b d v x := by
  -- the family with x
  let b1 : Nat → Bool := fun l => if l = n then true else b l
  let v1 : Nat → Nat → Int := fun l => if l = n then x else v l
  have hcnt : cnt (n + 1) b1 = d + 1 := by
    rw [BO, CC (b' := b) fun l hl => by simp only [b1]; rw [if_neg (by omega)], hc]
    simp [b1]
  obtain ⟨c, ⟨l, hl, hb, hnc⟩, h2⟩ := GY F d (n + 1) b1 (fun i l => v1 l i) (by omega)
  have key : ∀ i, i < d → Cg p (Bj n b c v i + c n * x i) 0 := fun i hi => by
    have h3 := h2 i hi
    have e : (sm (n + 1) fun l => if b1 l then v1 l i * c l else 0) = Bj n b c v i + c n * x i := by
      show sm n _ + _ = _
      congr 1
      · refine AE fun l hl => ?_
        have h1 : b1 l = b l := by simp only [b1]; rw [if_neg (by omega)]
        have h2 : v1 l = v l := by simp only [v1]; rw [if_neg (by omega)]
        rw [h1, h2, Int.mul_comm]
      · simp [b1, v1, Int.mul_comm]
    rw [e] at h3; exact h3
  by_cases hn : p ∣ c n
  · -- then the family itself would be dependent
    exfalso
    have h4 := hI c fun i hi => by
      have h5 := key i hi
      have h6 : Cg p (c n * x i) 0 := by
        unfold Cg; rw [Int.sub_zero]; exact Int.dvd_mul_of_dvd_left hn
      have := h5.sub h6
      rwa [Int.add_sub_cancel, Int.sub_zero] at this
    by_cases e : l = n
    · subst e; exact hnc hn
    · have : b1 l = b l := by simp only [b1]; rw [if_neg e]
      exact hnc (h4 l (by omega) (this ▸ hb))
  · obtain ⟨u, hu⟩ := F.inv _ hn
    refine ⟨fun l => -(u * c l), fun i hi => ?_⟩
    have h5 := key i hi
    have h6 : Cg p (u * (Bj n b c v i + c n * x i)) 0 := by
      have := (Cg.refl p u).mul h5
      rwa [Int.mul_zero] at this
    have h7 : Cg p (u * (c n * x i)) (x i) := by
      have := hu.mul (Cg.refl p (x i))
      rwa [Int.one_mul, Int.mul_comm (c n), Int.mul_assoc] at this
    have h8 : Bj n b (fun l => -(u * c l)) v i = -(u * Bj n b c v i) := by
      unfold Bj
      rw [← Int.neg_mul, ← Cb]
      exact AE fun l _ => by
        cases b l
        · simp
        · simp only [if_true]; rw [Int.neg_mul, Int.mul_assoc, Int.neg_mul]
    rw [h8]
    rw [Int.mul_add] at h6
    have h9 := h6.sub h7
    -- u Bj + u c x - u c x ≡ - x
    have e : u * Bj n b c v i + u * (c n * x i) - u * (c n * x i) = u * Bj n b c v i := by omega
    have h10 : Cg p (u * Bj n b c v i) (0 - x i) := by
      have := h6.sub h7
      rwa [e] at this
    have := h10.neg
    rw [show -(0 - x i) = x i by omega] at this
    exact this.symm
end Go.Lin
namespace Go.Lin
variable {a b l n : Nat} {p : Int} {y : Nat → Int} {v : Nat → Nat → Int}
structure Zg where
  p : Int
  n : Nat
  d : Nat → Nat
  back : Nat → Bool
  mat : Nat → Nat → Nat → Int
def ap (A : Nat → Nat → Int) (cols : Nat) (v : Nat → Int) (i : Nat) : Int := sm cols fun j => A i j * v j
def Zg.src (Z : Zg) (k : Nat) : Nat := if Z.back k then k + 1 else k
def Zg.tgt (Z : Zg) (k : Nat) : Nat := if Z.back k then k else k + 1
structure Dc where
  N : Nat
  fr : Nat → Nat
  to : Nat → Nat
  vec : Nat → Nat → Nat → Int
def Dc.on (D : Dc) (k : Nat) (l : Nat) : Bool := decide (D.fr l ≤ k) && decide (k ≤ D.to l)
theorem Dc.on_iff {D : Dc} {k : Nat} : D.on k l = true ↔ D.fr l ≤ k ∧ k ≤ D.to l := by simp [Dc.on]
structure Valid (Z : Zg) (D : Dc) : Prop where
  ends : ∀ l, l < D.N → D.fr l ≤ D.to l ∧ D.to l < Z.n
  ind : ∀ k, k < Z.n → Ind Z.p D.N (D.on k) (Z.d k) fun l => D.vec l k
  cnt : ∀ k, k < Z.n → Lin.cnt D.N (D.on k) = Z.d k
  arr : ∀ k, k + 1 < Z.n → ∀ l, l < D.N → D.on (Z.src k) l = true → ∀ i, i < Z.d (Z.tgt k) → Cg Z.p (ap (Z.mat k) (Z.d (Z.src k)) (D.vec l (Z.src k)) i) (if D.on (Z.tgt k) l then D.vec l (Z.tgt k) i else 0)
theorem EC {A : Nat → Nat → Int} {cols : Nat} {v w : Nat → Int} (h : ∀ j, j < cols → Cg p (v j) (w j)) (i : Nat) : Cg p (ap A cols v i) (ap A cols w i) :=
  Cg.sm fun j hj => (Cg.refl p _).mul (h j hj)
theorem FY (A : Nat → Nat → Int) (cols n : Nat) (b : Nat → Bool) (c : Nat → Int) (v : Nat → Nat → Int) (i : Nat) : ap A cols (Bj n b c v) i = sm n fun l => if b l then c l * ap A cols (v l) i else 0 := by
  unfold ap Bj
  rw [AE (g := fun j => sm n fun l => A i j * (if b l then c l * v l j else 0)) fun j _ => (Cb _ _ _).symm, D9]
  refine AE fun l _ => ?_
  cases b l with
  | false => simp [CS]
  | true =>
    simp only [if_true]
    rw [← Cb]
    exact AE fun j _ => by rw [← Int.mul_assoc, Int.mul_comm (A i j), Int.mul_assoc]
theorem J8 (A : Nat → Nat → Int) (cols i : Nat) : ap A cols (fun _ => 0) i = 0 := CL fun j _ => Int.mul_zero _
theorem QR (n : Nat) (b : Nat → Bool) (c c' : Nat → Int) (v : Nat → Nat → Int) (i : Nat) : Bj n b (fun l => c l - c' l) v i = Bj n b c v i - Bj n b c' v i := by
  unfold Bj
  rw [← Mm]
  exact AE fun l _ => by cases b l <;> simp [Int.sub_mul]
def SR (Z : Zg) (a b : Nat) (x : Nat → Nat → Int) : Prop := ∀ k, a ≤ k → k < b → ∀ i, i < Z.d (Z.tgt k) → Cg Z.p (ap (Z.mat k) (Z.d (Z.src k)) (x (Z.src k)) i) (x (Z.tgt k) i)
def Im (Z : Zg) (a b : Nat) (y : Nat → Int) : Prop := ∃ x, SR Z a b x ∧ ∀ i, i < Z.d b → Cg Z.p (x b i) (y i)
def Wd (Z : Zg) (a b : Nat) (y : Nat → Int) : Prop := ∃ x, SR Z a b x ∧ (∀ i, i < Z.d a → Cg Z.p (x a i) 0) ∧ ∀ i, i < Z.d b → Cg Z.p (x b i) (y i)
section
variable {Z : Zg} {D : Dc}
theorem Zg.src_tgt (Z : Zg) (k : Nat) : (Z.src k = k ∧ Z.tgt k = k + 1 ∧ Z.back k = false) ∨ (Z.src k = k + 1 ∧ Z.tgt k = k ∧ Z.back k = true) := by
  unfold Zg.src Zg.tgt
  cases Z.back k
  · exact .inl ⟨rfl, rfl, rfl⟩
  · exact .inr ⟨rfl, rfl, rfl⟩
theorem G9 (V : Valid Z D) (hb : b < Z.n) {x : Nat → Nat → Int} (T : SR Z a b x) {C : Nat → Nat → Int} (hC : ∀ k, a ≤ k → k ≤ b → ∀ i, i < Z.d k → Cg Z.p (x k i) (Bj D.N (D.on k) (C k) (fun l => D.vec l k) i)) {k : Nat} (hak : a ≤ k) (hkb : k < b) (hl : l < D.N) (hon : D.on (Z.tgt k) l = true) :
    Cg Z.p (C (Z.tgt k) l) (if D.on (Z.src k) l then C (Z.src k) l else 0) := by
  have hs : a ≤ Z.src k ∧ Z.src k ≤ b := by rcases Z.src_tgt k with ⟨e, _, _⟩ | ⟨e, _, _⟩ <;> omega
  have ht : a ≤ Z.tgt k ∧ Z.tgt k ≤ b := by rcases Z.src_tgt k with ⟨_, e, _⟩ | ⟨_, e, _⟩ <;> omega
  have h := V.ind (Z.tgt k) (by omega) (fun l => C (Z.tgt k) l - if D.on (Z.src k) l then C (Z.src k) l else 0) (fun i hi => ?_) l hl hon
  · exact h
  · rw [QR]
    have h1 := hC (Z.tgt k) ht.1 ht.2 i hi
    have h2 := T k hak hkb i hi
    have h3 := EC (A := Z.mat k) (hC (Z.src k) hs.1 hs.2) i
    rw [FY] at h3
    have h4 : Cg Z.p (sm D.N fun l => if D.on (Z.src k) l then C (Z.src k) l * ap (Z.mat k) (Z.d (Z.src k)) (D.vec l (Z.src k)) i else 0) (Bj D.N (D.on (Z.tgt k)) (fun l => if D.on (Z.src k) l then C (Z.src k) l else 0) (fun l => D.vec l (Z.tgt k)) i) := by
      refine Cg.sm fun l hl => ?_
      cases hsl : D.on (Z.src k) l with
      | false => cases D.on (Z.tgt k) l <;> simp [Cg.refl, hsl]
      | true =>
        have h5 := (Cg.refl Z.p (C (Z.src k) l)).mul (V.arr k (by omega) l hl hsl i hi)
        cases htl : D.on (Z.tgt k) l with
        | false => rw [htl] at h5; simpa using h5
        | true => rw [htl] at h5; simpa [hsl] using h5
    -- x tgt ≡ both
    have h6 := h1.symm.trans (h2.symm.trans (h3.trans h4))
    have := h6.sub (Cg.refl Z.p (Bj D.N (D.on (Z.tgt k)) (fun l => if D.on (Z.src k) l then C (Z.src k) l else 0) (fun l => D.vec l (Z.tgt k)) i))
    rwa [Int.sub_self] at this
theorem GL (V : Valid Z D) (hb : b < Z.n) {x : Nat → Nat → Int} (T : SR Z a b x) {C : Nat → Nat → Int} (hC : ∀ k, a ≤ k → k ≤ b → ∀ i, i < Z.d k → Cg Z.p (x k i) (Bj D.N (D.on k) (C k) (fun l => D.vec l k) i)) (hl : l < D.N) {m : Nat} (hm : a ≤ m) (hon : D.on m l = true) (hob : D.on b l = true) : ∀ j, m + j ≤ b → Cg Z.p (C (m + j) l) (C m l)
  | 0, _ => Cg.refl _ _
  | j + 1, h => by
    have ih := GL V hb T hC hl hm hon hob j (by omega)
    have o1 := Dc.on_iff.1 hon
    have o2 := Dc.on_iff.1 hob
    have oa : D.on (m + j) l = true := Dc.on_iff.2 ⟨by omega, by omega⟩
    have ob : D.on (m + j + 1) l = true := Dc.on_iff.2 ⟨by omega, by omega⟩
    refine Cg.trans ?_ ih
    rcases Z.src_tgt (m + j) with ⟨e1, e2, _⟩ | ⟨e1, e2, _⟩
    · have := G9 V hb T hC (k := m + j) (by omega) (by omega) hl (by rw [e2]; exact ob)
      rw [e1, e2, oa] at this; exact (by simpa using this : Cg Z.p (C (m + j + 1) l) (C (m + j) l))
    · have := G9 V hb T hC (k := m + j) (by omega) (by omega) hl (by rw [e2]; exact oa)
      rw [e1, e2, ob] at this
      exact (by simpa using this : Cg Z.p (C (m + j) l) (C (m + j + 1) l)).symm
def Dc.s1 (Z : Zg) (D : Dc) (a b : Nat) (l : Nat) : Bool := D.on b l && (decide (D.fr l ≤ a) || Z.back (D.fr l - 1))
def Dc.s0 (Z : Zg) (D : Dc) (a b : Nat) (l : Nat) : Bool := D.on b l && (decide (a < D.fr l) && Z.back (D.fr l - 1))
def Dc.cov (D : Dc) (a b : Nat) (l : Nat) : Bool := decide (D.fr l ≤ a) && decide (b ≤ D.to l)
theorem Ug (F : Fld Z.p) (V : Valid Z D) (hb : b < Z.n) (x : Nat → Nat → Int) : ∃ C : Nat → Nat → Int, ∀ k, a ≤ k → k ≤ b → ∀ i, i < Z.d k → Cg Z.p (x k i) (Bj D.N (D.on k) (C k) (fun l => D.vec l k) i) := by
  have hex : ∀ k, ∃ c : Nat → Int, k ≤ b → ∀ i, i < Z.d k → Cg Z.p (x k i) (Bj D.N (D.on k) c (fun l => D.vec l k) i) := fun k => by
    by_cases h : k ≤ b
    · obtain ⟨c, hc⟩ := Uo F (V.ind k (by omega)) (V.cnt k (by omega)) (x k)
      exact ⟨c, fun _ => hc⟩
    · exact ⟨fun _ => 0, fun h' => absurd h' h⟩
  obtain ⟨C, hC⟩ := Classical.axiomOfChoice hex
  exact ⟨C, fun k _ h2 => hC k h2⟩
theorem Jq {b b' : Nat → Bool} {c : Nat → Int} (h1 : ∀ l, l < n → b' l = true → b l = true) (h2 : ∀ l, l < n → b l = true → b' l = false → Cg p (c l) 0) (i : Nat) : Cg p (Bj n b c v i) (Bj n b' c v i) := by
  refine Cg.sm fun l hl => ?_
  cases hb : b l with
  | false =>
    cases hb' : b' l with
    | false => exact Cg.refl _ _
    | true => have := h1 l hl hb'; rw [hb] at this; cases this
  | true =>
    cases hb' : b' l with
    | true => exact Cg.refl _ _
    | false =>
      have := (h2 l hl hb hb').mul (Cg.refl p (v l i))
      rw [Int.zero_mul] at this
      simpa using this
theorem MG (F : Fld Z.p) (V : Valid Z D) (hab : a ≤ b) (hb : b < Z.n) (h : Im Z a b y) : Spn Z.p D.N (D.s1 Z a b) (Z.d b) (fun l => D.vec l b) y := by
  obtain ⟨x, T, hy⟩ := h
  obtain ⟨C, hC⟩ := Ug F V (a := a) hb x
  refine ⟨C b, fun i hi => (hy i hi).symm.trans ((hC b hab (Nat.le_refl _) i hi).trans (Jq (fun l _ h => ?_) (fun l hl ho hn => ?_) i))⟩
  · unfold Dc.s1 at h; simp only [Bool.and_eq_true] at h; exact h.1
  · -- born by an arrow that Dm forward
    unfold Dc.s1 at hn
    rw [ho] at hn
    simp only [Bool.true_and, Bool.or_eq_false_iff, decide_eq_false_iff_not] at hn
    obtain ⟨h1, h2⟩ := hn
    have o := Dc.on_iff.1 ho
    have hfr : D.on (D.fr l) l = true := Dc.on_iff.2 ⟨Nat.le_refl _, by omega⟩
    have k1 := GL V hb T hC hl (m := D.fr l) (by omega) hfr ho (b - D.fr l) (by omega)
    rw [show D.fr l + (b - D.fr l) = b by omega] at k1
    refine k1.trans ?_
    rcases Z.src_tgt (D.fr l - 1) with ⟨e1, e2, _⟩ | ⟨_, _, e3⟩
    · have e2 : Z.tgt (D.fr l - 1) = D.fr l := by omega
      have := G9 V hb T hC (k := D.fr l - 1) (by omega) (by omega) hl (by rw [e2]; exact hfr)
      have hno : D.on (Z.src (D.fr l - 1)) l = false := by
        cases hh : D.on (Z.src (D.fr l - 1)) l with
        | false => rfl
        | true => have := (Dc.on_iff.1 hh).1; omega
      rw [e2, hno] at this; simpa using this
    · rw [e3] at h2; cases h2
theorem No (F : Fld Z.p) (V : Valid Z D) (hab : a ≤ b) (hb : b < Z.n) (h : Wd Z a b y) : Spn Z.p D.N (D.s0 Z a b) (Z.d b) (fun l => D.vec l b) y := by
  obtain ⟨x, T, h0, hy⟩ := h
  obtain ⟨C, hC⟩ := Ug F V (a := a) hb x
  refine ⟨C b, fun i hi => (hy i hi).symm.trans ((hC b hab (Nat.le_refl _) i hi).trans (Jq (fun l _ h => ?_) (fun l hl ho hn => ?_) i))⟩
  · unfold Dc.s0 at h; simp only [Bool.and_eq_true] at h; exact h.1
  · have o := Dc.on_iff.1 ho
    by_cases hfa : D.fr l ≤ a
    · have hoa : D.on a l = true := Dc.on_iff.2 ⟨hfa, by omega⟩
      have k1 := GL V hb T hC hl (m := a) (Nat.le_refl _) hoa ho (b - a) (by omega)
      rw [show a + (b - a) = b by omega] at k1
      refine k1.trans ?_
      have := V.ind a (by omega) (C a) (fun i hi => (hC a (Nat.le_refl _) hab i hi).symm.trans (h0 i hi)) l hl hoa
      unfold Cg; rwa [Int.sub_zero]
    · unfold Dc.s0 at hn
      rw [ho] at hn
      have : decide (a < D.fr l) = true := decide_eq_true (by omega)
      rw [this] at hn
      simp only [Bool.true_and] at hn
      have hfr : D.on (D.fr l) l = true := Dc.on_iff.2 ⟨Nat.le_refl _, by omega⟩
      have k1 := GL V hb T hC hl (m := D.fr l) (by omega) hfr ho (b - D.fr l) (by omega)
      rw [show D.fr l + (b - D.fr l) = b by omega] at k1
      refine k1.trans ?_
      rcases Z.src_tgt (D.fr l - 1) with ⟨e1, e2, _⟩ | ⟨_, _, e3⟩
      · have e2 : Z.tgt (D.fr l - 1) = D.fr l := by omega
        have := G9 V hb T hC (k := D.fr l - 1) (by omega) (by omega) hl (by rw [e2]; exact hfr)
        have hno : D.on (Z.src (D.fr l - 1)) l = false := by
          cases hh : D.on (Z.src (D.fr l - 1)) l with
          | false => rfl
          | true => have := (Dc.on_iff.1 hh).1; omega
        rw [e2, hno] at this; simpa using this
      · rw [e3] at hn; cases hn
theorem Ix (V : Valid Z D) (hb : b < Z.n) (hl : l < D.N) (hs : D.s1 Z a b l = true) : SR Z a b fun k i => if D.on k l then D.vec l k i else 0 := by
  intro k hak hkb i hi
  unfold Dc.s1 at hs
  simp only [Bool.and_eq_true, Bool.or_eq_true, decide_eq_true_eq] at hs
  obtain ⟨ho, hs⟩ := hs
  have o := Dc.on_iff.1 ho
  cases hsrc : D.on (Z.src k) l with
  | true =>
    simp only [hsrc, if_true]
    exact V.arr k (by omega) l hl hsrc i hi
  | false =>
    simp only [hsrc, Bool.false_eq_true, if_false]
    rw [J8]
    have htgt : D.on (Z.tgt k) l = false := by
      cases ht : D.on (Z.tgt k) l with
      | false => rfl
      | true =>
        exfalso
        have t := Dc.on_iff.1 ht
        have hns : ¬ (D.fr l ≤ Z.src k ∧ Z.src k ≤ D.to l) := fun h => by rw [Dc.on_iff.2 h] at hsrc; cases hsrc
        rcases Z.src_tgt k with ⟨e1, e2, e3⟩ | ⟨e1, e2, e3⟩
        · rcases hs with hs | hs
          · omega
          · have : D.fr l - 1 = k := by omega
            rw [this, e3] at hs; cases hs
        · omega
    rw [htgt]; exact Cg.refl _ _
theorem LY (n : Nat) (b : Nat → Bool) (c : Nat → Int) {e : Nat} {X : Nat → Nat → Nat → Int} (h : ∀ l, l < n → b l = true → SR Z a e (X l)) : SR Z a e fun k => Bj n b c fun l => X l k := by
  intro k h1 h2 i hi
  rw [FY]
  refine Cg.sm fun l hl => ?_
  cases hb : b l with
  | false => exact Cg.refl _ _
  | true => simp only [if_true]; exact (Cg.refl _ _).mul (h l hl hb k h1 h2 i hi)
theorem M8 (V : Valid Z D) (hb : b < Z.n) (h : Spn Z.p D.N (D.s1 Z a b) (Z.d b) (fun l => D.vec l b) y) : Im Z a b y := by
  obtain ⟨c, hc⟩ := h
  refine ⟨_, LY D.N (D.s1 Z a b) c fun l hl hs => Ix V hb hl hs, fun i hi => Cg.trans (Cg.of_eq ?_) (hc i hi).symm⟩
  unfold Bj
  refine AE fun l _ => ?_
  cases hs : D.s1 Z a b l with
  | false => rfl
  | true =>
    have : D.on b l = true := by unfold Dc.s1 at hs; simp only [Bool.and_eq_true] at hs; exact hs.1
    simp [this]
theorem V4 (h : D.s0 Z a b l = true) : D.s1 Z a b l = true := by
  unfold Dc.s0 at h; unfold Dc.s1
  simp only [Bool.and_eq_true, Bool.or_eq_true] at *
  exact ⟨h.1, .inr h.2.2⟩
theorem N8 (V : Valid Z D) (hb : b < Z.n) (h : Spn Z.p D.N (D.s0 Z a b) (Z.d b) (fun l => D.vec l b) y) : Wd Z a b y := by
  obtain ⟨c, hc⟩ := h
  refine ⟨_, LY D.N (D.s0 Z a b) c fun l hl hs => Ix V hb hl (V4 hs), fun i hi => Cg.of_eq ?_, fun i hi => Cg.trans (Cg.of_eq ?_) (hc i hi).symm⟩
  · unfold Bj
    refine CL fun l _ => ?_
    cases hs : D.s0 Z a b l with
    | false => rfl
    | true =>
      have : D.on a l = false := by
        unfold Dc.s0 at hs; simp only [Bool.and_eq_true, decide_eq_true_eq] at hs
        cases ho : D.on a l with
        | false => rfl
        | true => have := (Dc.on_iff.1 ho).1; omega
      simp [this]
  · unfold Bj
    refine AE fun l _ => ?_
    cases hs : D.s0 Z a b l with
    | false => rfl
    | true =>
      have : D.on b l = true := by unfold Dc.s0 at hs; simp only [Bool.and_eq_true] at hs; exact hs.1
      simp [this]
theorem Ind.sub {d : Nat} {b b' : Nat → Bool} (h : Ind p n b d v) (hs : ∀ l, l < n → b' l = true → b l = true) : Ind p n b' d v := by
  intro c hc l hl hb
  have := h (fun l => if b' l then c l else 0) (fun i hi => ?_) l hl (hs l hl hb)
  · rwa [if_pos hb] at this
  · refine Cg.trans (Cg.of_eq ?_) (hc i hi)
    unfold Bj
    refine AE fun l hl => ?_
    cases hb' : b' l with
    | false => cases b l <;> simp [hb']
    | true => simp [hs l hl hb', hb']
theorem Spn.self {d : Nat} {b : Nat → Bool} (hl : l < n) (hb : b l = true) : Spn p n b d v (v l) := by
  refine ⟨fun k => if k = l then 1 else 0, fun i hi => Cg.of_eq ?_⟩
  unfold Bj
  rw [DZ n l _ hl fun k _ hne => by simp [hne]]
  simp [hb]
theorem Ud : cnt D.N (D.s1 Z a b) = cnt D.N (fun l => D.cov a b l && D.on b l) + cnt D.N (D.s0 Z a b) := by
  have : ∀ n, cnt n (D.s1 Z a b) = cnt n (fun l => D.cov a b l && D.on b l) + cnt n (D.s0 Z a b) := by
    intro n
    induction n with
    | zero => rfl
    | succ n ih =>
      rw [BO, BO, BO, ih]
      have : (if D.s1 Z a b n then 1 else 0) = (if (D.cov a b n && D.on b n) then 1 else 0) + (if D.s0 Z a b n then 1 else 0) := by
        unfold Dc.s1 Dc.s0 Dc.cov
        cases ho : D.on b n with
        | false => simp
        | true =>
          have o := Dc.on_iff.1 ho
          have h1 : decide (b ≤ D.to n) = true := decide_eq_true o.2
          rw [h1]
          by_cases hf : D.fr n ≤ a
          · have h2 : decide (a < D.fr n) = false := decide_eq_false (by omega)
            simp [hf, h2]
          · have h2 : a < D.fr n := by omega
            simp [hf, h2]
      omega
  exact this D.N
theorem Qv (V : Valid Z D) (hab : a ≤ b) : cnt D.N (D.cov a b) = cnt D.N (fun l => D.cov a b l && D.on b l) := CC fun l hl => by
  unfold Dc.cov Dc.on
  by_cases h1 : D.fr l ≤ a
  · by_cases h2 : b ≤ D.to l
    · have : D.fr l ≤ b := by omega
      simp [h1, h2, this]
    · simp [h2]
  · simp [h1]
theorem cover (F : Fld Z.p) (V : Valid Z D) (hab : a ≤ b) (hb : b < Z.n) : cnt D.N (D.s1 Z a b) = cnt D.N (D.cov a b) + cnt D.N (D.s0 Z a b) := by rw [Qv V hab]; exact Ud
theorem G8 (F : Fld Z.p) {D' : Dc} (V : Valid Z D) (V' : Valid Z D') (hab : a ≤ b) (hb : b < Z.n) : cnt D.N (D.cov a b) = cnt D'.N (D'.cov a b) := by
  have go : ∀ {D D' : Dc}, Valid Z D → Valid Z D' → cnt D.N (D.s1 Z a b) ≤ cnt D'.N (D'.s1 Z a b) ∧ cnt D.N (D.s0 Z a b) ≤ cnt D'.N (D'.s0 Z a b) := fun {D D'} V V' => by
    have o1 : ∀ l, l < D.N → D.s1 Z a b l = true → D.on b l = true := fun l _ h => by unfold Dc.s1 at h; simp only [Bool.and_eq_true] at h; exact h.1
    have o0 : ∀ l, l < D.N → D.s0 Z a b l = true → D.on b l = true := fun l _ h => by unfold Dc.s0 at h; simp only [Bool.and_eq_true] at h; exact h.1
    exact ⟨CA F ((V.ind b hb).sub o1) fun l hl h => MG F V' hab hb (M8 V hb (Spn.self hl h)),
      CA F ((V.ind b hb).sub o0) fun l hl h => No F V' hab hb (N8 V hb (Spn.self hl h))⟩
  have h1 := go V V'
  have h2 := go V' V
  have c1 := cover F V hab hb
  have c2 := cover F V' hab hb
  omega
end
end Go.Lin
namespace Go.Lin
variable {r c i j : Nat} {p : Int} {f : Nat → Nat → Int} {x : Nat → Int}
def RSp (p : Int) (r c : Nat) (f : Nat → Nat → Int) (x : Nat → Int) : Prop := ∃ u : Nat → Int, ∀ b, b < c → Cg p (x b) (sm r fun l => u l * f l b)
theorem RSp.row (hi : i < r) : RSp p r c f (f i) :=
  ⟨fun l => if l = i then 1 else 0, fun b _ => Cg.of_eq (by
    rw [DZ r i _ hi fun l _ hne => by simp [hne]]
    simp)⟩
theorem RSp.cg {y : Nat → Int} (h : RSp p r c f x) (hc : ∀ b, b < c → Cg p (y b) (x b)) : RSp p r c f y := by
  obtain ⟨u, hu⟩ := h
  exact ⟨u, fun b hb => (hc b hb).trans (hu b hb)⟩
theorem RSp.mul (h : RSp p r c f x) (k : Int) : RSp p r c f fun b => k * x b := by
  obtain ⟨u, hu⟩ := h
  refine ⟨fun l => k * u l, fun b hb => (Cg.mul (Cg.refl p k) (hu b hb)).trans (Cg.of_eq ?_)⟩
  rw [← Cb]
  exact AE fun l _ => by rw [Int.mul_assoc]
theorem RSp.add {y : Nat → Int} (h : RSp p r c f x) (h' : RSp p r c f y) : RSp p r c f fun b => x b + y b := by
  obtain ⟨u, hu⟩ := h
  obtain ⟨v, hv⟩ := h'
  refine ⟨fun l => u l + v l, fun b hb => (Cg.add (hu b hb) (hv b hb)).trans (Cg.of_eq ?_)⟩
  rw [← FF]
  exact AE fun l _ => by rw [Int.add_mul]
structure Red (p : Int) (r c : Nat) (f F : Nat → Nat → Int) (pv : List Nat) (j : Nat) : Prop where
  bd : ∀ i, i < r → ∀ b, b < c → 0 ≤ F i b ∧ F i b < p
  sorted : pv.Pairwise (· < ·)
  lt : ∀ k (h : k < pv.length), pv[k] < j
  len : pv.length ≤ r
  col : ∀ i, i < r → ∀ k (h : k < pv.length), F i pv[k] = if i = k then 1 else 0
  low : ∀ i, i < r → pv.length ≤ i → ∀ b, b < j → F i b = 0
  left : ∀ i (h : i < pv.length), ∀ b, b < pv[i] → F i b = 0
  ker : ∀ x : Nat → Int, (∀ i, i < r → Cg p (ap F c x i) 0) ↔ (∀ i, i < r → Cg p (ap f c x i) 0)
  row : ∀ i, i < r → RSp p r c f (F i)
theorem Red.start (h : ∀ i, i < r → ∀ b, b < c → 0 ≤ f i b ∧ f i b < p) : Red p r c f f [] 0 :=
  ⟨h, List.Pairwise.nil, fun k h => by simp at h, by simp, fun i _ k h => by simp at h, fun i _ _ b hb => by omega, fun i h => by simp at h, fun x => Iff.rfl, fun i hi => RSp.row hi⟩
theorem Red.skip {F : Nat → Nat → Int} {pv : List Nat} (R : Red p r c f F pv j) (h : ∀ i, i < r → pv.length ≤ i → F i j = 0) : Red p r c f F pv (j + 1) :=
  ⟨R.bd, R.sorted, fun k hk => Nat.lt_succ_of_lt (R.lt k hk), R.len, R.col, fun i hi hl b hb => by
    rcases (by omega : b < j ∨ b = j) with h1 | rfl
    · exact R.low i hi hl b h1
    · exact h i hi hl, R.left, R.ker, R.row⟩
def FE (i j a : Nat) : Nat := if a = i then j else if a = j then i else a
theorem FH {a : Nat} (hi : i < r) (hj : j < r) (ha : a < r) : FE i j a < r := by
  unfold FE; split
  · exact hj
  · split
    · exact hi
    · exact ha
theorem Nk (i j a : Nat) : FE i j (FE i j a) = a := by
  unfold FE
  by_cases h1 : a = i
  · by_cases h2 : j = i
    · simp [h1, h2]
    · simp [h1, h2]
  · by_cases h2 : a = j
    · simp [h2]
    · simp [h1, h2]
def De (p : Int) (t i : Nat) (v : Int) (F : Nat → Nat → Int) (a b : Nat) : Int := if a = t then F (FE t i t) b * v % p else F (FE t i a) b
def J0 (p : Int) (t i j : Nat) (v : Int) (F : Nat → Nat → Int) (a b : Nat) : Int := if a = t then De p t i v F t b else (De p t i v F a b + De p t i v F t b * (p - De p t i v F a j)) % p
theorem Red.step {F : Nat → Nat → Int} {pv : List Nat} {v : Int} (hp : 2 ≤ p) (R : Red p r c f F pv j) (hi : i < r) (hl : pv.length ≤ i) (hj : j < c) (hv : F i j * v % p = 1) :
    Red p r c f (J0 p pv.length i j v F) (pv ++ [j]) (j + 1) := by
  generalize ht : pv.length = t at *
  have htr : t < r := by omega
  have hst : FE t i t = i := by simp [FE]
  have hle : ∀ a, t ≤ a → t ≤ FE t i a := fun a ha => by
    unfold FE
    split
    · omega
    · split <;> omega
  have hsm : ∀ a, a < t → FE t i a = a := fun a ha => by unfold FE; rw [if_neg (by omega), if_neg (by omega)]
  -- row t, in the second form
  have h2bd : ∀ a, a < r → ∀ b, b < c → 0 ≤ De p t i v F a b ∧ De p t i v F a b < p := fun a ha b hb => by
    unfold De; split
    · exact ⟨Int.emod_nonneg _ (by omega), Int.emod_lt_of_pos _ (by omega)⟩
    · exact R.bd _ (FH htr hi ha) b hb
  have h2t : ∀ b, De p t i v F t b = F i b * v % p := fun b => by unfold De; rw [if_pos rfl, hst]
  have h2z : ∀ b, F i b = 0 → De p t i v F t b = 0 := fun b hb => by rw [h2t, hb, Int.zero_mul, Int.zero_emod]
  have h2j : De p t i v F t j = 1 := by rw [h2t, hv]
  have h2n : ∀ a, a ≠ t → ∀ b, De p t i v F a b = F (FE t i a) b := fun a ha b => by unfold De; rw [if_neg ha]
  have h3t : ∀ b, J0 p t i j v F t b = De p t i v F t b := fun b => by unfold J0; rw [if_pos rfl]
  have h3n : ∀ a, a ≠ t → ∀ b, J0 p t i j v F a b = (De p t i v F a b + De p t i v F t b * (p - De p t i v F a j)) % p := fun a ha b => by unfold J0; rw [if_neg ha]
  have h3same : ∀ a, a < r → a ≠ t → ∀ b, b < c → F i b = 0 → J0 p t i j v F a b = F (FE t i a) b := fun a ha hat b hb hz => by
    rw [h3n a hat, h2z b hz, Int.zero_mul, Int.add_zero, h2n a hat]
    have := R.bd _ (FH htr hi ha) b hb
    exact Int.emod_eq_of_lt this.1 this.2
  have hlowi : ∀ b, b < j → F i b = 0 := fun b hb => R.low i hi (by omega) b hb
  have hpvz : ∀ k (h : k < pv.length), F i pv[k] = 0 := fun k h => by rw [R.col i hi k h, if_neg (by omega)]
  refine ⟨fun a ha b hb => ?_, ?_, fun k hk => ?_, ?_, fun a ha k hk => ?_, fun a ha hla b hb => ?_, fun a ha b hb => ?_, fun x => ?_, fun a ha => ?_⟩
  · by_cases hat : a = t
    · subst hat; rw [h3t]; exact h2bd _ ha b hb
    · rw [h3n a hat]; exact ⟨Int.emod_nonneg _ (by omega), Int.emod_lt_of_pos _ (by omega)⟩
  · rw [List.pairwise_append]
    refine ⟨R.sorted, List.pairwise_singleton _ _, fun a ha b hb => ?_⟩
    obtain ⟨k, hk, rfl⟩ := List.mem_iff_getElem.1 ha
    rw [List.mem_singleton.1 hb]
    exact R.lt k hk
  · rw [List.getElem_append]
    split
    · exact Nat.lt_succ_of_lt (R.lt k _)
    · simp
  · rw [List.length_append, List.length_singleton]; omega
  · rw [List.getElem_append]
    split
    · rename_i hk'
      have hkj := R.lt k hk'
      by_cases hat : a = t
      · subst hat; rw [h3t, h2z _ (hpvz k hk'), if_neg (by omega)]
      · rw [h3same a ha hat _ (by omega) (hpvz k hk'), R.col _ (FH htr hi ha) k hk']
        by_cases h1 : a < t
        · rw [hsm a h1]
        · rw [if_neg (by have := hle a (by omega); omega), if_neg (by omega)]
    · rename_i hk'
      rw [List.length_append, List.length_singleton] at hk
      have hkt : k = t := by omega
      simp only [List.getElem_singleton]
      by_cases hat : a = t
      · subst hat; rw [h3t, h2j, if_pos (by omega)]
      · rw [h3n a hat, h2j, Int.one_mul, if_neg (by omega), show De p t i v F a j + (p - De p t i v F a j) = p by omega, Int.emod_self]
  · rw [List.length_append, List.length_singleton] at hla
    have hat : a ≠ t := by omega
    by_cases hbj : b < j
    · by_cases hbc : b < c
      · rw [h3same a ha hat b hbc (hlowi b hbj)]
        exact R.low _ (FH htr hi ha) (by have := hle a (by omega); omega) b hbj
      · omega
    · have : b = j := by omega
      subst this
      rw [h3n a hat, h2j, Int.one_mul, show De p t i v F a b + (p - De p t i v F a b) = p by omega, Int.emod_self]
  · rw [List.length_append, List.length_singleton] at ha
    rw [List.getElem_append] at hb
    split at hb
    · rename_i ha'
      have hlt := R.lt a ha'
      rw [h3same a (by omega) (by omega) b (by omega) (hlowi b (by omega)), hsm a (by omega)]
      exact R.left a ha' b hb
    · simp only [List.getElem_singleton] at hb
      have hat : a = t := by omega
      subst hat
      rw [h3t, h2z b (hlowi b hb)]
  · rw [← R.ker x]
    -- the sums
    have s2n : ∀ a, a ≠ t → ap (De p t i v F) c x a = ap F c x (FE t i a) := fun a ha => AE fun b hb => by rw [h2n a ha]
    have s2t : Cg p (ap (De p t i v F) c x t) (v * ap F c x i) := by
      refine Cg.trans (Cg.sm fun b hb => (show Cg p (De p t i v F t b * x b) (v * (F i b * x b)) from ?_)) (Cg.of_eq (Cb c v _))
      rw [h2t]
      refine Cg.trans (Cg.mul (Cg.mod _ _) (Cg.refl _ _)) (Cg.of_eq ?_)
      rw [Int.mul_comm (F i b) v, Int.mul_assoc]
    have s3t : ap (J0 p t i j v F) c x t = ap (De p t i v F) c x t := AE fun b hb => by rw [h3t]
    have s3n : ∀ a, a ≠ t → Cg p (ap (J0 p t i j v F) c x a) (ap F c x (FE t i a) + (p - De p t i v F a j) * ap (De p t i v F) c x t) := fun a ha => by
      refine Cg.trans (Cg.sm fun b hb => (show Cg p (J0 p t i j v F a b * x b) (F (FE t i a) b * x b + (p - De p t i v F a j) * (De p t i v F t b * x b)) from ?_)) (Cg.of_eq ?_)
      · rw [h3n a ha, h2n a ha b]
        refine Cg.trans (Cg.mul (Cg.mod _ _) (Cg.refl _ _)) (Cg.of_eq ?_)
        rw [Int.add_mul, Int.mul_comm (De p t i v F t b), Int.mul_assoc]
      · rw [FF, Cb]; rfl
    constructor
    · intro H a ha
      have ht0 : Cg p (ap (De p t i v F) c x t) 0 := by rw [← s3t]; exact H t htr
      have hn0 : ∀ a, a < r → a ≠ t → Cg p (ap F c x (FE t i a)) 0 := fun a ha hat => by
        have h1 := (s3n a hat).symm.trans (H a ha)
        have h2 := Cg.mul (Cg.refl p (p - De p t i v F a j)) ht0
        have h3 := Cg.sub h1 h2
        rw [Int.mul_zero, Int.sub_zero] at h3
        exact Cg.trans (Cg.of_eq (by omega)) h3
      have hi0 : Cg p (ap F c x i) 0 := by
        have h1 := s2t.symm.trans ht0
        have h2 := Cg.mul (Cg.refl p (F i j)) h1
        rw [Int.mul_zero, ← Int.mul_assoc] at h2
        have h3 : Cg p (F i j * v) 1 := Cg.iff_mod.2 (by rw [hv, Int.emod_eq_of_lt (by omega) (by omega)])
        have h4 := Cg.mul h3 (Cg.refl p (ap F c x i))
        rw [Int.one_mul] at h4
        exact h4.symm.trans h2
      by_cases hat : FE t i a = t
      · have : a = i := by
          have h1 := Nk t i a
          rw [hat, hst] at h1; exact h1.symm
        rw [this]; exact hi0
      · have h1 := hn0 (FE t i a) (FH htr hi ha) hat
        rwa [Nk] at h1
    · intro H a ha
      have ht0 : Cg p (ap (De p t i v F) c x t) 0 := by
        have := Cg.mul (Cg.refl p v) (H i hi)
        rw [Int.mul_zero] at this
        exact s2t.trans this
      by_cases hat : a = t
      · subst hat; rw [s3t]; exact ht0
      · refine (s3n a hat).trans ?_
        have h2 := Cg.mul (Cg.refl p (p - De p t i v F a j)) ht0
        have h3 := Cg.add (H _ (FH htr hi ha)) h2
        rwa [Int.mul_zero, Int.add_zero] at h3
  · have ht : RSp p r c f (De p t i v F t) := ((R.row i hi).mul v).cg fun b _ => by
      rw [h2t, Int.mul_comm v]; exact Cg.mod _ _
    by_cases hat : a = t
    · subst hat
      exact ht.cg fun b _ => Cg.of_eq (h3t b)
    · refine ((R.row _ (FH htr hi ha)).add (ht.mul (p - De p t i v F a j))).cg fun b _ => ?_
      rw [h3n a hat, h2n a hat b, Int.mul_comm (De p t i v F t b)]
      exact Cg.mod _ _
end Go.Lin
namespace Go.Lin
variable {pv : List Nat} {j c : Nat}
def Er (pv : List Nat) (j : Nat) : List Nat := (List.range j).filter fun a => !pv.contains a
theorem GJ (pv : List Nat) (j : Nat) : Er pv (j + 1) = Er pv j ++ if pv.contains j then [] else [j] := by
  unfold Er
  rw [List.range_succ, List.filter_append]
  congr 1
  cases h : pv.contains j <;> rw [List.filter_cons, h] <;> rfl
theorem Vy (h : pv.contains j = true) : Er pv (j + 1) = Er pv j := by rw [GJ, if_pos h, List.append_nil]
theorem Nm (h : pv.contains j = false) : Er pv (j + 1) = Er pv j ++ [j] := by rw [GJ, h]; rfl
theorem Ub (pv : List Nat) : ∀ j, (Er pv (j + 1)).length = (Er pv j).length + if pv.contains j then 0 else 1 := fun j => by
  rw [GJ, List.length_append]; split <;> simp
theorem N6 (pv : List Nat) (j : Nat) : ∀ c, j ≤ c → ∃ l, Er pv c = Er pv j ++ l
  | 0, h => ⟨[], by rw [show j = 0 by omega, List.append_nil]⟩
  | c + 1, h => by
    by_cases hj : j = c + 1
    · exact ⟨[], by rw [hj, List.append_nil]⟩
    · obtain ⟨l, hl⟩ := N6 pv j c (by omega)
      rw [GJ, hl, List.append_assoc]
      exact ⟨_, rfl⟩
theorem UR (hj : j < c) (h : pv.contains j = false) : (Er pv c).getD (Er pv j).length 0 = j ∧ (Er pv j).length < (Er pv c).length := by
  obtain ⟨l, hl⟩ := N6 pv (j + 1) c (by omega)
  rw [Nm h, List.append_assoc] at hl
  rw [hl]
  simp
theorem frl_mem {a : Nat} : a ∈ Er pv c ↔ a < c ∧ a ∉ pv := by simp [Er]
theorem OG (pv : List Nat) (c : Nat) : (Er pv c).Nodup := List.Pairwise.filter _ List.nodup_range
theorem JK (hs : pv.Pairwise (· < ·)) : ∀ j, (Er pv j).length + (pv.filter fun a => decide (a < j)).length = j
  | 0 => by simp [Er]
  | j + 1 => by
    have ih := JK hs j
    have hc : (pv.filter fun a => decide (a < j + 1)).length = (pv.filter fun a => decide (a < j)).length + if pv.contains j then 1 else 0 := by
      clear ih
      induction pv with
      | nil => simp
      | cons b l ihl =>
        have hl := List.pairwise_cons.1 hs
        have ihl := ihl hl.2
        have hcon : (b :: l).contains j = (j == b || l.contains j) := List.contains_cons
        rw [List.filter_cons, List.filter_cons]
        by_cases h1 : b < j
        · have h2 : b < j + 1 := by omega
          have h3 : (j == b) = false := by simp; omega
          simp only [h1, h2, decide_true, if_true, List.length_cons, hcon, h3, Bool.false_or]
          rw [ihl]; omega
        · by_cases h2 : b = j
          · subst h2
            have h4 : l.contains b = false := by
              rw [Bool.eq_false_iff]
              intro h5
              have := hl.1 b (by simpa using h5)
              omega
            rw [h4] at ihl
            simp only [Nat.lt_irrefl, decide_false, Bool.false_eq_true, if_false, hcon, beq_self_eq_true, Bool.true_or, if_true, show b < b + 1 by omega, decide_true, List.length_cons]
            rw [ihl]; simp
          · have h3 : ¬ b < j + 1 := by omega
            have h5 : (j == b) = false := by simp; omega
            simp only [h1, h3, decide_false, Bool.false_eq_true, if_false, hcon, h5, Bool.false_or]
            exact ihl
    rw [Ub, hc]
    cases pv.contains j <;> simp <;> omega
theorem Oc (hs : pv.Pairwise (· < ·)) (hc : ∀ a ∈ pv, a < c) : (Er pv c).length + pv.length = c := by
  have := JK hs c
  rwa [List.filter_eq_self.2 (fun a ha => by simpa using hc a ha)] at this
end Go.Lin
namespace Go.Lin
variable {n d : Nat} {b : Nat → Bool} {L : List Nat} {p : Int} {v : Nat → Nat → Int}
def Kq : List Nat → (Nat → Int) → Int
  | [], _ => 0
  | a :: l, f => f a + Kq l f
theorem Iq (f : Nat → Int) : ∀ l l' : List Nat, Kq (l ++ l') f = Kq l f + Kq l' f
  | [], l' => by simp [Kq]
  | a :: l, l' => by rw [List.cons_append, Kq, Kq, Iq f l l']; omega
theorem Iw {f : Nat → Int} {l l' : List Nat} (h : l.Perm l') : Kq l f = Kq l' f := by
  induction h with
  | nil => rfl
  | cons x _ ih => rw [Kq, Kq, ih]
  | swap x y l => rw [Kq, Kq, Kq, Kq]; omega
  | trans _ _ ih1 ih2 => exact ih1.trans ih2
theorem Ku (f : Nat → Int) : ∀ l : List Nat, Kq l f = sm l.length fun t => f (l.getD t 0) := by
  intro l
  have key : ∀ l' : List Nat, ∀ l'', l = l' ++ l'' → Kq l' f = sm l'.length fun t => f (l.getD t 0) := by
    intro l'
    induction h : l'.length generalizing l' with
    | zero => intro l'' _; have := List.length_eq_zero_iff.1 h; subst this; rfl
    | succ n ih =>
      intro l'' e
      obtain ⟨a, b, rfl⟩ : ∃ a b, l' = a ++ [b] := ⟨l'.dropLast, l'.getLast (by intro h0; rw [h0] at h; cases h), (List.dropLast_concat_getLast _).symm⟩
      rw [List.length_append, List.length_singleton] at h
      rw [Iq]
      show _ = sm n _ + _
      rw [ih a (by omega) ([b] ++ l'') (by rw [e, List.append_assoc])]
      congr 1
      have hn : n = a.length := by omega
      subst hn
      rw [e]
      simp [Kq, List.getD]
  exact key l [] (by simp)
theorem Ki (n : Nat) (b : Nat → Bool) (f : Nat → Int) : (sm n fun l => if b l then f l else 0) = Kq (Df n b) f := by
  rw [KC, Ku]; rfl
theorem FA (hn : L.Nodup) (h : ∀ l, l ∈ L ↔ l < n ∧ b l = true) : L.Perm (Df n b) :=
  (List.perm_ext_iff_of_nodup hn (EN n b)).2 fun a => by rw [mem_sel]; exact h a
theorem FJ (hp : L.Perm (Df n b)) (hI : Ind p L.length (fun _ => true) d fun t => v (L.getD t 0)) : Ind p n b d v := by
  intro c hc l hl hb
  have hm : l ∈ L := hp.mem_iff.2 (mem_sel.2 ⟨hl, hb⟩)
  obtain ⟨t, ht, rfl⟩ := List.mem_iff_getElem.1 hm
  have := hI (fun t => c (L.getD t 0)) (fun i hi => Cg.trans (Cg.of_eq ?_) (hc i hi)) t ht rfl
  · have e : L.getD t 0 = L[t] := by simp [List.getD, ht]
    show p ∣ c L[t]
    rw [← e]; exact this
  · unfold Bj
    rw [Ki n b fun l => c l * v l i, ← Iw hp, Ku]
    exact AE fun t _ => if_pos rfl
theorem FB (hp : L.Perm (Df n b)) (hI : Ind p n b d v) : Ind p L.length (fun _ => true) d fun t => v (L.getD t 0) := by
  intro c hc t ht _
  have hn : L.Nodup := hp.nodup_iff.2 (EN n b)
  have hm : L[t] ∈ Df n b := hp.mem_iff.1 (List.getElem_mem ht)
  have := hI (fun l => c (L.idxOf l)) (fun i hi => Cg.trans (Cg.of_eq ?_) (hc i hi)) L[t] (mem_sel.1 hm).1 (mem_sel.1 hm).2
  · rwa [hn.idxOf_getElem t ht] at this
  · unfold Bj
    rw [Ki n b fun l => c (L.idxOf l) * v l i, ← Iw hp, Ku]
    exact AE fun t ht => by
      have e : L.getD t 0 = L[t] := by simp [List.getD, ht]
      rw [if_pos rfl, e, hn.idxOf_getElem t ht]; show _ = c t * v (L.getD t 0) i; rw [e]
theorem H7 (hp : L.Perm (Df n b)) : cnt n b = L.length := hp.length_eq.symm
theorem Rz {v' : Nat → Nat → Int} {s t : Nat} {k : Int} (hs : s < n) (ht : t < n) (hst : s ≠ t) (hbs : b s = true) (hbt : b t = true) (hI : Ind p n b d v) (h1 : ∀ l, l < n → l ≠ s → b l = true → ∀ i, i < d → Cg p (v' l i) (v l i)) (h2 : ∀ i, i < d → Cg p (v' s i) (v s i + k * v t i)) : Ind p n b d v' := by
  intro c hc
  have h := hI (fun l => if l = t then c t + k * c s else c l) (fun i hi => ?_)
  · have e1 := h s hs hbs
    rw [if_neg hst] at e1
    have e2 := h t ht hbt
    rw [if_pos rfl] at e2
    intro l hl hb
    by_cases hlt : l = t
    · subst hlt
      have e3 : p ∣ k * c s := Int.dvd_mul_of_dvd_right e1
      have := Int.dvd_sub e2 e3
      rwa [Int.add_sub_cancel] at this
    · have := h l hl hb
      rwa [if_neg hlt] at this
  · refine Cg.trans ?_ (hc i hi)
    have e1 : Bj n b (fun l => if l = t then c t + k * c s else c l) v i = Bj n b c v i + sm n (fun l => if l = t then k * c s * v t i else 0) := by
      unfold Bj
      rw [← FF]
      exact AE fun l _ => by
        by_cases hlt : l = t
        · subst hlt; simp only [hbt, if_true]; rw [Int.add_mul]
        · simp only [if_neg hlt, Int.add_zero]
    have e2 : Cg p (Bj n b c v' i) (Bj n b c v i + sm n (fun l => if l = s then k * c s * v t i else 0)) := by
      unfold Bj
      rw [← FF]
      refine Cg.sm fun l hl => ?_
      by_cases hls : l = s
      · subst hls
        rw [if_pos hbs, if_pos hbs, if_pos rfl]
        refine (Cg.mul (Cg.refl p (c l)) (h2 i hi)).trans (Cg.of_eq ?_)
        rw [Int.mul_add, ← Int.mul_assoc (c l) k, Int.mul_comm (c l) k]
      · rw [if_neg hls, Int.add_zero]
        cases hb : b l with
        | false => exact Cg.refl _ _
        | true => exact Cg.mul (Cg.refl p _) (h1 l hl hls hb i hi)
    rw [DP n s (fun _ => k * c s * v t i) hs] at e2
    rw [e1, DP n t (fun _ => k * c s * v t i) ht]
    exact e2.symm
theorem Ind.congr {b' : Nat → Bool} {v' : Nat → Nat → Int} (hI : Ind p n b d v) (hb : ∀ l, l < n → b l = b' l) (hv : ∀ l, l < n → b l = true → ∀ i, i < d → Cg p (v' l i) (v l i)) : Ind p n b' d v' := by
  intro c hc l hl hbl
  refine hI c (fun i hi => ?_) l hl ((hb l hl).trans hbl)
  refine Cg.trans (Cg.sm fun l hl => ?_) (hc i hi)
  rw [← hb l hl]
  cases h : b l with
  | false => exact Cg.refl _ _
  | true => exact (Cg.mul (Cg.refl p _) (hv l hl h i hi)).symm
def Zg.tr (Z : Zg) (k : Nat) : Zg := { Z with n := k + 1 }
def Dc.may (D : Dc) (Z : Zg) (t s : Nat) : Prop := D.fr t = D.fr s ∨ (D.fr s < D.fr t ∧ Z.back (D.fr t - 1) = true) ∨ (D.fr t < D.fr s ∧ Z.back (D.fr s - 1) = false)
def Dc.adds (D : Dc) (p : Int) (s t : Nat) (n : Int) : Dc := { D with vec := fun l k i => if l = s ∧ D.fr t ≤ k then (D.vec l k i + n * D.vec t k i) % p else D.vec l k i }
theorem SZ {Z : Zg} {D : Dc} {K s t : Nat} {n : Int} (hK : Z.n = K + 1) (V : Valid Z D) (hs : s < D.N) (ht : t < D.N) (hst : s ≠ t) (hsK : D.to s = K) (htK : D.to t = K) (hm : D.may Z t s) : Valid Z (D.adds Z.p s t n) := by
  have hon : ∀ k l, (D.adds Z.p s t n).on k l = D.on k l := fun _ _ => rfl
  have hne : ∀ l, l ≠ s → ∀ k i, (D.adds Z.p s t n).vec l k i = D.vec l k i := fun l hl k i => if_neg fun h => hl h.1
  have hfar : ∀ k i, k < D.fr t → (D.adds Z.p s t n).vec s k i = D.vec s k i := fun k i h => if_neg fun h2 => by omega
  have hnear : ∀ k i, D.fr t ≤ k → Cg Z.p ((D.adds Z.p s t n).vec s k i) (D.vec s k i + n * D.vec t k i) := fun k i h => by
    show Cg _ (if s = s ∧ D.fr t ≤ k then (D.vec s k i + n * D.vec t k i) % Z.p else D.vec s k i) _
    rw [if_pos ⟨rfl, h⟩]; exact Cg.mod _ _
  refine ⟨V.ends, fun k hk => ?_, fun k hk => V.cnt k hk, fun k hk l hl ho i hi => ?_⟩
  · by_cases h : D.on k s = true ∧ D.fr t ≤ k
    · exact Rz (b := D.on k) (v := fun l => D.vec l k) (k := n) hs ht hst h.1 (Dc.on_iff.2 ⟨h.2, by omega⟩) (V.ind k hk) (fun l _ hl _ i _ => Cg.of_eq (hne l hl k i)) fun i _ => hnear k i h.2
    · refine (V.ind k hk).congr (fun _ _ => rfl) fun l hl ho i _ => Cg.of_eq ?_
      by_cases hls : l = s
      · subst hls
        exact hfar k i (Nat.lt_of_not_le fun h2 => h ⟨ho, h2⟩)
      · exact hne l hls k i
  · rw [hon] at ho ⊢
    have A := V.arr k hk l hl ho i hi
    by_cases hls : l = s
    · subst hls
      have o := Dc.on_iff.1 ho
      -- what the arrow makes of the other one
      have At : D.on (Z.src k) t = true → Cg Z.p (ap (Z.mat k) (Z.d (Z.src k)) (D.vec t (Z.src k)) i) (if D.on (Z.tgt k) t then D.vec t (Z.tgt k) i else 0) := fun h => V.arr k hk t ht h i hi
      have sum : D.fr t ≤ Z.src k → Cg Z.p (ap (Z.mat k) (Z.d (Z.src k)) ((D.adds Z.p l t n).vec l (Z.src k)) i) ((if D.on (Z.tgt k) l then D.vec l (Z.tgt k) i else 0) + n * (if D.on (Z.tgt k) t then D.vec t (Z.tgt k) i else 0)) := fun h => by
        refine (EC (w := fun j => D.vec l (Z.src k) j + n * D.vec t (Z.src k) j) (fun j _ => hnear _ j h) i).trans ?_
        have e : ap (Z.mat k) (Z.d (Z.src k)) (fun j => D.vec l (Z.src k) j + n * D.vec t (Z.src k) j) i = ap (Z.mat k) (Z.d (Z.src k)) (D.vec l (Z.src k)) i + n * ap (Z.mat k) (Z.d (Z.src k)) (D.vec t (Z.src k)) i := by
          unfold ap
          rw [← Cb, ← FF]
          exact AE fun j _ => by rw [Int.mul_add, ← Int.mul_assoc n (Z.mat k i j), Int.mul_comm n (Z.mat k i j), Int.mul_assoc]
        rw [e]
        exact Cg.add A (Cg.mul (Cg.refl _ n) (At (Dc.on_iff.2 ⟨h, by omega⟩)))
      have same : Z.src k < D.fr t → Cg Z.p (ap (Z.mat k) (Z.d (Z.src k)) ((D.adds Z.p l t n).vec l (Z.src k)) i) (if D.on (Z.tgt k) l then D.vec l (Z.tgt k) i else 0) := fun h =>
        (EC (fun j _ => Cg.of_eq (hfar _ j h)) i).trans A
      by_cases h1 : D.fr t ≤ Z.src k
      · refine (sum h1).trans ?_
        by_cases h2 : D.fr t ≤ Z.tgt k
        · have hot : D.on (Z.tgt k) t = true := Dc.on_iff.2 ⟨h2, by rcases Z.src_tgt k with ⟨_, e, _⟩ | ⟨_, e, _⟩ <;> omega⟩
          rw [hot]
          cases hot2 : D.on (Z.tgt k) l with
          | true => simp only [if_true]; exact (hnear _ i h2).symm
          | false =>
            exfalso
            have h3 : ¬ (D.fr l ≤ Z.tgt k ∧ Z.tgt k ≤ D.to l) := fun h => by rw [Dc.on_iff.2 h] at hot2; cases hot2
            unfold Dc.may at hm
            rcases Z.src_tgt k with ⟨e1, e2, e3⟩ | ⟨e1, e2, e3⟩
            · omega
            · have e4 : D.fr l - 1 = k := by omega
              rw [e4, e3] at hm
              rcases hm with hm | hm | hm
              · omega
              · omega
              · cases hm.2
        · have hot : D.on (Z.tgt k) t = false := by
            cases h : D.on (Z.tgt k) t with
            | false => rfl
            | true => exact absurd (Dc.on_iff.1 h).1 h2
          rw [hot, hfar _ i (by omega)]
          simp only [Bool.false_eq_true, if_false, Int.mul_zero, Int.add_zero]
          exact Cg.refl _ _
      · refine (same (by omega)).trans ?_
        by_cases h2 : D.fr t ≤ Z.tgt k
        · exfalso
          unfold Dc.may at hm
          rcases Z.src_tgt k with ⟨e1, e2, e3⟩ | ⟨e1, e2, e3⟩
          · have e4 : D.fr t - 1 = k := by omega
            rw [e4, e3] at hm
            rcases hm with hm | hm | hm
            · omega
            · cases hm.2
            · omega
          · omega
        · rw [hfar _ i (by omega)]; exact Cg.refl _ _
    · have e : ap (Z.mat k) (Z.d (Z.src k)) ((D.adds Z.p s t n).vec l (Z.src k)) i = ap (Z.mat k) (Z.d (Z.src k)) (D.vec l (Z.src k)) i := AE fun j _ => by rw [hne l hls]
      rw [e, hne l hls]
      exact A
def Dc.grow (D : Dc) (k : Nat) (st : List Nat) (nb : Nat) (W : Nat → Nat → Int) : Dc where
  N := D.N + nb
  fr l := if l < D.N then D.fr l else k + 1
  to l := if l < D.N then (if l ∈ st then k + 1 else D.to l) else k + 1
  vec l j i := if j = k + 1 then W l i else D.vec l j i
theorem grow_ok {Z : Zg} {D : Dc} {k nb : Nat} {st : List Nat} {W : Nat → Nat → Int} (V : Valid (Z.tr k) D) (hst : ∀ l ∈ st, l < D.N ∧ D.to l = k) (hnd : st.Nodup) (hL : L.Perm (st ++ List.range' D.N nb)) (hI : Ind Z.p L.length (fun _ => true) (Z.d (k + 1)) fun t => W (L.getD t 0)) (hc : L.length = Z.d (k + 1))
    (hf : Z.back k = false → ∀ l, l < D.N → D.to l = k → ∀ i, i < Z.d (k + 1) → Cg Z.p (ap (Z.mat k) (Z.d k) (D.vec l k) i) (if l ∈ st then W l i else 0))
    (hb : Z.back k = true → (∀ l ∈ st, ∀ i, i < Z.d k → Cg Z.p (ap (Z.mat k) (Z.d (k + 1)) (W l) i) (D.vec l k i)) ∧ ∀ l, D.N ≤ l → l < D.N + nb → ∀ i, i < Z.d k → Cg Z.p (ap (Z.mat k) (Z.d (k + 1)) (W l) i) 0) :
    Valid (Z.tr (k + 1)) (D.grow k st nb W) := by
  have hends := V.ends
  have hon : ∀ j l, j ≤ k → l < D.N → (D.grow k st nb W).on j l = D.on j l := fun j l hj hl => by
    unfold Dc.on Dc.grow
    simp only [if_pos hl]
    congr 1
    by_cases hm : l ∈ st
    · rw [if_pos hm, (hst l hm).2]
      rw [decide_eq_true (show j ≤ k + 1 by omega), decide_eq_true hj]
    · rw [if_neg hm]
  have hoff : ∀ j l, j ≤ k → D.N ≤ l → (D.grow k st nb W).on j l = false := fun j l hj hl => by
    unfold Dc.on Dc.grow
    simp only [if_neg (show ¬ l < D.N by omega)]
    rw [decide_eq_false (show ¬ k + 1 ≤ j by omega)]; rfl
  have hnew : ∀ l, l < D.N + nb → ((D.grow k st nb W).on (k + 1) l = true ↔ l ∈ st ++ List.range' D.N nb) := fun l hl => by
    rw [Dc.on_iff, List.mem_append, List.mem_range'_1]
    unfold Dc.grow
    by_cases h : l < D.N
    · simp only [if_pos h]
      have he := hends l h
      by_cases hm : l ∈ st
      · simp only [if_pos hm]
        have := (hst l hm).2
        simp [hm]; omega
      · simp only [if_neg hm]
        have : (Z.tr k).n = k + 1 := rfl
        simp [hm]; omega
    · simp only [if_neg h]
      simp; omega
  have hvec : ∀ j l i, j ≤ k → (D.grow k st nb W).vec l j i = D.vec l j i := fun j l i hj => if_neg (by omega)
  have hW : ∀ l i, (D.grow k st nb W).vec l (k + 1) i = W l i := fun l i => if_pos rfl
  have hsel : L.Perm (Df (D.N + nb) ((D.grow k st nb W).on (k + 1))) := by
    refine hL.trans (FA ?_ fun l => ?_)
    · refine List.nodup_append.2 ⟨hnd, List.nodup_range', fun a ha b hb2 => ?_⟩
      have h1 := (hst a ha).1
      have h2 := List.mem_range'_1.1 hb2
      omega
    · constructor
      · intro h
        have : l < D.N + nb := by
          rcases List.mem_append.1 h with h | h
          · have := (hst l h).1; omega
          · have := List.mem_range'_1.1 h; omega
        exact ⟨this, (hnew l this).2 h⟩
      · exact fun h => (hnew l h.1).1 h.2
  refine ⟨fun l hl => ?_, fun j hj => ?_, fun j hj => ?_, fun j hj l hl ho i hi => ?_⟩
  · show (if l < D.N then D.fr l else k + 1) ≤ (if l < D.N then (if l ∈ st then k + 1 else D.to l) else k + 1) ∧ (if l < D.N then (if l ∈ st then k + 1 else D.to l) else k + 1) < k + 1 + 1
    by_cases h : l < D.N
    · have := hends l h
      have h2 : (Z.tr k).n = k + 1 := rfl
      simp only [if_pos h]
      split
      · omega
      · omega
    · simp only [if_neg h]; omega
  · have hj' : j < k + 1 + 1 := hj
    rcases (by omega : j ≤ k ∨ j = k + 1) with h | rfl
    · -- az it was
      intro c hc2 l hl hbl
      have hl' : l < D.N + nb := hl
      rcases Nat.lt_or_ge l D.N with h2 | h2
      · refine V.ind j (show j < k + 1 by omega) c (fun i hi => Cg.trans (Cg.of_eq ?_) (hc2 i hi)) l h2 (by rw [← hon j l h h2]; exact hbl)
        unfold Bj
        show sm D.N _ = sm (D.N + nb) _
        rw [El D.N nb]
        have e0 : (sm nb fun t => if (D.grow k st nb W).on j (D.N + t) then c (D.N + t) * (D.grow k st nb W).vec (D.N + t) j i else 0) = 0 := CL fun t _ => by rw [hoff j _ h (by omega)]; rfl
        rw [e0, Int.add_zero]
        exact AE fun l hl => by rw [hon j l h hl]; simp only [hvec j l i h]
      · rw [hoff j l h h2] at hbl; cases hbl
    · exact (FJ (v := fun l => W l) hsel hI).congr (fun _ _ => rfl) fun l _ _ i _ => Cg.of_eq (hW l i)
  · have hj' : j < k + 1 + 1 := hj
    rcases (by omega : j ≤ k ∨ j = k + 1) with h | rfl
    · have := V.cnt j (show j < k + 1 by omega)
      refine Eq.trans ?_ this
      show cnt (D.N + nb) _ = cnt D.N _
      have key : ∀ m, cnt (D.N + m) ((D.grow k st nb W).on j) = cnt D.N (D.on j) := fun m => by
        induction m with
        | zero => exact CC fun l hl => hon j l h hl
        | succ m ih => rw [← Nat.add_assoc, BO, hoff j _ h (by omega), ih]; rfl
      exact key nb
    · exact (H7 hsel).trans hc
  · have hj' : j + 1 < k + 1 + 1 := hj
    have hl' : l < D.N + nb := hl
    show Cg Z.p (ap (Z.mat j) (Z.d (Z.src j)) _ i) (if (D.grow k st nb W).on (Z.tgt j) l then (D.grow k st nb W).vec l (Z.tgt j) i else 0)
    have ho' : (D.grow k st nb W).on (Z.src j) l = true := ho
    have hi' : i < Z.d (Z.tgt j) := hi
    rcases (by omega : j < k ∨ j = k) with h | rfl
    · have hs : Z.src j ≤ k ∧ Z.tgt j ≤ k := by rcases Z.src_tgt j with ⟨_, _, _⟩ | ⟨_, _, _⟩ <;> omega
      rcases Nat.lt_or_ge l D.N with h2 | h2
      · rw [hon _ l hs.1 h2] at ho'
        rw [hon _ l hs.2 h2, hvec _ l i hs.2]
        refine Cg.trans (Cg.of_eq (AE fun b _ => ?_)) (V.arr j (show j + 1 < k + 1 by omega) l h2 ho' i hi')
        show Z.mat j i b * (D.grow k st nb W).vec l (Z.src j) b = _
        rw [hvec _ l b hs.1]; rfl
      · rw [hoff _ l hs.1 h2] at ho'; cases ho'
    · rcases Z.src_tgt j with ⟨e1, e2, e3⟩ | ⟨e1, e2, e3⟩
      · have e1' : (Z.tr (j + 1)).src j = j := e1
        rw [e1] at ho'
        rw [e1, e2, e1']
        rw [e2] at hi'
        rcases Nat.lt_or_ge l D.N with h2 | h2
        · rw [hon _ l (Nat.le_refl _) h2] at ho'
          have ot := (Dc.on_iff.1 ho').2
          have hlt := (hends l h2).2
          have hlt' : D.to l < j + 1 := hlt
          refine Cg.trans (Cg.of_eq (AE fun b _ => ?_)) ((hf e3 l h2 (by omega) i hi').trans (Cg.of_eq ?_))
          · rw [hvec _ l b (Nat.le_refl _)]
          · rw [hW]
            by_cases hm : l ∈ st
            · rw [if_pos hm, if_pos ((hnew l hl').2 (List.mem_append_left _ hm))]
            · rw [if_neg hm, if_neg]
              intro h3
              rcases List.mem_append.1 ((hnew l hl').1 h3) with h4 | h4
              · exact hm h4
              · have := List.mem_range'_1.1 h4; omega
        · rw [hoff _ l (Nat.le_refl _) h2] at ho'; cases ho'
      · have e1' : (Z.tr (j + 1)).src j = j + 1 := e1
        rw [e1] at ho'
        rw [e1, e2, e1']
        rw [e2] at hi'
        rcases List.mem_append.1 ((hnew l hl').1 ho') with h4 | h4
        · have h5 := hst l h4
          have h6 := hends l h5.1
          have o : D.on j l = true := Dc.on_iff.2 ⟨by omega, by omega⟩
          rw [hon j l (Nat.le_refl _) h5.1, o, hvec j l i (Nat.le_refl _)]
          refine Cg.trans (Cg.of_eq (AE fun b _ => ?_)) ((hb e3).1 l h4 i hi')
          rw [hW]
        · have h5 := List.mem_range'_1.1 h4
          rw [hoff j l (Nat.le_refl _) h5.1]
          refine Cg.trans (Cg.of_eq (AE fun b _ => ?_)) ((hb e3).2 l h5.1 h5.2 i hi')
          rw [hW]
end Go.Lin
namespace Go.Srt
open Go.Sort
variable {a m b i : Nat}
variable {α : Type} [Inhabited α]
def SwR (d0 d : Array α) (a b n : Nat) : Prop := d.size = d0.size ∧ ∀ k, d[k]! = if a ≤ k ∧ k < a + n then d0[k - a + b]! else if b ≤ k ∧ k < b + n then d0[k - b + a]! else d0[k]!
theorem SwR.start (d0 : Array α) (a b : Nat) : SwR d0 d0 a b 0 := ⟨rfl, fun k => by rw [if_neg (by omega), if_neg (by omega)]⟩
theorem SwR.step {d0 d : Array α} {n : Nat} (S : SwR d0 d a b n) (hab : a + n < b) (hb : b + n < d0.size) : SwR d0 (swp d (a + n) (b + n)) a b (n + 1) := by
  refine ⟨by rw [swp_size, S.1], fun k => ?_⟩
  rw [swp_get d (by rw [S.1]; omega) (by rw [S.1]; omega)]
  rw [S.2 (a + n), S.2 (b + n), S.2 k]
  by_cases h1 : k = b + n
  · subst h1
    rw [if_pos rfl, if_neg (by omega), if_neg (by omega), if_neg (by omega), if_pos (by omega)]
    congr 1; omega
  · by_cases h2 : k = a + n
    · subst h2
      rw [if_neg h1, if_pos rfl, if_neg (by omega), if_neg (by omega), if_pos (by omega)]
      congr 1; omega
    · rw [if_neg h1, if_neg h2]
      by_cases h3 : a ≤ k ∧ k < a + n
      · rw [if_pos h3, if_pos (by omega)]
      · rw [if_neg h3]
        by_cases h4 : b ≤ k ∧ k < b + n
        · rw [if_pos h4, if_neg (by omega), if_pos (by omega)]
        · rw [if_neg h4, if_neg (by omega), if_neg (by omega)]
def EZ (d : Array α) (a m b k : Nat) : α := if a ≤ k ∧ k < b then if k < a + (b - m) then d[k + (m - a)]! else d[k - (b - m)]! else d[k]!
theorem QZ {d d' : Array α} {j : Nat} (hi : i ≤ m) (hj : j < i) (S : SwR d d' (m - i) m j) (k : Nat) : EZ d' (m - (i - j)) m (m + j) k = EZ d (m - i) m (m + j) k := by
  unfold EZ
  rw [S.2 (k + (m - (m - (i - j)))), S.2 (k - (m + j - m)), S.2 k]
  repeat' split
  all_goals first | omega | (congr 1 <;> omega)
theorem M5 {d d' : Array α} {j : Nat} (hi : i ≤ m) (hj : i < j) (S : SwR d d' (m - i) (m + j - i) i) (k : Nat) : EZ d' (m - i) m (m + (j - i)) k = EZ d (m - i) m (m + j) k := by
  unfold EZ
  rw [S.2 (k + (m - (m - i))), S.2 (k - (m + (j - i) - m)), S.2 k]
  repeat' split
  all_goals first | omega | (congr 1 <;> omega)
theorem PM {d d' : Array α} (hi : i ≤ m) (S : SwR d d' (m - i) m i) (k : Nat) : d'[k]! = EZ d (m - i) m (m + i) k := by
  unfold EZ
  rw [S.2 k]
  repeat' split
  all_goals first | omega | (congr 1 <;> omega)
theorem Js {d : Array α} (h : m = a ∨ b = m) (k : Nat) : EZ d a m b k = d[k]! := by
  unfold EZ
  repeat' split
  all_goals first | omega | (congr 1 <;> omega)
variable {lt : α → α → Bool}
def InsR (d0 d : Array α) (a t : Nat) : Prop := d.size = d0.size ∧ ∀ k, d[k]! = if a ≤ k ∧ k < t then d0[k + 1]! else if k = t then d0[a]! else d0[k]!
theorem InsR.start (d0 : Array α) (a : Nat) : InsR d0 d0 a a := ⟨rfl, fun k => by
  rw [if_neg (by omega)]; split
  · rename_i h; rw [h]
  · rfl⟩
theorem InsR.step {d0 d : Array α} {t : Nat} (S : InsR d0 d a t) (hat : a ≤ t) (ht : t + 1 < d0.size) : InsR d0 (swp d t (t + 1)) a (t + 1) := by
  refine ⟨by rw [swp_size, S.1], fun k => ?_⟩
  rw [swp_get d (by rw [S.1]; omega) (by rw [S.1]; omega), S.2 t, S.2 (t + 1), S.2 k]
  by_cases h1 : k = t + 1
  · subst h1
    rw [if_pos rfl, if_neg (by omega), if_pos rfl, if_neg (by omega), if_pos rfl]
  · by_cases h2 : k = t
    · subst h2
      rw [if_neg h1, if_pos rfl, if_neg (by omega), if_neg (by omega), if_pos (by omega)]
    · rw [if_neg h1, if_neg h2]
      by_cases h3 : a ≤ k ∧ k < t
      · rw [if_pos h3, if_pos (by omega)]
      · rw [if_neg h3, if_neg h2, if_neg (by omega), if_neg h1]
theorem Mg (hO : SWO lt) {d0 d : Array α} (hS : SortedIn lt (a + 1) b d0) (hi : a + 1 ≤ i ∧ i ≤ b) (h1 : i = a + 1 ∨ lt d0[i - 1]! d0[a]! = true) (h2 : i = b ∨ lt d0[i]! d0[a]! = false) (R : InsR d0 d a (i - 1)) : SortedIn lt a b d := by
  have lo : ∀ k, a + 1 ≤ k → k < i → lt d0[a]! d0[k]! = false := fun k h3 h4 => by
    rcases h1 with h1 | h1
    · omega
    · have h5 := hO.asymmA h1
      rcases (by omega : k = i - 1 ∨ k < i - 1) with rfl | h6
      · exact h5
      · exact hO.ntrans _ _ _ h5 (hS k (i - 1) h3 h6 (by omega))
  have hi' : ∀ k, i ≤ k → k < b → lt d0[k]! d0[a]! = false := fun k h3 h4 => by
    rcases h2 with h2 | h2
    · omega
    · rcases (by omega : k = i ∨ i < k) with rfl | h6
      · exact h2
      · exact hO.ntrans _ _ _ (hS i k (by omega) h6 h4) h2
  intro x y hx hxy hy
  rw [R.2 x, R.2 y]
  by_cases hy1 : y < i - 1
  · rw [if_pos (by omega), if_pos (by omega)]
    exact hS _ _ (by omega) (by omega) (by omega)
  · by_cases hy2 : y = i - 1
    · rw [if_neg (by omega), if_pos hy2, if_pos (by omega)]
      exact lo _ (by omega) (by omega)
    · rw [if_neg (by omega), if_neg hy2]
      by_cases hx1 : x < i - 1
      · rw [if_pos (by omega)]
        exact hS _ _ (by omega) (by omega) (by omega)
      · by_cases hx2 : x = i - 1
        · rw [if_neg (by omega), if_pos hx2]
          exact hi' _ (by omega) hy
        · rw [if_neg (by omega), if_neg hx2]
          exact hS _ _ (by omega) (by omega) (by omega)
def ShR (d0 d : Array α) (m t : Nat) : Prop := d.size = d0.size ∧ ∀ k, d[k]! = if t < k ∧ k ≤ m then d0[k - 1]! else if k = t then d0[m]! else d0[k]!
theorem ShR.start (d0 : Array α) (m : Nat) : ShR d0 d0 m m := ⟨rfl, fun k => by
  rw [if_neg (by omega)]; split
  · rename_i h; rw [h]
  · rfl⟩
theorem ShR.step {d0 d : Array α} {t : Nat} (S : ShR d0 d m (t + 1)) (ht : t + 1 ≤ m) (hm : m < d0.size) : ShR d0 (swp d (t + 1) t) m t := by
  refine ⟨by rw [swp_size, S.1], fun k => ?_⟩
  rw [swp_get d (by rw [S.1]; omega) (by rw [S.1]; omega), S.2 t, S.2 (t + 1), S.2 k]
  by_cases h1 : k = t
  · subst h1
    rw [if_pos rfl, if_neg (by omega), if_pos rfl, if_neg (by omega), if_pos rfl]
  · by_cases h2 : k = t + 1
    · subst h2
      rw [if_neg h1, if_pos rfl, if_neg (by omega), if_neg (by omega), if_pos (by omega)]
      rfl
    · rw [if_neg h1, if_neg h2]
      by_cases h3 : t + 1 < k ∧ k ≤ m
      · rw [if_pos h3, if_pos (by omega)]
      · rw [if_neg h3, if_neg h2, if_neg (by omega), if_neg h1]
theorem OH (hO : SWO lt) {d0 d : Array α} (hS : SortedIn lt a m d0) (hi : a ≤ i ∧ i ≤ m) (h1 : i = a ∨ lt d0[m]! d0[i - 1]! = false) (h2 : i = m ∨ lt d0[m]! d0[i]! = true) (R : ShR d0 d m i) : SortedIn lt a (m + 1) d := by
  have lo : ∀ k, a ≤ k → k < i → lt d0[m]! d0[k]! = false := fun k h3 h4 => by
    rcases h1 with h1 | h1
    · omega
    · rcases (by omega : k = i - 1 ∨ k < i - 1) with rfl | h6
      · exact h1
      · exact hO.ntrans _ _ _ h1 (hS k (i - 1) h3 h6 (by omega))
  have hi' : ∀ k, i ≤ k → k < m → lt d0[k]! d0[m]! = false := fun k h3 h4 => by
    rcases h2 with h2 | h2
    · omega
    · have h5 := hO.asymmA h2
      rcases (by omega : k = i ∨ i < k) with rfl | h6
      · exact h5
      · exact hO.ntrans _ _ _ (hS i k (by omega) h6 h4) h5
  intro x y hx hxy hy
  rw [R.2 x, R.2 y]
  by_cases hy1 : i < y
  · rw [if_pos (by omega)]
    by_cases hx1 : i < x
    · rw [if_pos (by omega)]
      exact hS _ _ (by omega) (by omega) (by omega)
    · by_cases hx2 : x = i
      · rw [if_neg (by omega), if_pos hx2]
        exact hi' _ (by omega) (by omega)
      · rw [if_neg (by omega), if_neg hx2]
        rcases (by omega : x < y - 1 ∨ x = y - 1) with h | h
        · exact hS _ _ (by omega) h (by omega)
        · omega
  · by_cases hy2 : y = i
    · rw [if_neg (by omega), if_pos hy2, if_neg (by omega), if_neg (by omega)]
      exact lo _ hx (by omega)
    · rw [if_neg (by omega), if_neg hy2, if_neg (by omega), if_neg (by omega)]
      exact hS _ _ hx hxy (by omega)
structure WK (lt : α → α → Bool) (d0 d : Array α) (a start mid e m b : Nat) : Prop where
  lo : SortedIn lt a start d
  lo2 : SortedIn lt start mid d
  hi : SortedIn lt mid e d
  hi2 : SortedIn lt e b d
  cross : ∀ x y, a ≤ x → x < mid → mid ≤ y → y < b → lt d[y]! d[x]! = false
theorem Vx (hO : SWO lt) {d0 d : Array α} {start mid e : Nat} (hA : SortedIn lt a m d0) (hB : SortedIn lt m b d0) (h1 : a ≤ start ∧ start ≤ m ∧ start ≤ mid ∧ m ≤ e ∧ e ≤ b) (h2 : start + e = mid + m)
    (hR : ∀ k, d[k]! = EZ d0 start m e k)
    (c1 : start = a ∨ e = b ∨ lt d0[e]! d0[start - 1]! = false) (c2 : start = m ∨ e = m ∨ lt d0[e - 1]! d0[start]! = true) : WK lt d0 d a start mid e m b := by
  have g1 : ∀ k, k < start → d[k]! = d0[k]! := fun k h => by rw [hR]; unfold EZ; rw [if_neg (by omega)]
  have g2 : ∀ k, start ≤ k → k < mid → d[k]! = d0[k + (m - start)]! := fun k h h' => by rw [hR]; unfold EZ; rw [if_pos (by omega), if_pos (by omega)]
  have g3 : ∀ k, mid ≤ k → k < e → d[k]! = d0[k - (e - m)]! := fun k h h' => by rw [hR]; unfold EZ; rw [if_pos (by omega), if_neg (by omega)]
  have g4 : ∀ k, e ≤ k → d[k]! = d0[k]! := fun k h => by rw [hR]; unfold EZ; rw [if_neg (by omega)]
  -- the four pieces, of the former
  have ab2 : ∀ x y, a ≤ x → x < start → e ≤ y → y < b → lt d0[y]! d0[x]! = false := fun x y hx hx' hy hy' => by
    rcases c1 with c | c | c
    · omega
    · omega
    · have k1 : lt d0[y]! d0[e]! = false := by
        rcases (by omega : y = e ∨ e < y) with rfl | h
        · exact hO.irrefl _
        · exact hB _ _ (by omega) h hy'
      have k2 : lt d0[start - 1]! d0[x]! = false := by
        rcases (by omega : x = start - 1 ∨ x < start - 1) with rfl | h
        · exact hO.irrefl _
        · exact hA _ _ hx h (by omega)
      exact hO.ntrans _ _ _ (hO.ntrans _ _ _ k1 c) k2
  have ba2 : ∀ x y, m ≤ x → x < e → start ≤ y → y < m → lt d0[y]! d0[x]! = false := fun x y hx hx' hy hy' => by
    rcases c2 with c | c | c
    · omega
    · omega
    · have k0 := hO.asymmA c
      have k1 : lt d0[y]! d0[start]! = false := by
        rcases (by omega : y = start ∨ start < y) with rfl | h
        · exact hO.irrefl _
        · exact hA _ _ (by omega) h hy'
      have k2 : lt d0[e - 1]! d0[x]! = false := by
        rcases (by omega : x = e - 1 ∨ x < e - 1) with rfl | h
        · exact hO.irrefl _
        · exact hB _ _ hx h (by omega)
      exact hO.ntrans _ _ _ (hO.ntrans _ _ _ k1 k0) k2
  refine ⟨fun x y hx hxy hy => ?_, fun x y hx hxy hy => ?_, fun x y hx hxy hy => ?_, fun x y hx hxy hy => ?_, fun x y hx hxm hy hyb => ?_⟩
  · rw [g1 x (by omega), g1 y (by omega)]; exact hA _ _ hx hxy (by omega)
  · rw [g2 x hx (by omega), g2 y (by omega) hy]; exact hB _ _ (by omega) (by omega) (by omega)
  · rw [g3 x hx (by omega), g3 y (by omega) hy]; exact hA _ _ (by omega) (by omega) (by omega)
  · rw [g4 x hx, g4 y (by omega)]; exact hB _ _ (by omega) hxy hy
  · rcases Nat.lt_or_ge x start with h3 | h3 <;> rcases Nat.lt_or_ge y e with h4 | h4
    · rw [g1 x h3, g3 y hy h4]; exact hA _ _ hx (by omega) (by omega)
    · rw [g1 x h3, g4 y h4]; exact ab2 _ _ hx h3 h4 hyb
    · rw [g2 x h3 hxm, g3 y hy h4]; exact ba2 _ _ (by omega) (by omega) (by omega) (by omega)
    · rw [g2 x h3 hxm, g4 y h4]; exact hB _ _ (by omega) (by omega) hyb
theorem Q3 {d0 d d2 d3 : Array α} {start mid e : Nat} (C : WK lt d0 d a start mid e m b) (hb : b ≤ d.size) (hm : a ≤ mid ∧ mid ≤ b) (p1 : PermIn a mid d d2) (s1 : SortedIn lt a mid d2) (p2 : PermIn mid b d2 d3) (s2 : SortedIn lt mid b d3) : SortedIn lt a b d3 := by
  have q1 : ∀ x, a ≤ x → x < mid → ∀ y, mid ≤ y → y < b → lt d[y]! d2[x]! = false := fun x hx hx' y hy hy' =>
    permIn_all d d2 a mid (fun v => lt d[y]! v = false) (by omega) p1 (fun i h1 h2 => C.cross i y h1 h2 hy hy') x hx hx'
  have q2 : ∀ y, mid ≤ y → y < b → ∀ x, a ≤ x → x < mid → lt d3[y]! d2[x]! = false := fun y hy hy' x hx hx' =>
    permIn_all d2 d3 mid b (fun v => lt v d2[x]! = false) (by rw [p1.1]; exact hb) p2 (fun i h1 h2 => by rw [p1.2.1 i (.inr h1)]; exact q1 x hx hx' i h1 h2) y hy hy'
  intro x y hx hxy hy
  rcases Nat.lt_or_ge y mid with h1 | h1
  · rw [p2.2.1 x (.inl (by omega)), p2.2.1 y (.inl h1)]; exact s1 _ _ hx hxy h1
  · rcases Nat.lt_or_ge x mid with h2 | h2
    · rw [p2.2.1 x (.inl h2)]; exact q2 y h1 hy x hx h2
    · exact s2 _ _ h2 hxy hy
theorem CI {d d' : Array α} (h : SortedIn lt a b d) (e : ∀ k, a ≤ k → k < b → d'[k]! = d[k]!) : SortedIn lt a b d' := fun x y hx hxy hy => by
  rw [e x hx (by omega), e y (by omega) hy]; exact h x y hx hxy hy
end Go.Srt
namespace Go.Lin
variable {Z : Zg} {n : Nat} {b : Nat → Bool}
def Dc.cv (D : Dc) (a b l : Nat) : Bool := decide (D.fr l < a) && decide (b ≤ D.to l)
def Dc.en (D : Dc) (i j l : Nat) : Bool := decide (D.fr l = i) && decide (D.to l = j)
theorem Sq (D : Dc) (i j : Nat) (hij : i ≤ j) : cnt D.N (D.en i j) + cnt D.N (D.cv i j) + cnt D.N (D.cv (i + 1) (j + 1)) = cnt D.N (D.cv (i + 1) j) + cnt D.N (D.cv i (j + 1)) := by
  have key : ∀ n, cnt n (D.en i j) + cnt n (D.cv i j) + cnt n (D.cv (i + 1) (j + 1)) = cnt n (D.cv (i + 1) j) + cnt n (D.cv i (j + 1)) := fun n => by
    induction n with
    | zero => rfl
    | succ n ih =>
      rw [BO, BO, BO, BO, BO]
      have : (if D.en i j n then 1 else 0) + (if D.cv i j n then 1 else 0) + (if D.cv (i + 1) (j + 1) n then 1 else 0) = (if D.cv (i + 1) j n then 1 else 0) + (if D.cv i (j + 1) n then 1 else 0) := by
        unfold Dc.en Dc.cv
        simp only [Bool.and_eq_true, decide_eq_true_eq]
        split <;> split <;> split <;> split <;> split <;> omega
      omega
  exact key D.N
theorem DT (h : ∀ l, l < n → b l = false) : cnt n b = 0 := by
  induction n with
  | zero => rfl
  | succ n ih => rw [BO, ih fun l hl => h l (by omega), h n (by omega)]; rfl
theorem FV (F : Fld Z.p) {D D' : Dc} (V : Valid Z D) (V' : Valid Z D') {a b : Nat} (hab : a ≤ b + 1) : cnt D.N (D.cv a b) = cnt D'.N (D'.cv a b) := by
  rcases Nat.eq_zero_or_pos a with rfl | ha
  · rw [DT fun l _ => by simp [Dc.cv], DT fun l _ => by simp [Dc.cv]]
  · by_cases hb : b < Z.n
    · have e : ∀ D : Dc, D.cv a b = D.cov (a - 1) b := fun D => funext fun l => by
        unfold Dc.cv Dc.cov
        congr 1
        exact decide_eq_decide.2 (by omega)
      rw [e, e]
      exact G8 F V V' (by omega) hb
    · have e : ∀ D : Dc, Valid Z D → cnt D.N (D.cv a b) = 0 := fun D V => DT fun l hl => by
        have := (V.ends l hl).2
        unfold Dc.cv
        rw [decide_eq_false (show ¬ b ≤ D.to l by omega)]; simp
      rw [e D V, e D' V']
theorem O8 (F : Fld Z.p) {D D' : Dc} (V : Valid Z D) (V' : Valid Z D') (i j : Nat) : cnt D.N (D.en i j) = cnt D'.N (D'.en i j) := by
  by_cases hij : i ≤ j
  · have h := Sq D i j hij
    have h' := Sq D' i j hij
    rw [FV F V V' (by omega), FV F V V' (by omega), FV F V V' (by omega), FV F V V' (by omega)] at h
    omega
  · have e : ∀ D : Dc, Valid Z D → cnt D.N (D.en i j) = 0 := fun D V => DT fun l hl => by
      have := (V.ends l hl).1
      unfold Dc.en
      rw [Bool.and_eq_false_iff, decide_eq_false_iff_not, decide_eq_false_iff_not]; omega
    rw [e D V, e D' V']
def Dc.ct (D : Dc) (a : Int × Int) : Nat := cnt D.N fun l => decide (((D.fr l : Int), (D.to l : Int)) = a)
theorem M6 (D : Dc) (i j : Nat) : D.ct (i, j) = cnt D.N (D.en i j) := CC fun l _ => by
  unfold Dc.en
  rw [← Bool.decide_and]
  refine decide_eq_decide.2 ?_
  rw [Prod.mk.injEq]
  omega
theorem PL {D : Dc} {a : Int × Int} (h : a.1 < 0 ∨ a.2 < 0) : D.ct a = 0 := DT fun l _ => decide_eq_false fun e => by
  subst e
  simp only at h
  omega
theorem Jt (F : Fld Z.p) {D D' : Dc} (V : Valid Z D) (V' : Valid Z D') (a : Int × Int) : D.ct a = D'.ct a := by
  by_cases h : a.1 < 0 ∨ a.2 < 0
  · rw [PL h, PL h]
  · obtain ⟨x, y⟩ := a
    simp only at h
    obtain ⟨i, rfl⟩ := Int.eq_ofNat_of_zero_le (show 0 ≤ x by omega)
    obtain ⟨j, rfl⟩ := Int.eq_ofNat_of_zero_le (show 0 ≤ y by omega)
    have := O8 F V V' i j
    rw [← M6, ← M6] at this
    exact this
theorem Ma {D : Dc} {L : List Nat} {f : Nat → Int × Int} (hp : L.Perm (List.range D.N)) (hf : ∀ k, k < D.N → f k = ((D.fr k : Int), (D.to k : Int))) (a : Int × Int) : (L.map f).count a = D.ct a := by
  rw [(hp.map f).count_eq]
  unfold Dc.ct
  have key : ∀ n, n ≤ D.N → ((List.range n).map f).count a = cnt n fun l => decide (((D.fr l : Int), (D.to l : Int)) = a) := fun n => by
    induction n with
    | zero => intro _; rfl
    | succ n ih =>
      intro hn
      rw [List.range_succ, List.map_append, List.count_append, ih (by omega), BO]
      congr 1
      rw [← hf n (by omega)]
      by_cases h : f n = a
      · simp [h]
      · simp [h]
  exact key D.N (Nat.le_refl _)
theorem Lp {p : Int} {d : Nat} {v : Nat → Nat → Int} (u : Nat → Nat → Int) (h : ∀ l, l < n → b l = true → ∀ l', l' < n → b l' = true → Cg p (sm d fun i => u l i * v l' i) (if l' = l then 1 else 0)) : Ind p n b d v := by
  intro c hc l hl hb
  have h1 : Cg p (sm d fun i => u l i * Bj n b c v i) (sm d fun i => u l i * 0) := Cg.sm fun i hi => (Cg.refl p _).mul (hc i hi)
  rw [CL (f := fun i => u l i * 0) fun i _ => Int.mul_zero _] at h1
  have e : (sm d fun i => u l i * Bj n b c v i) = sm n fun l' => if b l' then c l' * sm d (fun i => u l i * v l' i) else 0 := by
    unfold Bj
    rw [AE (g := fun i => sm n fun l' => u l i * (if b l' then c l' * v l' i else 0)) fun i _ => (Cb _ _ _).symm, D9]
    refine AE fun l' _ => ?_
    cases b l' with
    | false => simp [CS]
    | true =>
      simp only [if_true]
      rw [← Cb]
      exact AE fun i _ => by rw [← Int.mul_assoc, Int.mul_comm (u l i), Int.mul_assoc]
  rw [e] at h1
  have h2 : Cg p (sm n fun l' => if b l' then c l' * sm d (fun i => u l i * v l' i) else 0) (sm n fun l' => if l' = l then c l' else 0) := Cg.sm fun l' hl' => by
    cases hb' : b l' with
    | false =>
      have : l' ≠ l := fun e => by subst e; rw [hb] at hb'; cases hb'
      simp [this, Cg.refl]
    | true =>
      have := (Cg.refl p (c l')).mul (h l hl hb l' hl' hb')
      by_cases e : l' = l
      · subst e; simpa using this
      · simpa [e] using this
  rw [DP n l c hl] at h2
  have := h2.symm.trans h1
  unfold Cg at this
  rwa [Int.sub_zero] at this
def all (n : Nat) (b : Nat → Bool) : Bool := (List.range n).all b
theorem T1 : all n b = true ↔ ∀ i, i < n → b i = true := by simp [all]
def Mr (Z : Zg) (D : Dc) (U : Nat → Nat → Nat → Int) : Bool :=
  all D.N (fun l => decide (D.fr l ≤ D.to l) && decide (D.to l < Z.n)) &&
  all Z.n (fun k => all D.N (fun l => !D.on k l || all D.N fun l' => !D.on k l' || decide ((sm (Z.d k) fun i => U k l i * D.vec l' k i) % Z.p = (if l' = l then 1 else 0) % Z.p))) &&
  all Z.n (fun k => decide (cnt D.N (D.on k) = Z.d k)) &&
  all (Z.n - 1) (fun k => all D.N fun l => !D.on (Z.src k) l || all (Z.d (Z.tgt k)) fun i => decide (ap (Z.mat k) (Z.d (Z.src k)) (D.vec l (Z.src k)) i % Z.p = (if D.on (Z.tgt k) l then D.vec l (Z.tgt k) i else 0) % Z.p))
theorem OD {D : Dc} (U : Nat → Nat → Nat → Int) (h : Mr Z D U = true) : Valid Z D := by
  unfold Mr at h
  simp only [Bool.and_eq_true, T1, Bool.or_eq_true, Bool.not_eq_true', decide_eq_true_eq] at h
  obtain ⟨⟨⟨h1, h2⟩, h3⟩, h4⟩ := h
  refine ⟨h1, fun k hk => Lp (U k) fun l hl hb l' hl' hb' => Cg.iff_mod.2 ?_, h3, fun k hk l hl ho i hi => Cg.iff_mod.2 ?_⟩
  · rcases h2 k hk l hl with e | e
    · rw [hb] at e; cases e
    · rcases e l' hl' with e | e
      · rw [hb'] at e; cases e
      · exact e
  · rcases h4 k (by omega) l hl with e | e
    · rw [ho] at e; cases e
    · exact e i hi
end Go.Lin
namespace Go.Lin
def Zg.rev (Z : Zg) : Zg where
  p := Z.p
  n := Z.n
  d k := Z.d (Z.n - 1 - k)
  back k := !Z.back (Z.n - 2 - k)
  mat k := Z.mat (Z.n - 2 - k)
def Dc.rev (D : Dc) (n : Nat) : Dc where
  N := D.N
  fr l := n - 1 - D.to l
  to l := n - 1 - D.fr l
  vec l k := D.vec l (n - 1 - k)
theorem VB {Z : Zg} {D : Dc} (V : Valid Z D) : Valid Z.rev (D.rev Z.n) := by
  have hon : ∀ k, k < Z.n → ∀ l, l < D.N → (D.rev Z.n).on k l = D.on (Z.n - 1 - k) l := fun k hk l hl => by
    have h := V.ends l hl
    rw [Bool.eq_iff_iff, Dc.on_iff, Dc.on_iff]
    show Z.n - 1 - D.to l ≤ k ∧ k ≤ Z.n - 1 - D.fr l ↔ _
    omega
  refine ⟨fun l hl => ?_, fun k hk => ?_, fun k hk => ?_, fun k hk l hl ho i hi => ?_⟩
  · have h := V.ends l hl
    show Z.n - 1 - D.to l ≤ Z.n - 1 - D.fr l ∧ Z.n - 1 - D.fr l < Z.n
    omega
  · have hk' : k < Z.n := hk
    exact (V.ind (Z.n - 1 - k) (by omega)).congr (fun l hl => (hon k hk' l hl).symm) fun l hl _ i _ => Cg.refl _ _
  · have hk' : k < Z.n := hk
    exact (CC fun l hl => hon k hk' l hl).trans (V.cnt _ (by omega))
  · have hk' : k + 1 < Z.n := hk
    have e : Z.n - 1 - Z.rev.src k = Z.src (Z.n - 2 - k) ∧ Z.n - 1 - Z.rev.tgt k = Z.tgt (Z.n - 2 - k) ∧ Z.rev.src k < Z.n ∧ Z.rev.tgt k < Z.n := by
      have h1 : Z.rev.back k = !Z.back (Z.n - 2 - k) := rfl
      rcases Z.src_tgt (Z.n - 2 - k) with ⟨e1, e2, e3⟩ | ⟨e1, e2, e3⟩ <;> rcases Z.rev.src_tgt k with ⟨f1, f2, f3⟩ | ⟨f1, f2, f3⟩
      · rw [h1, e3] at f3; cases f3
      · omega
      · omega
      · rw [h1, e3] at f3; cases f3
    obtain ⟨e1, e2, e3, e4⟩ := e
    rw [hon _ e3 l hl, e1] at ho
    rw [hon _ e4 l hl, e2]
    have hi' : i < Z.d (Z.n - 1 - Z.rev.tgt k) := hi
    rw [e2] at hi'
    have h := V.arr (Z.n - 2 - k) (by omega) l hl ho i hi'
    show Cg Z.p (ap (Z.mat (Z.n - 2 - k)) (Z.d (Z.n - 1 - Z.rev.src k)) (D.vec l (Z.n - 1 - Z.rev.src k)) i) (if D.on (Z.tgt (Z.n - 2 - k)) l then D.vec l (Z.n - 1 - Z.rev.tgt k) i else 0)
    rw [e1, e2]
    exact h
theorem UE {Z : Zg} {D : Dc} (V : Valid Z D) (a : Int × Int) : (D.rev Z.n).ct a = D.ct ((Z.n : Int) - 1 - a.2, (Z.n : Int) - 1 - a.1) := CC fun l hl => by
  have h := V.ends l hl
  refine decide_eq_decide.2 ?_
  obtain ⟨x, y⟩ := a
  show ((((Z.n - 1 - D.to l : Nat) : Int), ((Z.n - 1 - D.fr l : Nat) : Int)) = (x, y)) ↔ (((D.fr l : Int), (D.to l : Int)) = ((Z.n : Int) - 1 - y, (Z.n : Int) - 1 - x))
  rw [Prod.mk.injEq, Prod.mk.injEq]
  omega
theorem SX {p : Int} {n d : Nat} {b : Nat → Bool} {v : Nat → Nat → Int} {L : List Nat} (hn : L.Nodup) (hL : ∀ l ∈ L, l < n) (hb : ∀ l, l < n → b l = true → l ∈ L) : (Ind p n b d v → Ind p L.length (fun t => b (L.getD t 0)) d fun t => v (L.getD t 0)) ∧ cnt L.length (fun t => b (L.getD t 0)) = cnt n b := by
  have hat : ∀ t, t < L.length → ∃ h : t < L.length, L.getD t 0 = L[t] := fun t ht => ⟨ht, by simp [List.getD, ht]⟩
  have hP : ((Df L.length fun t => b (L.getD t 0)).map fun t => L.getD t 0).Perm (Df n b) := by
    refine FA ?_ fun l => ?_
    · refine List.pairwise_map.2 ((EN _ _).imp_of_mem fun {s t} hs ht hne e => hne ?_)
      obtain ⟨h1, e1⟩ := hat s (mem_sel.1 hs).1
      obtain ⟨h2, e2⟩ := hat t (mem_sel.1 ht).1
      rw [e1, e2] at e
      exact (List.getElem_inj hn).1 e
    · rw [List.mem_map]
      constructor
      · rintro ⟨t, ht, rfl⟩
        obtain ⟨h1, h2⟩ := mem_sel.1 ht
        obtain ⟨h3, e⟩ := hat t h1
        exact ⟨hL _ (e ▸ List.getElem_mem h3), h2⟩
      · rintro ⟨h1, h2⟩
        obtain ⟨t, ht, e⟩ := List.mem_iff_getElem.1 (hb l h1 h2)
        obtain ⟨h3, e3⟩ := hat t ht
        exact ⟨t, mem_sel.2 ⟨ht, by rw [e3, e]; exact h2⟩, by rw [e3, e]⟩
  refine ⟨fun hI => ?_, ?_⟩
  · have h1 := FB hP hI
    refine FJ (L := Df L.length fun t => b (L.getD t 0)) (List.Perm.refl _) ?_
    rw [List.length_map] at h1
    exact h1.congr (fun _ _ => rfl) fun t ht _ i _ => Cg.of_eq (by
      have e : ((Df L.length fun t => b (L.getD t 0)).map fun t => L.getD t 0).getD t 0 = L.getD ((Df L.length fun t => b (L.getD t 0)).getD t 0) 0 := by
        have g : ∀ (l : List Nat) (h : t < l.length), l.getD t 0 = l[t] := fun l h => by simp [List.getD, h]
        rw [g _ (by rw [List.length_map]; exact ht), List.getElem_map, g (Df L.length fun t => b (L.getD t 0)) ht]
      rw [e])
  · have := hP.length_eq
    rw [List.length_map] at this
    exact this
theorem Mp {Z : Zg} {D D' : Dc} {L : List Nat} (V : Valid Z D) (hL : L.Perm (List.range D.N)) (hN : D'.N = L.length) (hf : ∀ t, t < L.length → D'.fr t = D.fr (L.getD t 0) ∧ D'.to t = D.to (L.getD t 0)) (hv : ∀ t, t < L.length → ∀ k, D'.on k t = true → ∀ i, i < Z.d k → D'.vec t k i = D.vec (L.getD t 0) k i) : Valid Z D' := by
  have hm : ∀ t, t < L.length → L.getD t 0 < D.N := fun t ht => by
    have : L.getD t 0 ∈ L := by simp [List.getD, ht]
    exact List.mem_range.1 (hL.mem_iff.1 this)
  have hon : ∀ k t, t < L.length → D.on k (L.getD t 0) = D'.on k t := fun k t ht => by unfold Dc.on; rw [(hf t ht).1, (hf t ht).2]
  have hpk : ∀ k, _ := fun k => SX (p := Z.p) (d := Z.d k) (b := D.on k) (v := fun l => D.vec l k) (hL.nodup_iff.2 List.nodup_range) (fun l hl => List.mem_range.1 (hL.mem_iff.1 hl)) fun l hl _ => hL.mem_iff.2 (List.mem_range.2 hl)
  refine ⟨fun t ht => ?_, fun k hk => ?_, fun k hk => ?_, fun k hk t ht ho i hi => ?_⟩
  · rw [hN] at ht
    rw [(hf t ht).1, (hf t ht).2]
    exact V.ends _ (hm t ht)
  · rw [hN]
    exact ((hpk k).1 (V.ind k hk)).congr (fun t ht => hon k t ht) fun t ht hb i hi => Cg.of_eq (hv t ht k (by rw [← hon k t ht]; exact hb) i hi)
  · rw [hN]
    exact (CC fun t ht => (hon k t ht).symm).trans ((hpk k).2.trans (V.cnt k hk))
  · rw [hN] at ht
    have h1 := V.arr k hk _ (hm t ht) (by rw [hon _ t ht]; exact ho) i hi
    have h2 : ap (Z.mat k) (Z.d (Z.src k)) (D'.vec t (Z.src k)) i = ap (Z.mat k) (Z.d (Z.src k)) (D.vec (L.getD t 0) (Z.src k)) i := AE fun j hj => by rw [hv t ht _ ho j hj]
    rw [h2]
    rw [hon _ t ht] at h1
    cases h3 : D'.on (Z.tgt k) t with
    | false => rw [h3] at h1; exact h1
    | true => rw [h3] at h1; simp only [if_true] at h1 ⊢; rw [hv t ht _ h3 i hi]; exact h1
def blk (m n : Nat) (A B : Nat → Nat → Int) (i j : Nat) : Int := if i < m then (if j < n then A i j else 0) else (if j < n then 0 else B (i - m) (j - n))
end Go.Lin
namespace Go.Eng
open Go.RowKit
abbrev Hp := Nat → Option Obj
abbrev Ay := List (Nat × Value)
def Hp.le (h h' : Hp) : Prop := ∀ g o, h g = some o → h' g = some o
def Hp.inW (h : Hp) (w : World) : Prop := ∀ g o, h g = some o → w.heap[g]? = some o
def Hp.emp : Hp := fun _ => none
def Hp.one (g : Nat) (o : Obj) : Hp := fun k => if k = g then some o else none
def Hp.disj (m m' : Hp) : Prop := ∀ g, m g = none ∨ m' g = none
def Hp.join (h m : Hp) : Hp := fun g => match h g with | some o => some o | none => m g
theorem Hp.le_refl (h : Hp) : h.le h := fun _ _ e => e
theorem Hp.le_trans {a b c : Hp} (h : a.le b) (k : b.le c) : a.le c := fun g o e => k g o (h g o e)
theorem Hp.le_join (h m : Hp) : h.le (h.join m) := fun g o e => by simp [Hp.join, e]
theorem Hp.join_le_right {h m : Hp} (d : m.disj h) : m.le (h.join m) := fun g o e => by
  rcases d g with h1 | h1
  · rw [h1] at e; cases e
  · simp [Hp.join, h1, e]
theorem Hp.disj_symm {m m' : Hp} (h : m.disj m') : m'.disj m := fun g => (h g).symm
theorem Hp.one_self (g : Nat) (o : Obj) : Hp.one g o g = some o := by simp [Hp.one]
theorem Hp.one_some {g k : Nat} {o o' : Obj} (h : Hp.one g o k = some o') : k = g ∧ o' = o := by
  unfold Hp.one at h; split at h
  · exact ⟨by assumption, by cases h; rfl⟩
  · cases h
theorem Hp.one_ne {g k : Nat} {o : Obj} (h : k ≠ g) : Hp.one g o k = none := by simp [Hp.one, h]
theorem Hp.inW_lt {h : Hp} {w : World} (hw : h.inW w) {g : Nat} {o : Obj} (e : h g = some o) : g < w.heap.size :=
  (Array.getElem?_eq_some_iff.1 (hw g o e)).1
theorem Hp.inW_none {h : Hp} {w : World} (hw : h.inW w) {g : Nat} (e : w.heap.size ≤ g) : h g = none := by
  cases hg : h g with
  | none => rfl
  | some o => have := Hp.inW_lt hw hg; omega
theorem Hp.ne_none {h : Hp} {g : Nat} (e : h g ≠ none) : ∃ o, h g = some o := by
  cases hg : h g with
  | none => exact absurd hg e
  | some o => exact ⟨o, rfl⟩
structure St (w : World) (h : Hp) (ms : List Hp) : Prop where
  imm : h.inW w
  own : ∀ m ∈ ms, m.inW w
  off : ∀ m ∈ ms, m.disj h
  apart : ms.Pairwise Hp.disj
structure TL (w0 w : World) : Prop where
  tape : w.tape = w0.tape
  drawn : w0.drawn ≤ w.drawn
theorem TL.refl (w : World) : TL w w := ⟨rfl, Nat.le_refl _⟩
theorem TL.trans {a b c : World} (h : TL b c) (k : TL a b) : TL a c := ⟨h.tape.trans k.tape, Nat.le_trans k.drawn h.drawn⟩
structure Ext (w w' : World) : Prop where
  os : w'.os = w.os
  tape : TL w w'
  output : w'.output = w.output
  size : w.heap.size ≤ w'.heap.size
  block : ∀ k, k < w.heap.size → w'.heap[k]? = w.heap[k]?
theorem Ext.refl (w : World) : Ext w w := ⟨rfl, TL.refl w, rfl, Nat.le_refl _, fun _ _ => rfl⟩
theorem Ext.drew (w : World) : Ext w w.drew := ⟨rfl, ⟨rfl, Nat.le_succ _⟩, rfl, Nat.le_refl _, fun _ _ => rfl⟩
theorem Ext.alloc (w : World) (o : Obj) : Ext w (w.alloc o) :=
  let b := (Below.refl w.heap.size w).alloc (Nat.le_refl _) o
  ⟨b.os, ⟨b.tape, Nat.le_refl _⟩, b.output, b.size, b.block⟩
structure Ends (w0 : World) (h0 : Hp) (ms0 : List Hp) (w : World) (h : Hp) (ms : List Hp) : Prop where
  st : St w h ms
  os : w.os = w0.os
  tape : TL w0 w
  output : w.output = w0.output
  size : w0.heap.size ≤ w.heap.size
  block : ∀ k, k < w0.heap.size → (∀ m ∈ ms0, m k = none) → w.heap[k]? = w0.heap[k]?
  le : h0.le h
  hnew : ∀ k, k < w0.heap.size → (∀ m ∈ ms0, m k = none) → h k = h0 k
  mnew : ∀ m ∈ ms, ∀ k, k < w0.heap.size → m k ≠ none → ∃ m0 ∈ ms0, m0 k ≠ none
theorem Ends.refl {w : World} {h : Hp} {ms : List Hp} (s : St w h ms) : Ends w h ms w h ms :=
  ⟨s, rfl, TL.refl _, rfl, Nat.le_refl _, fun _ _ _ => rfl, Hp.le_refl _, fun _ _ _ => rfl, fun m hm _ _ e => ⟨m, hm, e⟩⟩
theorem St.frame_off {w : World} {h : Hp} {pre fr : List Hp} (s : St w h (pre ++ fr)) : ∀ m ∈ fr, ∀ m' ∈ pre, m'.disj m :=
  fun m hm m' hm' => (List.pairwise_append.1 s.apart).2.2 m' hm' m hm
theorem St.pre {w : World} {h : Hp} {pre fr : List Hp} (s : St w h (pre ++ fr)) : St w h pre :=
  ⟨s.imm, fun m hm => s.own m (List.mem_append_left _ hm), fun m hm => s.off m (List.mem_append_left _ hm), (List.pairwise_append.1 s.apart).1⟩
theorem Ends.call {w0 w w' : World} {h0 h h' : Hp} {ms0 pre pre' fr : List Hp} (H : Ends w0 h0 ms0 w h (pre ++ fr)) (C : Ends w h pre w' h' pre') : Ends w0 h0 ms0 w' h' (pre' ++ fr) := by
  have hlt : ∀ m ∈ fr, ∀ k, m k ≠ none → k < w.heap.size := fun m hm k hk => by
    obtain ⟨o, ho⟩ := Hp.ne_none hk
    exact Hp.inW_lt (H.st.own m (List.mem_append_right _ hm)) ho
  have hno : ∀ m ∈ fr, ∀ k, m k ≠ none → ∀ m' ∈ pre, m' k = none := fun m hm k hk m' hm' => by
    rcases H.st.frame_off m hm m' hm' k with e | e
    · exact e
    · exact absurd e hk
  have hpre : ∀ k, k < w0.heap.size → (∀ m ∈ ms0, m k = none) → ∀ m ∈ pre, m k = none := fun k hk hm m hmp => by
    cases e : m k with
    | none => rfl
    | some o =>
      obtain ⟨m0, hm0, e0⟩ := H.mnew m (List.mem_append_left _ hmp) k hk (by rw [e]; simp)
      exact absurd (hm m0 hm0) e0
  refine ⟨⟨C.st.imm, ?_, ?_, ?_⟩, C.os.trans H.os, C.tape.trans H.tape, C.output.trans H.output, Nat.le_trans H.size C.size, ?_, Hp.le_trans H.le C.le, ?_, ?_⟩
  · intro m hm
    rcases List.mem_append.1 hm with hm | hm
    · exact C.st.own m hm
    · intro k o e
      rw [C.block k (hlt m hm k (by rw [e]; simp)) (hno m hm k (by rw [e]; simp))]
      exact H.st.own m (List.mem_append_right _ hm) k o e
  · intro m hm
    rcases List.mem_append.1 hm with hm | hm
    · exact C.st.off m hm
    · intro k
      cases e : m k with
      | none => exact .inl rfl
      | some o =>
        have hk : m k ≠ none := by rw [e]; simp
        right
        rw [C.hnew k (hlt m hm k hk) (hno m hm k hk)]
        rcases H.st.off m (List.mem_append_right _ hm) k with e1 | e1
        · exact absurd e1 hk
        · exact e1
  · refine List.pairwise_append.2 ⟨C.st.apart, (List.pairwise_append.1 H.st.apart).2.1, fun m' hm' m hm k => ?_⟩
    cases e : m k with
    | none => exact .inr rfl
    | some o =>
      have hk : m k ≠ none := by rw [e]; simp
      cases e' : m' k with
      | none => exact .inl rfl
      | some o' =>
        obtain ⟨m0, hm0, e0⟩ := C.mnew m' hm' k (hlt m hm k hk) (by rw [e']; simp)
        exact absurd (hno m hm k hk m0 hm0) e0
  · intro k hk hm
    rw [C.block k (Nat.lt_of_lt_of_le hk H.size) (hpre k hk hm)]
    exact H.block k hk hm
  · intro k hk hm
    rw [C.hnew k (Nat.lt_of_lt_of_le hk H.size) (hpre k hk hm)]
    exact H.hnew k hk hm
  · intro m hm k hk e
    rcases List.mem_append.1 hm with hm | hm
    · obtain ⟨m1, hm1, e1⟩ := C.mnew m hm k (Nat.lt_of_lt_of_le hk H.size) e
      exact H.mnew m1 (List.mem_append_left _ hm1) k hk e1
    · exact H.mnew m (List.mem_append_right _ hm) k hk e
theorem Hp.inW_ext {h : Hp} {w w' : World} (hw : h.inW w) (e : Ext w w') : h.inW w' := fun g o ho => by
  rw [e.block g (Hp.inW_lt hw ho)]; exact hw g o ho
theorem St.ext {w w' : World} {h : Hp} {ms : List Hp} (s : St w h ms) (e : Ext w w') : St w' h ms :=
  ⟨Hp.inW_ext s.imm e, fun m hm => Hp.inW_ext (s.own m hm) e, s.off, s.apart⟩
theorem Ends.ext {w0 w w' : World} {h0 h : Hp} {ms0 ms : List Hp} (H : Ends w0 h0 ms0 w h ms) (e : Ext w w') : Ends w0 h0 ms0 w' h ms :=
  ⟨H.st.ext e, e.os.trans H.os, e.tape.trans H.tape, e.output.trans H.output, Nat.le_trans H.size e.size,
   fun k hk hm => (e.block k (Nat.lt_of_lt_of_le hk H.size)).trans (H.block k hk hm), H.le, H.hnew, H.mnew⟩
theorem Ends.drew {w0 w : World} {h0 h : Hp} {ms0 ms : List Hp} (H : Ends w0 h0 ms0 w h ms) : Ends w0 h0 ms0 w.drew h ms :=
  H.ext (Ext.drew _)
theorem Ends.alloc {w0 w : World} {h0 h : Hp} {ms0 ms : List Hp} (H : Ends w0 h0 ms0 w h ms) (o : Obj) : Ends w0 h0 ms0 (w.alloc o) h (Hp.one w.heap.size o :: ms) := by
  have H' := H.ext (Ext.alloc w o)
  refine ⟨⟨H'.st.imm, ?_, ?_, ?_⟩, H'.os, H'.tape, H'.output, H'.size, H'.block, H'.le, H'.hnew, ?_⟩
  · intro m hm
    rcases List.mem_cons.1 hm with rfl | hm
    · intro k o' e
      obtain ⟨rfl, rfl⟩ := Hp.one_some e
      exact heap_alloc_new w o'
    · exact H'.st.own m hm
  · intro m hm
    rcases List.mem_cons.1 hm with rfl | hm
    · intro k
      by_cases hk : k = w.heap.size
      · exact .inr (Hp.inW_none H.st.imm (by omega))
      · exact .inl (Hp.one_ne hk)
    · exact H'.st.off m hm
  · refine List.pairwise_cons.2 ⟨fun m hm k => ?_, H'.st.apart⟩
    by_cases hk : k = w.heap.size
    · exact .inr (Hp.inW_none (H.st.own m hm) (by omega))
    · exact .inl (Hp.one_ne hk)
  · intro m hm k hk e
    rcases List.mem_cons.1 hm with rfl | hm
    · exact absurd (Hp.one_ne (o := o) (show k ≠ w.heap.size by have := H.size; omega)) e
    · exact H'.mnew m hm k hk e
theorem Ends.freeze {w0 w : World} {h0 h : Hp} {ms0 ms : List Hp} {m : Hp} (H : Ends w0 h0 ms0 w h (m :: ms)) : Ends w0 h0 ms0 w (h.join m) ms := by
  have hd : m.disj h := H.st.off m (List.mem_cons_self)
  refine ⟨⟨?_, fun m' hm' => H.st.own m' (List.mem_cons_of_mem _ hm'), ?_, (List.pairwise_cons.1 H.st.apart).2⟩, H.os, H.tape, H.output, H.size, H.block, Hp.le_trans H.le (Hp.le_join _ _), ?_, fun m' hm' => H.mnew m' (List.mem_cons_of_mem _ hm')⟩
  · intro k o e
    unfold Hp.join at e
    split at e
    · rename_i o' e'; cases e; exact H.st.imm k _ e'
    · exact H.st.own m (List.mem_cons_self) k o e
  · intro m' hm' k
    rcases (List.pairwise_cons.1 H.st.apart).1 m' hm' k with e | e
    · rcases H.st.off m' (List.mem_cons_of_mem _ hm') k with e1 | e1
      · exact .inl e1
      · right; simp [Hp.join, e1, e]
    · exact .inl e
  · intro k hk hm
    have h1 := H.hnew k hk hm
    have h2 : m k = none := by
      cases e : m k with
      | none => rfl
      | some o =>
        obtain ⟨m0, hm0, e0⟩ := H.mnew m (List.mem_cons_self) k hk (by rw [e]; simp)
        exact absurd (hm m0 hm0) e0
    simp only [Hp.join, h2]
    rw [← h1]
    cases h k <;> rfl
theorem Ends.drop {w0 w : World} {h0 h : Hp} {ms0 ms : List Hp} {m : Hp} (H : Ends w0 h0 ms0 w h (m :: ms)) : Ends w0 h0 ms0 w h ms :=
  ⟨⟨H.st.imm, fun m' hm' => H.st.own m' (List.mem_cons_of_mem _ hm'), fun m' hm' => H.st.off m' (List.mem_cons_of_mem _ hm'), (List.pairwise_cons.1 H.st.apart).2⟩,
   H.os, H.tape, H.output, H.size, H.block, H.le, H.hnew, fun m' hm' => H.mnew m' (List.mem_cons_of_mem _ hm')⟩
theorem Ends.perm {w0 w : World} {h0 h : Hp} {ms0 ms ms' : List Hp} (H : Ends w0 h0 ms0 w h ms) (p : ms.Perm ms') : Ends w0 h0 ms0 w h ms' :=
  ⟨⟨H.st.imm, fun m hm => H.st.own m (p.mem_iff.2 hm), fun m hm => H.st.off m (p.mem_iff.2 hm), (p.pairwise_iff (fun h => Hp.disj_symm h)).1 H.st.apart⟩,
   H.os, H.tape, H.output, H.size, H.block, H.le, H.hnew, fun m hm => H.mnew m (p.mem_iff.2 hm)⟩
theorem Ends.change {w0 w w' : World} {h0 h : Hp} {ms0 ms : List Hp} {g : Nat} {o o' : Obj} (H : Ends w0 h0 ms0 w h (Hp.one g o :: ms))
    (hos : w'.os = w.os) (htape : TL w w') (hout : w'.output = w.output) (hsize : w.heap.size ≤ w'.heap.size)
    (hg : w'.heap[g]? = some o') (hother : ∀ k, k < w.heap.size → k ≠ g → w'.heap[k]? = w.heap[k]?) : Ends w0 h0 ms0 w' h (Hp.one g o' :: ms) := by
  have hgw : w.heap[g]? = some o := H.st.own _ (List.mem_cons_self) g o (Hp.one_self g o)
  have hoff : ∀ m ∈ ms, ∀ k o1, m k = some o1 → k ≠ g := fun m hm k o1 e he => by
    subst he
    rcases (List.pairwise_cons.1 H.st.apart).1 m hm k with e1 | e1
    · rw [Hp.one_self] at e1; cases e1
    · rw [e1] at e; cases e
  have hhg : h g = none := by
    rcases H.st.off _ (List.mem_cons_self) g with e1 | e1
    · rw [Hp.one_self] at e1; cases e1
    · exact e1
  refine ⟨⟨?_, ?_, ?_, ?_⟩, hos.trans H.os, htape.trans H.tape, hout.trans H.output, Nat.le_trans H.size hsize, ?_, H.le, H.hnew, ?_⟩
  · intro k o1 e
    rw [hother k (Hp.inW_lt H.st.imm e) (fun he => by subst he; rw [hhg] at e; cases e)]
    exact H.st.imm k o1 e
  · intro m hm
    rcases List.mem_cons.1 hm with rfl | hm
    · intro k o1 e
      obtain ⟨rfl, rfl⟩ := Hp.one_some e
      exact hg
    · intro k o1 e
      have hm' := H.st.own m (List.mem_cons_of_mem _ hm)
      rw [hother k (Hp.inW_lt hm' e) (hoff m hm k o1 e)]
      exact hm' k o1 e
  · intro m hm
    rcases List.mem_cons.1 hm with rfl | hm
    · intro k
      by_cases hk : k = g
      · subst hk; exact .inr hhg
      · exact .inl (Hp.one_ne hk)
    · exact H.st.off m (List.mem_cons_of_mem _ hm)
  · refine List.pairwise_cons.2 ⟨fun m hm k => ?_, (List.pairwise_cons.1 H.st.apart).2⟩
    by_cases hk : k = g
    · right
      cases e : m k with
      | none => rfl
      | some o1 => exact absurd hk (hoff m hm k o1 e)
    · exact .inl (Hp.one_ne hk)
  · intro k hk hm
    have hkg : k ≠ g := fun he => by
      subst he
      obtain ⟨m0, hm0, e0⟩ := H.mnew _ (List.mem_cons_self) k hk (by rw [Hp.one_self]; simp)
      exact absurd (hm m0 hm0) e0
    rw [hother k (Nat.lt_of_lt_of_le hk H.size) hkg]
    exact H.block k hk hm
  · intro m hm k hk e
    rcases List.mem_cons.1 hm with rfl | hm
    · by_cases hkg : k = g
      · subst hkg
        exact H.mnew _ (List.mem_cons_self) k hk (by rw [Hp.one_self]; simp)
      · exact absurd (Hp.one_ne hkg) e
    · exact H.mnew m (List.mem_cons_of_mem _ hm) k hk e
end Go.Eng
