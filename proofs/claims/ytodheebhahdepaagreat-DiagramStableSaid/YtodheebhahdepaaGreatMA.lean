/- A part of the proof. -/
import Derived.Sort.LotA
import Derived.Calls
import Derived.Laws.Sem
import Derived.Laws.World
import Derived.Laws.Rows
import Derived.Laws.AppendOwn
import Derived.Below
import Derived.Tactics
import Derived.Orders
import Derived.Laws.Entries
import Derived.Laws.Cells
import Derived.Laws.Slices
import Derived.Laws.Small
import Derived.IntWalk
import Derived.Laws.Append
import Derived.Laws.MakeOwn
import Derived.Laws.CopyRow
set_option linter.unusedSimpArgs false
set_option linter.unusedVariables false
set_option linter.unusedSectionVars false
set_option maxRecDepth 100000
set_option maxHeartbeats 4000000
namespace Go.Lin
variable {p a b c d : Int} {n : Nat} {f : Nat → Int}
def sm : Nat → (Nat → Int) → Int
  | 0, _ => 0
  | n + 1, f => sm n f + f n
theorem A9 {g : Nat → Int} (h : ∀ i, i < n → f i = g i) : sm n f = sm n g := by
  induction n with
  | zero => rfl
  | succ n ih => unfold sm; rw [ih fun i hi => h i (by omega), h n (by omega)]
theorem El (n : Nat) : sm n (fun _ => 0) = 0 := by
  induction n with
  | zero => rfl
  | succ n ih => unfold sm; rw [ih]; rfl
theorem L5 (n : Nat) (f g : Nat → Int) : sm n (fun i => f i + g i) = sm n f + sm n g := by
  induction n with
  | zero => rfl
  | succ n ih =>
    show sm n (fun i => f i + g i) + (f n + g n) = sm n f + f n + (sm n g + g n)
    rw [ih]; omega
theorem Pp (n : Nat) (f g : Nat → Int) : sm n (fun i => f i - g i) = sm n f - sm n g := by
  induction n with
  | zero => rfl
  | succ n ih =>
    show sm n (fun i => f i - g i) + (f n - g n) = sm n f + f n - (sm n g + g n)
    rw [ih]; omega
theorem EA (n : Nat) (c : Int) (f : Nat → Int) : sm n (fun i => c * f i) = c * sm n f := by
  induction n with
  | zero => simp [sm]
  | succ n ih => unfold sm; rw [ih, Int.mul_add]
theorem Gh (n : Nat) (c : Int) (f : Nat → Int) : sm n (fun i => f i * c) = sm n f * c := by
  rw [Int.mul_comm, ← EA]; exact A9 fun i _ => Int.mul_comm _ _
theorem FA (m n : Nat) (f : Nat → Nat → Int) : sm m (fun i => sm n (f i)) = sm n (fun j => sm m (fun i => f i j)) := by
  induction m with
  | zero => simp [sm, El]
  | succ m ih =>
    show sm m (fun i => sm n (f i)) + sm n (f m) = sm n (fun j => sm m (fun i => f i j) + f m j)
    rw [ih, L5]
theorem LZ (n : Nat) (k : Nat) (f : Nat → Int) (hk : k < n) (h : ∀ i, i < n → i ≠ k → f i = 0) : sm n f = f k := by
  induction n with
  | zero => omega
  | succ n ih =>
    unfold sm
    by_cases e : k = n
    · subst e
      have : sm k f = sm k fun _ => 0 := A9 fun i hi => h i (by omega) (by omega)
      rw [this, El]; omega
    · rw [ih (by omega) fun i hi hne => h i (by omega) hne, h n (by omega) (by omega)]; omega
theorem Ev (n : Nat) (k : Nat) (f : Nat → Int) (hk : k < n) : sm n (fun i => if i = k then f i else 0) = f k := by
  rw [LZ n k _ hk fun i _ hne => by simp [hne]]; simp
theorem N3 (m n : Nat) (f : Nat → Int) : sm (m + n) f = sm m f + sm n (fun i => f (m + i)) := by
  induction n with
  | zero => simp [sm]
  | succ n ih =>
    show sm (m + n) f + f (m + n) = sm m f + (sm n (fun i => f (m + i)) + f (m + n))
    rw [ih]; omega
theorem Ij (h : ∀ i, i < n → f i = 0) : sm n f = 0 := by
  rw [A9 (g := fun _ => 0) h, El]
def Cg (p a b : Int) : Prop := p ∣ a - b
theorem Cg.refl (p a : Int) : Cg p a a := by unfold Cg; rw [Int.sub_self]; exact Int.dvd_zero p
theorem Cg.of_eq (h : a = b) : Cg p a b := h ▸ Cg.refl p a
theorem Cg.symm (h : Cg p a b) : Cg p b a := by
  unfold Cg at *
  have := Int.dvd_neg.2 h
  rwa [Int.neg_sub] at this
theorem Cg.trans (h : Cg p a b) (h' : Cg p b c) : Cg p a c := by
  unfold Cg at *
  have := Int.dvd_add h h'
  rwa [show a - b + (b - c) = a - c by omega] at this
theorem Cg.add (h : Cg p a b) (h' : Cg p c d) : Cg p (a + c) (b + d) := by
  unfold Cg at *
  have := Int.dvd_add h h'
  rwa [show a - b + (c - d) = a + c - (b + d) by omega] at this
theorem Cg.sub (h : Cg p a b) (h' : Cg p c d) : Cg p (a - c) (b - d) := by
  unfold Cg at *
  have := Int.dvd_sub h h'
  rwa [show a - b - (c - d) = a - c - (b - d) by omega] at this
theorem Cg.mul (h : Cg p a b) (h' : Cg p c d) : Cg p (a * c) (b * d) := by
  unfold Cg at *
  have e : a * c - b * d = (a - b) * c + b * (c - d) := by rw [Int.sub_mul, Int.mul_sub]; omega
  rw [e]
  exact Int.dvd_add (Int.dvd_mul_of_dvd_left h) (Int.dvd_mul_of_dvd_right h')
theorem Cg.neg (h : Cg p a b) : Cg p (-a) (-b) := by
  have := (Cg.refl p 0).sub h
  simpa using this
theorem Cg.mod (p a : Int) : Cg p (a % p) a := by
  unfold Cg
  refine ⟨-(a / p), ?_⟩
  have := Int.emod_add_mul_ediv a p
  rw [Int.mul_neg]; omega
theorem Cg.self (p : Int) : Cg p p 0 := ⟨1, by omega⟩
theorem Cg.sm {g : Nat → Int} (h : ∀ i, i < n → Cg p (f i) (g i)) : Cg p (Lin.sm n f) (Lin.sm n g) := by
  induction n with
  | zero => exact Cg.refl _ _
  | succ n ih => exact (ih fun i hi => h i (by omega)).add (h n (by omega))
theorem Cg.iff_mod : Cg p a b ↔ a % p = b % p := by
  unfold Cg
  rw [Int.dvd_iff_emod_eq_zero, Int.emod_eq_emod_iff_emod_sub_eq_zero]
theorem Cg.eq (h : Cg p a b) (ha : 0 ≤ a ∧ a < p) (hb : 0 ≤ b ∧ b < p) : a = b := by
  have := Cg.iff_mod.1 h
  rwa [Int.emod_eq_of_lt ha.1 ha.2, Int.emod_eq_of_lt hb.1 hb.2] at this
end Go.Lin
namespace Go.Srt
open Go.Sort
variable {a m b i : Nat}
variable {α : Type} [Inhabited α]
def SwR (d0 d : Array α) (a b n : Nat) : Prop := d.size = d0.size ∧ ∀ k, d[k]! = if a ≤ k ∧ k < a + n then d0[k - a + b]! else if b ≤ k ∧ k < b + n then d0[k - b + a]! else d0[k]!
theorem SwR.start (d0 : Array α) (a b : Nat) : SwR d0 d0 a b 0 := ⟨rfl, fun k => by rw [if_neg (by omega), if_neg (by omega)]⟩
theorem SwR.step {d0 d : Array α} {n : Nat} (S : SwR d0 d a b n) (hab : a + n < b) (hb : b + n < d0.size) : SwR d0 (swp d (a + n) (b + n)) a b (n + 1) := by
  refine ⟨by rw [swp_size, S.1], fun k => ?_⟩
  rw [swp_get d (by rw [S.1]; omega) (by rw [S.1]; omega)]
  rw [S.2 (a + n), S.2 (b + n), S.2 k]
  by_cases h1 : k = b + n
  · subst h1
    rw [if_pos rfl, if_neg (by omega), if_neg (by omega), if_neg (by omega), if_pos (by omega)]
    congr 1; omega
  · by_cases h2 : k = a + n
    · subst h2
      rw [if_neg h1, if_pos rfl, if_neg (by omega), if_neg (by omega), if_pos (by omega)]
      congr 1; omega
    · rw [if_neg h1, if_neg h2]
      by_cases h3 : a ≤ k ∧ k < a + n
      · rw [if_pos h3, if_pos (by omega)]
      · rw [if_neg h3]
        by_cases h4 : b ≤ k ∧ k < b + n
        · rw [if_pos h4, if_neg (by omega), if_pos (by omega)]
        · rw [if_neg h4, if_neg (by omega), if_neg (by omega)]
def EH (d : Array α) (a m b k : Nat) : α := if a ≤ k ∧ k < b then if k < a + (b - m) then d[k + (m - a)]! else d[k - (b - m)]! else d[k]!
theorem NG {d d' : Array α} {j : Nat} (hi : i ≤ m) (hj : j < i) (S : SwR d d' (m - i) m j) (k : Nat) : EH d' (m - (i - j)) m (m + j) k = EH d (m - i) m (m + j) k := by
  unfold EH
  rw [S.2 (k + (m - (m - (i - j)))), S.2 (k - (m + j - m)), S.2 k]
  repeat' split
  all_goals first | omega | (congr 1 <;> omega)
theorem Kc {d d' : Array α} {j : Nat} (hi : i ≤ m) (hj : i < j) (S : SwR d d' (m - i) (m + j - i) i) (k : Nat) : EH d' (m - i) m (m + (j - i)) k = EH d (m - i) m (m + j) k := by
  unfold EH
  rw [S.2 (k + (m - (m - i))), S.2 (k - (m + (j - i) - m)), S.2 k]
  repeat' split
  all_goals first | omega | (congr 1 <;> omega)
theorem NO {d d' : Array α} (hi : i ≤ m) (S : SwR d d' (m - i) m i) (k : Nat) : d'[k]! = EH d (m - i) m (m + i) k := by
  unfold EH
  rw [S.2 k]
  repeat' split
  all_goals first | omega | (congr 1 <;> omega)
theorem Gw {d : Array α} (h : m = a ∨ b = m) (k : Nat) : EH d a m b k = d[k]! := by
  unfold EH
  repeat' split
  all_goals first | omega | (congr 1 <;> omega)
variable {lt : α → α → Bool}
def InsR (d0 d : Array α) (a t : Nat) : Prop := d.size = d0.size ∧ ∀ k, d[k]! = if a ≤ k ∧ k < t then d0[k + 1]! else if k = t then d0[a]! else d0[k]!
theorem InsR.start (d0 : Array α) (a : Nat) : InsR d0 d0 a a := ⟨rfl, fun k => by
  rw [if_neg (by omega)]; split
  · rename_i h; rw [h]
  · rfl⟩
theorem InsR.step {d0 d : Array α} {t : Nat} (S : InsR d0 d a t) (hat : a ≤ t) (ht : t + 1 < d0.size) : InsR d0 (swp d t (t + 1)) a (t + 1) := by
  refine ⟨by rw [swp_size, S.1], fun k => ?_⟩
  rw [swp_get d (by rw [S.1]; omega) (by rw [S.1]; omega), S.2 t, S.2 (t + 1), S.2 k]
  by_cases h1 : k = t + 1
  · subst h1
    rw [if_pos rfl, if_neg (by omega), if_pos rfl, if_neg (by omega), if_pos rfl]
  · by_cases h2 : k = t
    · subst h2
      rw [if_neg h1, if_pos rfl, if_neg (by omega), if_neg (by omega), if_pos (by omega)]
    · rw [if_neg h1, if_neg h2]
      by_cases h3 : a ≤ k ∧ k < t
      · rw [if_pos h3, if_pos (by omega)]
      · rw [if_neg h3, if_neg h2, if_neg (by omega), if_neg h1]
theorem Kk (hO : SWO lt) {d0 d : Array α} (hS : SortedIn lt (a + 1) b d0) (hi : a + 1 ≤ i ∧ i ≤ b) (h1 : i = a + 1 ∨ lt d0[i - 1]! d0[a]! = true) (h2 : i = b ∨ lt d0[i]! d0[a]! = false) (R : InsR d0 d a (i - 1)) : SortedIn lt a b d := by
  have lo : ∀ k, a + 1 ≤ k → k < i → lt d0[a]! d0[k]! = false := fun k h3 h4 => by
    rcases h1 with h1 | h1
    · omega
    · have h5 := hO.asymmA h1
      rcases (by omega : k = i - 1 ∨ k < i - 1) with rfl | h6
      · exact h5
      · exact hO.ntrans _ _ _ h5 (hS k (i - 1) h3 h6 (by omega))
  have hi' : ∀ k, i ≤ k → k < b → lt d0[k]! d0[a]! = false := fun k h3 h4 => by
    rcases h2 with h2 | h2
    · omega
    · rcases (by omega : k = i ∨ i < k) with rfl | h6
      · exact h2
      · exact hO.ntrans _ _ _ (hS i k (by omega) h6 h4) h2
  intro x y hx hxy hy
  rw [R.2 x, R.2 y]
  by_cases hy1 : y < i - 1
  · rw [if_pos (by omega), if_pos (by omega)]
    exact hS _ _ (by omega) (by omega) (by omega)
  · by_cases hy2 : y = i - 1
    · rw [if_neg (by omega), if_pos hy2, if_pos (by omega)]
      exact lo _ (by omega) (by omega)
    · rw [if_neg (by omega), if_neg hy2]
      by_cases hx1 : x < i - 1
      · rw [if_pos (by omega)]
        exact hS _ _ (by omega) (by omega) (by omega)
      · by_cases hx2 : x = i - 1
        · rw [if_neg (by omega), if_pos hx2]
          exact hi' _ (by omega) hy
        · rw [if_neg (by omega), if_neg hx2]
          exact hS _ _ (by omega) (by omega) (by omega)
def ShR (d0 d : Array α) (m t : Nat) : Prop := d.size = d0.size ∧ ∀ k, d[k]! = if t < k ∧ k ≤ m then d0[k - 1]! else if k = t then d0[m]! else d0[k]!
theorem ShR.start (d0 : Array α) (m : Nat) : ShR d0 d0 m m := ⟨rfl, fun k => by
  rw [if_neg (by omega)]; split
  · rename_i h; rw [h]
  · rfl⟩
theorem ShR.step {d0 d : Array α} {t : Nat} (S : ShR d0 d m (t + 1)) (ht : t + 1 ≤ m) (hm : m < d0.size) : ShR d0 (swp d (t + 1) t) m t := by
  refine ⟨by rw [swp_size, S.1], fun k => ?_⟩
  rw [swp_get d (by rw [S.1]; omega) (by rw [S.1]; omega), S.2 t, S.2 (t + 1), S.2 k]
  by_cases h1 : k = t
  · subst h1
    rw [if_pos rfl, if_neg (by omega), if_pos rfl, if_neg (by omega), if_pos rfl]
  · by_cases h2 : k = t + 1
    · subst h2
      rw [if_neg h1, if_pos rfl, if_neg (by omega), if_neg (by omega), if_pos (by omega)]
      rfl
    · rw [if_neg h1, if_neg h2]
      by_cases h3 : t + 1 < k ∧ k ≤ m
      · rw [if_pos h3, if_pos (by omega)]
      · rw [if_neg h3, if_neg h2, if_neg (by omega), if_neg h1]
theorem K7 (hO : SWO lt) {d0 d : Array α} (hS : SortedIn lt a m d0) (hi : a ≤ i ∧ i ≤ m) (h1 : i = a ∨ lt d0[m]! d0[i - 1]! = false) (h2 : i = m ∨ lt d0[m]! d0[i]! = true) (R : ShR d0 d m i) : SortedIn lt a (m + 1) d := by
  have lo : ∀ k, a ≤ k → k < i → lt d0[m]! d0[k]! = false := fun k h3 h4 => by
    rcases h1 with h1 | h1
    · omega
    · rcases (by omega : k = i - 1 ∨ k < i - 1) with rfl | h6
      · exact h1
      · exact hO.ntrans _ _ _ h1 (hS k (i - 1) h3 h6 (by omega))
  have hi' : ∀ k, i ≤ k → k < m → lt d0[k]! d0[m]! = false := fun k h3 h4 => by
    rcases h2 with h2 | h2
    · omega
    · have h5 := hO.asymmA h2
      rcases (by omega : k = i ∨ i < k) with rfl | h6
      · exact h5
      · exact hO.ntrans _ _ _ (hS i k (by omega) h6 h4) h5
  intro x y hx hxy hy
  rw [R.2 x, R.2 y]
  by_cases hy1 : i < y
  · rw [if_pos (by omega)]
    by_cases hx1 : i < x
    · rw [if_pos (by omega)]
      exact hS _ _ (by omega) (by omega) (by omega)
    · by_cases hx2 : x = i
      · rw [if_neg (by omega), if_pos hx2]
        exact hi' _ (by omega) (by omega)
      · rw [if_neg (by omega), if_neg hx2]
        rcases (by omega : x < y - 1 ∨ x = y - 1) with h | h
        · exact hS _ _ (by omega) h (by omega)
        · omega
  · by_cases hy2 : y = i
    · rw [if_neg (by omega), if_pos hy2, if_neg (by omega), if_neg (by omega)]
      exact lo _ hx (by omega)
    · rw [if_neg (by omega), if_neg hy2, if_neg (by omega), if_neg (by omega)]
      exact hS _ _ hx hxy (by omega)
structure YC (lt : α → α → Bool) (d0 d : Array α) (a start mid e m b : Nat) : Prop where
  lo : SortedIn lt a start d
  lo2 : SortedIn lt start mid d
  hi : SortedIn lt mid e d
  hi2 : SortedIn lt e b d
  cross : ∀ x y, a ≤ x → x < mid → mid ≤ y → y < b → lt d[y]! d[x]! = false
theorem Tc (hO : SWO lt) {d0 d : Array α} {start mid e : Nat} (hA : SortedIn lt a m d0) (hB : SortedIn lt m b d0) (h1 : a ≤ start ∧ start ≤ m ∧ start ≤ mid ∧ m ≤ e ∧ e ≤ b) (h2 : start + e = mid + m)
    (hR : ∀ k, d[k]! = EH d0 start m e k)
    (c1 : start = a ∨ e = b ∨ lt d0[e]! d0[start - 1]! = false) (c2 : start = m ∨ e = m ∨ lt d0[e - 1]! d0[start]! = true) : YC lt d0 d a start mid e m b := by
  have g1 : ∀ k, k < start → d[k]! = d0[k]! := fun k h => by rw [hR]; unfold EH; rw [if_neg (by omega)]
  have g2 : ∀ k, start ≤ k → k < mid → d[k]! = d0[k + (m - start)]! := fun k h h' => by rw [hR]; unfold EH; rw [if_pos (by omega), if_pos (by omega)]
  have g3 : ∀ k, mid ≤ k → k < e → d[k]! = d0[k - (e - m)]! := fun k h h' => by rw [hR]; unfold EH; rw [if_pos (by omega), if_neg (by omega)]
  have g4 : ∀ k, e ≤ k → d[k]! = d0[k]! := fun k h => by rw [hR]; unfold EH; rw [if_neg (by omega)]
  -- the four pieces, of the former
  have ab2 : ∀ x y, a ≤ x → x < start → e ≤ y → y < b → lt d0[y]! d0[x]! = false := fun x y hx hx' hy hy' => by
    rcases c1 with c | c | c
    · omega
    · omega
    · have k1 : lt d0[y]! d0[e]! = false := by
        rcases (by omega : y = e ∨ e < y) with rfl | h
        · exact hO.irrefl _
        · exact hB _ _ (by omega) h hy'
      have k2 : lt d0[start - 1]! d0[x]! = false := by
        rcases (by omega : x = start - 1 ∨ x < start - 1) with rfl | h
        · exact hO.irrefl _
        · exact hA _ _ hx h (by omega)
      exact hO.ntrans _ _ _ (hO.ntrans _ _ _ k1 c) k2
  have ba2 : ∀ x y, m ≤ x → x < e → start ≤ y → y < m → lt d0[y]! d0[x]! = false := fun x y hx hx' hy hy' => by
    rcases c2 with c | c | c
    · omega
    · omega
    · have k0 := hO.asymmA c
      have k1 : lt d0[y]! d0[start]! = false := by
        rcases (by omega : y = start ∨ start < y) with rfl | h
        · exact hO.irrefl _
        · exact hA _ _ (by omega) h hy'
      have k2 : lt d0[e - 1]! d0[x]! = false := by
        rcases (by omega : x = e - 1 ∨ x < e - 1) with rfl | h
        · exact hO.irrefl _
        · exact hB _ _ hx h (by omega)
      exact hO.ntrans _ _ _ (hO.ntrans _ _ _ k1 k0) k2
  refine ⟨fun x y hx hxy hy => ?_, fun x y hx hxy hy => ?_, fun x y hx hxy hy => ?_, fun x y hx hxy hy => ?_, fun x y hx hxm hy hyb => ?_⟩
  · rw [g1 x (by omega), g1 y (by omega)]; exact hA _ _ hx hxy (by omega)
  · rw [g2 x hx (by omega), g2 y (by omega) hy]; exact hB _ _ (by omega) (by omega) (by omega)
  · rw [g3 x hx (by omega), g3 y (by omega) hy]; exact hA _ _ (by omega) (by omega) (by omega)
  · rw [g4 x hx, g4 y (by omega)]; exact hB _ _ (by omega) hxy hy
  · rcases Nat.lt_or_ge x start with h3 | h3 <;> rcases Nat.lt_or_ge y e with h4 | h4
    · rw [g1 x h3, g3 y hy h4]; exact hA _ _ hx (by omega) (by omega)
    · rw [g1 x h3, g4 y h4]; exact ab2 _ _ hx h3 h4 hyb
    · rw [g2 x h3 hxm, g3 y hy h4]; exact ba2 _ _ (by omega) (by omega) (by omega) (by omega)
    · rw [g2 x h3 hxm, g4 y h4]; exact hB _ _ (by omega) (by omega) hyb
theorem Ob {d0 d d2 d3 : Array α} {start mid e : Nat} (C : YC lt d0 d a start mid e m b) (hb : b ≤ d.size) (hm : a ≤ mid ∧ mid ≤ b) (p1 : PermIn a mid d d2) (s1 : SortedIn lt a mid d2) (p2 : PermIn mid b d2 d3) (s2 : SortedIn lt mid b d3) : SortedIn lt a b d3 := by
  have q1 : ∀ x, a ≤ x → x < mid → ∀ y, mid ≤ y → y < b → lt d[y]! d2[x]! = false := fun x hx hx' y hy hy' =>
    permIn_all d d2 a mid (fun v => lt d[y]! v = false) (by omega) p1 (fun i h1 h2 => C.cross i y h1 h2 hy hy') x hx hx'
  have q2 : ∀ y, mid ≤ y → y < b → ∀ x, a ≤ x → x < mid → lt d3[y]! d2[x]! = false := fun y hy hy' x hx hx' =>
    permIn_all d2 d3 mid b (fun v => lt v d2[x]! = false) (by rw [p1.1]; exact hb) p2 (fun i h1 h2 => by rw [p1.2.1 i (.inr h1)]; exact q1 x hx hx' i h1 h2) y hy hy'
  intro x y hx hxy hy
  rcases Nat.lt_or_ge y mid with h1 | h1
  · rw [p2.2.1 x (.inl (by omega)), p2.2.1 y (.inl h1)]; exact s1 _ _ hx hxy h1
  · rcases Nat.lt_or_ge x mid with h2 | h2
    · rw [p2.2.1 x (.inl h2)]; exact q2 y h1 hy x hx h2
    · exact s2 _ _ h2 hxy hy
theorem Bx {d d' : Array α} (h : SortedIn lt a b d) (e : ∀ k, a ≤ k → k < b → d'[k]! = d[k]!) : SortedIn lt a b d' := fun x y hx hxy hy => by
  rw [e x hx (by omega), e y (by omega) hy]; exact h x y hx hxy hy
end Go.Srt
namespace Go.Kuhn
def G7 (fits : Nat → Nat → Bool) (nl : Nat) (part : List Int) : Prop := ∀ k (hk : k < part.length), part[k] = -1 ∨ ∃ p : Nat, part[k] = (p : Int) ∧ p < nl ∧ fits p k = true
structure KT (fits : Nat → Nat → Bool) (nl i : Nat) (seen : List Bool) (part : List Int) (seen' : List Bool) (part' : List Int) : Prop where
  slen : seen'.length = seen.length
  plen : part'.length = part.length
  kept : ∀ k : Nat, seen[k]? = some true → part'[k]? = part[k]?
  pre : G7 fits nl part'
  cnt : ∀ x : Nat, part'.count (x : Int) = part.count (x : Int) + if x = i then 1 else 0
structure LI (fits : Nat → Nat → Bool) (i n k : Nat) (seen : List Bool) (part : List Int) (seen' : List Bool) : Prop where
  slen : seen'.length = seen.length
  mono : ∀ j : Nat, seen[j]? = some true → seen'[j]? = some true
  tried : ∀ j : Nat, j < k → j < n → fits i j = true → seen'[j]? = some true
  closed : ∀ j : Nat, seen'[j]? = some true → seen[j]? ≠ some true → ∃ p : Nat, part[j]? = some (p : Int) ∧ ∀ j', j' < n → fits p j' = true → seen'[j']? = some true
variable {fits : Nat → Nat → Bool} {nl i n k : Nat} {seen seen1 seen2 seen3 : List Bool} {part part1 : List Int}
theorem LI.start : LI fits i n 0 seen part seen := ⟨rfl, fun _ h => h, fun j h => by omega, fun j h1 h2 => absurd h1 h2⟩
theorem LI.skip (L : LI fits i n k seen part seen1) (h : seen1[k]? = some true ∨ fits i k = false) : LI fits i n (k + 1) seen part seen1 :=
  ⟨L.slen, L.mono, fun j hj hn hf => by
    rcases Nat.lt_or_ge j k with h1 | h1
    · exact L.tried j h1 hn hf
    · have : j = k := by omega
      subst this
      rcases h with h | h
      · exact h
      · exact absurd (hf.symm.trans h) (by decide), L.closed⟩
theorem Gp {l : List Bool} {k j : Nat} (hk : k < l.length) : (l.set k true)[j]? = some true ↔ j = k ∨ l[j]? = some true := by
  rw [List.getElem?_set]
  by_cases h : k = j
  · subst h; simp [hk]
  · simp [h, Ne.symm h]
theorem LI.fail (L : LI fits i n k seen part seen1) (hk : k < seen1.length) {p : Nat} (hp : part[k]? = some (p : Int)) (F : LI fits p n n (seen1.set k true) part seen3) : LI fits i n (k + 1) seen part seen3 := by
  have m2 : ∀ j : Nat, seen1[j]? = some true → seen3[j]? = some true := fun j h => F.mono j ((Gp hk).2 (.inr h))
  have mk : seen3[k]? = some true := F.mono k ((Gp hk).2 (.inl rfl))
  refine ⟨by rw [F.slen, List.length_set, L.slen], fun j h => m2 j (L.mono j h), fun j hj hn hf => ?_, fun j h1 h2 => ?_⟩
  · rcases Nat.lt_or_ge j k with h1 | h1
    · exact m2 j (L.tried j h1 hn hf)
    · have : j = k := by omega
      subst this; exact mk
  · by_cases h3 : (seen1.set k true)[j]? = some true
    · rcases (Gp hk).1 h3 with rfl | h4
      · exact ⟨p, hp, fun j' hj' hf => F.tried j' hj' hj' hf⟩
      · obtain ⟨q, e1, e2⟩ := L.closed j h4 h2
        exact ⟨q, e1, fun j' hj' hf => m2 j' (e2 j' hj' hf)⟩
    · exact F.closed j h1 h3
theorem Ke (l : List Int) (k : Nat) (a b : Int) (hk : k < l.length) : (l.set k a).count b + (if l[k] = b then 1 else 0) = l.count b + if a = b then 1 else 0 := by
  induction l generalizing k with
  | nil => simp at hk
  | cons x l ih =>
    cases k with
    | zero => simp only [List.set_cons_zero, List.count_cons, List.getElem_cons_zero, beq_iff_eq]; omega
    | succ k =>
      have := ih k (by simpa using hk)
      simp only [List.set_cons_succ, List.count_cons, List.getElem_cons_succ, beq_iff_eq]; omega
theorem LI.free (L : LI fits i n k seen part seen1) (hP : G7 fits nl part) (hi : i < nl) (hk : k < part.length) (hks : k < seen1.length) (h0 : seen1[k]? ≠ some true) (hf : fits i k = true) (hp : part[k] < 0) : KT fits nl i seen part (seen1.set k true) (part.set k (i : Int)) := by
  have h1 : part[k] = -1 := by
    rcases hP k hk with h | ⟨p, h, _⟩
    · exact h
    · omega
  refine ⟨by rw [List.length_set, L.slen], List.length_set, fun j hj => ?_, fun j hj => ?_, fun x => ?_⟩
  · have : k ≠ j := fun e => h0 (by rw [e]; exact L.mono j hj)
    rw [List.getElem?_set_ne this]
  · rw [List.getElem_set]
    split
    · rename_i e; subst e; exact .inr ⟨i, rfl, hi, hf⟩
    · exact hP j (by simpa using hj)
  · have := Ke part k (i : Int) (x : Int) hk
    rw [h1, if_neg (by omega)] at this
    have e : ((i : Int) = (x : Int)) = (x = i) := by apply propext; omega
    rw [Nat.add_zero] at this
    rw [this]; simp only [e]
theorem LI.moved (L : LI fits i n k seen part seen1) (hi : i < nl) (hk : k < part.length) (hks : k < seen1.length) (h0 : seen1[k]? ≠ some true) (hf : fits i k = true) {p : Nat} (hp : part[k]? = some (p : Int)) (T : KT fits nl p (seen1.set k true) part seen2 part1) : KT fits nl i seen part seen2 (part1.set k (i : Int)) := by
  have hk1 : k < part1.length := by rw [T.plen]; exact hk
  have h1 : part1[k] = (p : Int) := by
    have := T.kept k ((Gp hks).2 (.inl rfl))
    rw [hp, List.getElem?_eq_getElem hk1] at this
    exact Option.some.inj this
  refine ⟨by rw [T.slen, List.length_set, L.slen], by rw [List.length_set, T.plen], fun j hj => ?_, fun j hj => ?_, fun x => ?_⟩
  · have : k ≠ j := fun e => h0 (by rw [e]; exact L.mono j hj)
    rw [List.getElem?_set_ne this]
    exact T.kept j ((Gp hks).2 (.inr (L.mono j hj)))
  · rw [List.getElem_set]
    split
    · rename_i e; subst e; exact .inr ⟨i, rfl, hi, hf⟩
    · exact T.pre j (by simpa using hj)
  · have e1 := Ke part1 k (i : Int) (x : Int) hk1
    have e2 := T.cnt x
    rw [h1] at e1
    have e : ((i : Int) = (x : Int)) = (x = i) := by apply propext; omega
    have e' : ((p : Int) = (x : Int)) = (x = p) := by apply propext; omega
    simp only [e, e'] at e1
    omega
def E9 (l : List Bool) : Nat := l.countP (! ·)
theorem Kg (l : List Bool) (k : Nat) (hk : k < l.length) (h : l[k] = false) : E9 (l.set k true) + 1 = E9 l := by
  unfold E9
  induction l generalizing k with
  | nil => simp at hk
  | cons x l ih =>
    cases k with
    | zero => simp at h; subst h; simp
    | succ k => simp only [List.set_cons_succ, List.countP_cons]; have := ih k (by simpa using hk) (by simpa using h); omega
theorem IX (l l' : List Bool) (hl : l'.length = l.length) (h : ∀ j : Nat, l[j]? = some true → l'[j]? = some true) : E9 l' ≤ E9 l := by
  unfold E9
  induction l generalizing l' with
  | nil => have : l' = [] := List.length_eq_zero_iff.1 hl
           subst this; simp
  | cons x l ih =>
    cases l' with
    | nil => simp at hl
    | cons y l' =>
      have h1 := ih l' (by simpa using hl) (fun j hj => by simpa using h (j + 1) (by simpa using hj))
      have h2 : x = true → y = true := fun e => by simpa using h 0 (by simp [e])
      simp only [List.countP_cons]
      cases x <;> cases y <;> simp_all <;> omega
end Go.Kuhn
namespace Go.Kuhn
variable {F : Nat → Nat → Bool} {n : Nat}
theorem nodup_le {α : Type} [DecidableEq α] : ∀ (l l' : List α), l.Nodup → (∀ x ∈ l, x ∈ l') → l.length ≤ l'.length
  | [], l', _, _ => by simp
  | a :: l, l', hn, h => by
    have h1 : a ∈ l' := h a (by simp)
    have h2 : ∀ x ∈ l, x ∈ l'.erase a := fun x hx => by
      have : x ≠ a := fun e => (List.nodup_cons.1 hn).1 (e ▸ hx)
      exact (List.mem_erase_of_ne this).2 (h x (by simp [hx]))
    have := nodup_le l (l'.erase a) (List.nodup_cons.1 hn).2 h2
    rw [List.length_erase_of_mem h1] at this
    have := List.length_pos_of_mem h1
    simp; omega
def Pos (F : Nat → Nat → Bool) (n : Nat) : Prop := ∃ part : List Int, part.length = n ∧ G7 F n part ∧ ∀ x : Nat, x < n → part.count (x : Int) = 1
def Xe (F : Nat → Nat → Bool) (n : Nat) : Prop := ∃ (i : Nat) (part : List Int) (seen : List Bool), i < n ∧ part.length = n ∧ G7 F n part ∧ (∀ x : Nat, part.count (x : Int) = if x < i then 1 else 0) ∧ LI F i n n (List.replicate n false) part seen
theorem Gr {part : List Int} {x : Int} (h : part.count x ≤ 1) {j k : Nat} (hj : part[j]? = some x) (hk : part[k]? = some x) : j = k := by
  induction part generalizing j k with
  | nil => simp at hj
  | cons a l ih =>
    cases j with
    | zero =>
      cases k with
      | zero => rfl
      | succ k =>
        simp at hj hk; subst hj
        have h1 : l.count a ≥ 1 := List.count_pos_iff.2 (List.mem_of_getElem? hk)
        rw [List.count_cons_self] at h; omega
    | succ j =>
      cases k with
      | zero =>
        simp at hj hk; subst hk
        have h1 : l.count a ≥ 1 := List.count_pos_iff.2 (List.mem_of_getElem? hj)
        rw [List.count_cons_self] at h; omega
      | succ k =>
        have h1 : l.count x ≤ 1 := Nat.le_trans List.count_le_count_cons h
        have e : j = k := ih h1 (by simpa using hj) (by simpa using hk)
        omega
theorem BQ {i : Nat} {part : List Int} {seen0 seen : List Bool} (h0 : ∀ j : Nat, seen0[j]? ≠ some true) (hs : seen0.length = n) (hone : ∀ x : Nat, part.count (x : Int) ≤ 1) (hi : part.count (i : Int) = 0) (L : LI F i n n seen0 part seen)
    (pos : Nat → Nat) (hpos : ∀ x, x = i ∨ (x : Int) ∈ part → pos x < n ∧ F x (pos x) = true) (hinj : ∀ x y, (x = i ∨ (x : Int) ∈ part) → (y = i ∨ (y : Int) ∈ part) → pos x = pos y → x = y) : False := by
  let S := (List.range n).filter fun k => seen[k]? == some true
  have hS : ∀ k, k ∈ S ↔ seen[k]? = some true := fun k => by
    simp only [S, List.mem_filter, List.mem_range, beq_iff_eq]
    constructor
    · exact fun h => h.2
    · intro h
      refine ⟨?_, h⟩
      obtain ⟨h', _⟩ := List.getElem?_eq_some_iff.1 h
      have e1 := L.slen
      omega
  have hSn : S.Nodup := List.Pairwise.filter _ List.nodup_range
  let f : Nat → Nat := fun k => (part[k]?.getD 0).toNat
  have hf : ∀ k ∈ S, part[k]? = some ((f k : Nat) : Int) ∧ ∀ j', j' < n → F (f k) j' = true → seen[j']? = some true := fun k hk => by
    obtain ⟨p, e1, e2⟩ := L.closed k ((hS k).1 hk) (h0 k)
    have : f k = p := by simp [f, e1]
    rw [this]; exact ⟨e1, e2⟩
  have hmem : ∀ k ∈ S, ((f k : Nat) : Int) ∈ part := fun k hk => List.mem_of_getElem? (hf k hk).1
  have hfi : ∀ k ∈ S, f k ≠ i := fun k hk e => by
    have := hmem k hk
    rw [e] at this
    have := List.count_pos_iff.2 this
    omega
  -- the places of i and of the partners
  have hn : (i :: S.map f).Nodup := by
    refine List.nodup_cons.2 ⟨fun h => ?_, ?_⟩
    · obtain ⟨k, hk, e⟩ := List.mem_map.1 h
      exact hfi k hk e
    · refine List.pairwise_map.2 (hSn.imp_of_mem fun {a b} ha hb hne e => hne ?_)
      have h1 := (hf a ha).1
      have h2 := (hf b hb).1
      rw [e] at h1
      exact Gr (hone (f b)) h1 h2
  have hin : ∀ x ∈ i :: S.map f, x = i ∨ (x : Int) ∈ part := fun x hx => by
    rcases List.mem_cons.1 hx with e | hx
    · exact .inl e
    · obtain ⟨k, hk, e⟩ := List.mem_map.1 hx
      exact .inr (e ▸ hmem k hk)
  have hn2 : ((i :: S.map f).map pos).Nodup := List.pairwise_map.2 (hn.imp_of_mem fun {a b} ha hb hne e => hne (hinj a b (hin a ha) (hin b hb) e))
  have hsub : ∀ y ∈ (i :: S.map f).map pos, y ∈ S := fun y hy => by
    obtain ⟨x, hx, rfl⟩ := List.mem_map.1 hy
    obtain ⟨p1, p2⟩ := hpos x (hin x hx)
    rw [hS]
    rcases List.mem_cons.1 hx with rfl | hx
    · exact L.tried _ p1 p1 p2
    · obtain ⟨k, hk, rfl⟩ := List.mem_map.1 hx
      exact (hf k hk).2 _ p1 p2
  have := nodup_le _ S hn2 hsub
  simp at this
  omega
theorem NA (h : Xe F n) : ¬ Pos F n := by
  rintro ⟨p2, hl2, hK2, hc2⟩
  obtain ⟨i, part, seen, hi, hl, hK, hc, L⟩ := h
  have hex : ∀ x, x < n → ∃ k, p2[k]? = some (x : Int) := fun x hx => by
    have : (x : Int) ∈ p2 := List.count_pos_iff.1 (by rw [hc2 x hx]; decide)
    obtain ⟨k, hk, e⟩ := List.getElem_of_mem this
    exact ⟨k, by rw [List.getElem?_eq_getElem hk, e]⟩
  classical
  let pos : Nat → Nat := fun x => if h : x < n then (hex x h).choose else 0
  have hp : ∀ x, x < n → p2[pos x]? = some (x : Int) := fun x hx => by
    simp only [pos, hx, dif_pos]; exact (hex x hx).choose_spec
  have hlt : ∀ x : Nat, x = i ∨ (x : Int) ∈ part → x < n := fun x hx => by
    rcases hx with rfl | hx
    · exact hi
    · have h1 := List.count_pos_iff.2 hx
      rw [hc x] at h1
      split at h1
      · omega
      · omega
  refine BQ (pos := pos) (by simp [List.getElem?_replicate]) (by simp) (fun x => by rw [hc x]; split <;> omega) (by rw [hc i, if_neg (by omega)]) L (fun x hx => ?_) (fun x y hx hy e => ?_)
  · have h1 := hp x (hlt x hx)
    have h2 := (List.getElem?_eq_some_iff.1 h1)
    obtain ⟨h3, h4⟩ := h2
    refine ⟨by omega, ?_⟩
    rcases hK2 _ h3 with h5 | ⟨p, h5, _, h6⟩
    · rw [h4] at h5; omega
    · rw [h4] at h5
      have : p = x := by omega
      rwa [this] at h6
  · have h1 := hp x (hlt x hx)
    have h2 := hp y (hlt y hy)
    rw [e, h2] at h1
    have := Option.some.inj h1
    omega
theorem Pos.mono {G : Nat → Nat → Bool} (h : Pos F n) (hFG : ∀ i k, F i k = true → G i k = true) : Pos G n := by
  obtain ⟨p, h1, h2, h3⟩ := h
  exact ⟨p, h1, fun k hk => by
    rcases h2 k hk with h4 | ⟨q, h4, h5, h6⟩
    · exact .inl h4
    · exact .inr ⟨q, h4, h5, hFG _ _ h6⟩, h3⟩
end Go.Kuhn
namespace Go.Lin
variable {p a : Nat}
def Prm (p : Nat) : Prop := 2 ≤ p ∧ ∀ d, d ∣ p → d = 1 ∨ d = p
theorem Prm.coprime (hp : Prm p) (h : ¬ p ∣ a) : Nat.Coprime p a := by
  rcases hp.2 (Nat.gcd p a) (Nat.gcd_dvd_left p a) with h1 | h1
  · exact h1
  · exact absurd (h1 ▸ Nat.gcd_dvd_right p a) h
theorem Prm.mul {b : Nat} (hp : Prm p) (h : p ∣ a * b) : p ∣ a ∨ p ∣ b := by
  by_cases hb : p ∣ b
  · exact .inr hb
  · exact .inl ((hp.coprime hb).dvd_of_dvd_mul_right h)
theorem HQ (h2 : 2 ≤ p) (h : ∀ k, 2 ≤ k → k * k ≤ p → p % k ≠ 0) : Prm p := by
  refine ⟨h2, fun d hd => ?_⟩
  obtain ⟨e, he⟩ := hd
  have hd0 : d ≠ 0 := fun h0 => by subst h0; simp at he; omega
  have he0 : e ≠ 0 := fun h0 => by subst h0; simp at he; omega
  by_cases hd1 : d = 1
  · exact .inl hd1
  by_cases he1 : e = 1
  · subst he1; exact .inr (by omega)
  exfalso
  rcases Nat.le_total d e with hle | hle
  · refine h d (by omega) (by rw [he]; exact Nat.mul_le_mul_left d hle) (by rw [he]; exact Nat.mul_mod_right d e)
  · refine h e (by omega) (by rw [he]; exact Nat.mul_le_mul_right e hle) (by rw [he]; exact Nat.mul_mod_left d e)
def prod (l : List Nat) : Nat := l.foldr (· * ·) 1
theorem Ps {l : List Nat} (h : a ∈ l) : prod l = a * prod (l.erase a) := by
  induction l with
  | nil => simp at h
  | cons b l ih =>
    by_cases e : b = a
    · subst e; simp [prod]
    · rw [List.erase_cons_tail (by simpa using e)]
      have := ih ((List.mem_cons.1 h).resolve_left fun h => e h.symm)
      show b * prod l = a * (b * prod (l.erase a))
      rw [this, Nat.mul_left_comm]
theorem K0 : ∀ (l l' : List Nat), l.Nodup → l'.Nodup → (∀ x ∈ l, x ∈ l') → l.length = l'.length → prod l = prod l'
  | [], l', _, _, _, hl => by
    have : l' = [] := List.eq_nil_of_length_eq_zero hl.symm
    rw [this]
  | a :: l, l', hn, hn', h, hl => by
    have h1 : a ∈ l' := h a (by simp)
    have h2 : ∀ x ∈ l, x ∈ l'.erase a := fun x hx => by
      have : x ≠ a := fun e => (List.nodup_cons.1 hn).1 (e ▸ hx)
      exact (List.mem_erase_of_ne this).2 (h x (by simp [hx]))
    have h3 := K0 l (l'.erase a) (List.nodup_cons.1 hn).2 (hn'.erase a) h2 (by rw [List.length_erase_of_mem h1, ← hl]; simp)
    rw [Ps h1, ← h3]; rfl
theorem NY (a p : Nat) : ∀ l : List Nat, prod (l.map fun x => a * x % p) % p = a ^ l.length * prod l % p
  | [] => by simp [prod]
  | x :: l => by
    have ih := NY a p l
    show (a * x % p * prod (l.map fun x => a * x % p)) % p = a ^ (l.length + 1) * (x * prod l) % p
    rw [Nat.mul_mod, ih, Nat.mod_mod, ← Nat.mul_mod]
    congr 1
    rw [Nat.pow_succ]
    simp only [Nat.mul_assoc, Nat.mul_left_comm, Nat.mul_comm]
theorem Prm.prod (hp : Prm p) : ∀ l : List Nat, (∀ x ∈ l, ¬ p ∣ x) → ¬ p ∣ Lin.prod l
  | [], _, h => by
    have := Nat.le_of_dvd (by decide) (show p ∣ 1 from h)
    have := hp.1; omega
  | x :: l, hl, h => by
    rcases hp.mul (show p ∣ x * Lin.prod l from h) with h | h
    · exact hl x (by simp) h
    · exact Prm.prod hp l (fun y hy => hl y (by simp [hy])) h
theorem Wd (hp : Prm p) (ha : ¬ p ∣ a) : a ^ (p - 1) % p = 1 := by
  have hp2 := hp.1
  have hr : ∀ x ∈ (List.range (p - 1)).map (· + 1), 1 ≤ x ∧ x < p := fun x hx => by
    obtain ⟨i, hi, rfl⟩ := List.mem_map.1 hx
    simp at hi; omega
  have hnd : ∀ x, 1 ≤ x → x < p → ¬ p ∣ x := fun x h1 h2 h => by have := Nat.le_of_dvd (by omega) h; omega
  have hn : ((List.range (p - 1)).map (· + 1)).Nodup := List.pairwise_map.2 (List.nodup_range.imp fun h e => h (by omega))
  have hinj : ∀ x y, 1 ≤ x → x < p → 1 ≤ y → y < p → a * x % p = a * y % p → x = y := by
    have go : ∀ x y, x ≤ y → 1 ≤ x → y < p → a * x % p = a * y % p → x = y := fun x y hxy h1 h2 h => by
      have h3 : p ∣ a * y - a * x := Nat.dvd_of_mod_eq_zero (Nat.sub_mod_eq_zero_of_mod_eq h.symm)
      rw [← Nat.mul_sub] at h3
      have h4 := (hp.mul h3).resolve_left ha
      rcases Nat.eq_zero_or_pos (y - x) with h5 | h5
      · omega
      · have := Nat.le_of_dvd h5 h4; omega
    intro x y h1 h2 h3 h4 h
    rcases Nat.le_total x y with h5 | h5
    · exact go x y h5 h1 h4 h
    · exact (go y x h5 h3 h2 h.symm).symm
  have hs := K0 (((List.range (p - 1)).map (· + 1)).map fun x => a * x % p) ((List.range (p - 1)).map (· + 1))
    (List.pairwise_map.2 (hn.imp_of_mem fun {x y} hx hy hne e => hne (hinj x y (hr x hx).1 (hr x hx).2 (hr y hy).1 (hr y hy).2 e))) hn (fun y hy => by
      obtain ⟨x, hx, rfl⟩ := List.mem_map.1 hy
      have h1 : a * x % p < p := Nat.mod_lt _ (by omega)
      have h2 : a * x % p ≠ 0 := fun h0 => by
        rcases hp.mul (Nat.dvd_of_mod_eq_zero h0) with h | h
        · exact ha h
        · exact hnd x (hr x hx).1 (hr x hx).2 h
      exact List.mem_map.2 ⟨a * x % p - 1, by simp; omega, by omega⟩) (by simp)
  have hm := NY a p ((List.range (p - 1)).map (· + 1))
  rw [hs, List.length_map, List.length_range] at hm
  have hP := Prm.prod hp ((List.range (p - 1)).map (· + 1)) fun x hx => hnd x (hr x hx).1 (hr x hx).2
  generalize Lin.prod ((List.range (p - 1)).map (· + 1)) = P at hm hP
  have hpos : 0 < a ^ (p - 1) := Nat.pow_pos (Nat.pos_of_ne_zero fun h => ha (h ▸ Nat.dvd_zero p))
  have h5 : p ∣ a ^ (p - 1) * P - P := Nat.dvd_of_mod_eq_zero (Nat.sub_mod_eq_zero_of_mod_eq hm.symm)
  have e : a ^ (p - 1) * P - P = (a ^ (p - 1) - 1) * P := by rw [Nat.sub_mul, Nat.one_mul]
  rw [e] at h5
  have h6 := (hp.mul h5).resolve_right hP
  obtain ⟨k, hk⟩ := h6
  have h7 : a ^ (p - 1) = p * k + 1 := by omega
  rw [h7, Nat.mul_add_mod, Nat.mod_eq_of_lt (by omega)]
structure FY (p : Int) : Prop where
  two : 2 ≤ p
  inv : ∀ a, ¬ p ∣ a → ∃ b, Cg p (a * b) 1
  mul : ∀ a b, p ∣ a * b → p ∣ a ∨ p ∣ b
theorem Prm.fld (hp : Prm p) : FY p := by
  have hp2 := hp.1
  have hpp : (0 : Int) < p := by omega
  have key : ∀ a : Int, (p : Int) ∣ a ↔ p ∣ (a % p).toNat := fun a => by
    have h1 := Int.emod_nonneg a (show (p : Int) ≠ 0 by omega)
    rw [Int.dvd_iff_emod_eq_zero]
    constructor
    · intro h; rw [h]; exact Nat.dvd_zero p
    · intro h
      have h2 := Int.emod_lt_of_pos a hpp
      rcases Nat.eq_zero_or_pos (a % p).toNat with h3 | h3
      · omega
      · have := Nat.le_of_dvd h3 h; omega
  refine ⟨by omega, fun a ha => ?_, fun a b h => ?_⟩
  · have ha' : ¬ p ∣ (a % p).toNat := fun h => ha ((key a).2 h)
    have hf := Wd hp ha'
    have h1 := Int.emod_nonneg a (show (p : Int) ≠ 0 by omega)
    refine ⟨(((a % p).toNat ^ (p - 2) : Nat) : Int), ?_⟩
    have e1 : Cg p (a * (((a % p).toNat ^ (p - 2) : Nat) : Int)) ((((a % p).toNat : Nat) : Int) * (((a % p).toNat ^ (p - 2) : Nat) : Int)) := by
      refine Cg.mul ?_ (Cg.refl _ _)
      rw [Int.toNat_of_nonneg h1]; exact (Cg.mod p a).symm
    refine e1.trans ?_
    rw [← Int.natCast_mul, Nat.mul_comm, ← Nat.pow_succ, show (p - 2).succ = p - 1 by omega]
    refine Cg.iff_mod.2 ?_
    have := congrArg (fun n : Nat => (n : Int)) hf
    simp only [Int.natCast_emod] at this
    rw [this, Int.emod_eq_of_lt (by omega) (by omega)]; rfl
  · have h1 := Int.emod_nonneg a (show (p : Int) ≠ 0 by omega)
    have h2 := Int.emod_nonneg b (show (p : Int) ≠ 0 by omega)
    have h3 : p ∣ (a % p).toNat * (b % p).toNat := by
      have : ((p : Int)) ∣ (a % p) * (b % p) := by
        have h4 := ((Cg.mod p a).mul (Cg.mod p b))
        have h5 : Cg p (a * b) 0 := by unfold Cg; rw [Int.sub_zero]; exact h
        have := h4.trans h5
        unfold Cg at this; rwa [Int.sub_zero] at this
      rw [← Int.toNat_of_nonneg h1, ← Int.toNat_of_nonneg h2, ← Int.natCast_mul] at this
      exact Int.natCast_dvd_natCast.1 this
    rcases hp.mul h3 with h | h
    · exact .inl ((key a).2 h)
    · exact .inr ((key b).2 h)
end Go.Lin

namespace Go.Lin
def skip (j0 j : Nat) : Nat := if j < j0 then j else j + 1
theorem VQ (m j0 : Nat) (f : Nat → Int) (h : j0 < m + 1) : sm (m + 1) f = sm m (fun j => f (skip j0 j)) + f j0 := by
  induction m with
  | zero => have : j0 = 0 := by omega
            subst this; simp [sm]
  | succ m ih =>
    by_cases e : j0 = m + 1
    · subst e
      show sm (m + 1) f + f (m + 1) = _
      congr 1
      exact A9 fun i hi => by unfold skip; rw [if_pos hi]
    · show sm (m + 1) f + f (m + 1) = sm m (fun j => f (skip j0 j)) + f (skip j0 m) + f j0
      rw [ih (by omega)]
      have : skip j0 m = m + 1 := by unfold skip; rw [if_neg (by omega)]
      rw [this]; omega
theorem UO {j0 j m : Nat} (h : j < m) : skip j0 j < m + 1 := by unfold skip; split <;> omega
theorem Ks {p : Int} (F : FY p) : ∀ (k m : Nat) (A : Nat → Nat → Int), k < m → ∃ c : Nat → Int, (∃ j, j < m ∧ ¬ p ∣ c j) ∧ ∀ i, i < k → Cg p (sm m fun j => A i j * c j) 0 := by
  intro k
  induction k with
  | zero =>
    intro m A hm
    refine ⟨fun _ => 1, ⟨0, hm, fun h => ?_⟩, fun i hi => by omega⟩
    have h : p ∣ 1 := h
    have := Int.le_of_dvd (by decide) h
    have := F.two; omega
  | succ k ih =>
    intro m A hm
    obtain ⟨m, rfl⟩ : ∃ m', m = m' + 1 := ⟨m - 1, by omega⟩
    by_cases hz : ∀ j, j < m + 1 → p ∣ A k j
    · obtain ⟨c, h1, h2⟩ := ih (m + 1) A (by omega)
      refine ⟨c, h1, fun i hi => ?_⟩
      by_cases e : i = k
      · subst e
        have : Cg p (sm (m + 1) fun j => A i j * c j) (sm (m + 1) fun _ => 0) := Cg.sm fun j hj => by
          have h3 : Cg p (A i j) 0 := by unfold Cg; rw [Int.sub_zero]; exact hz j hj
          have := h3.mul (Cg.refl p (c j))
          rwa [Int.zero_mul] at this
        rwa [El] at this
      · exact h2 i (by omega)
    · obtain ⟨j0, hj0⟩ := Classical.not_forall.1 hz
      obtain ⟨hj, hnd⟩ := Classical.not_imp.1 hj0
      obtain ⟨b, hb⟩ := F.inv _ hnd
      obtain ⟨c, ⟨j1, hj1, hc1⟩, h2⟩ := ih m (fun i j => A i (skip j0 j) - A i j0 * b * A k (skip j0 j)) (by omega)
      -- the unknown that is left out
      obtain ⟨t, ht⟩ : ∃ t, t = sm m fun j => A k (skip j0 j) * c j := ⟨_, rfl⟩
      let c' : Nat → Int := fun i => if i < j0 then c i else if i = j0 then -(b * t) else c (i - 1)
      have hc' : ∀ j, c' (skip j0 j) = c j := fun j => by
        show (if skip j0 j < j0 then c (skip j0 j) else if skip j0 j = j0 then -(b * t) else c (skip j0 j - 1)) = c j
        unfold skip
        by_cases h : j < j0
        · simp [h]
        · simp only [h, if_false]
          rw [if_neg (by omega), if_neg (by omega)]; congr 1
      have hc0 : c' j0 = -(b * t) := by
        show (if j0 < j0 then c j0 else if j0 = j0 then -(b * t) else c (j0 - 1)) = _
        rw [if_neg (by omega), if_pos rfl]
      refine ⟨c', ⟨skip j0 j1, UO hj1, by rw [hc']; exact hc1⟩, fun i hi => ?_⟩
      rw [VQ m j0 _ hj, hc0]
      have e1 : sm m (fun j => A i (skip j0 j) * c' (skip j0 j)) = sm m fun j => A i (skip j0 j) * c j := A9 fun j _ => by rw [hc']
      rw [e1]
      by_cases e : i = k
      · subst e
        -- t - A b t
        rw [← ht]
        have h3 : Cg p (A i j0 * (-(b * t))) (-t) := by
          have := (hb.mul (Cg.refl p t)).neg
          rw [Int.one_mul] at this
          have e2 : A i j0 * -(b * t) = -(A i j0 * b * t) := by rw [Int.mul_neg, Int.mul_assoc]
          rw [e2]; exact this
        have := (Cg.refl p t).add h3
        rw [show t + -t = 0 by omega] at this
        exact this
      · have h3 := h2 i (by omega)
        have e2 : (sm m fun j => (A i (skip j0 j) - A i j0 * b * A k (skip j0 j)) * c j) = (sm m fun j => A i (skip j0 j) * c j) + A i j0 * -(b * t) := by
          rw [A9 (g := fun j => A i (skip j0 j) * c j - A i j0 * b * (A k (skip j0 j) * c j)) fun j _ => by rw [Int.sub_mul, Int.mul_assoc (A i j0 * b)], Pp, EA, ← ht, Int.mul_neg, Int.mul_assoc]
          omega
        rw [e2] at h3; exact h3
theorem Jw {l : List Nat} (hn : l.Nodup) {i j : Nat} {a : Nat} (h1 : l[i]? = some a) (h2 : l[j]? = some a) : i = j := by
  obtain ⟨i1, i2⟩ := List.getElem?_eq_some_iff.1 h1
  obtain ⟨j1, j2⟩ := List.getElem?_eq_some_iff.1 h2
  have hp := List.pairwise_iff_getElem.1 hn
  rcases Nat.lt_trichotomy i j with h | h | h
  · exact absurd (i2.trans j2.symm) (hp i j i1 j1 h)
  · exact h
  · exact absurd (j2.trans i2.symm) (hp j i j1 i1 h)
def Da (n : Nat) (b : Nat → Bool) (c : Nat → Int) (v : Nat → Nat → Int) (i : Nat) : Int := sm n fun l => if b l then c l * v l i else 0
variable {f : Nat → Int} {d : Int} {j : Nat}
theorem cgz {p c : Int} : Cg p c 0 ↔ p ∣ c := by unfold Cg; rw [Int.sub_zero]
theorem OP : ∀ (m : Nat) (P : Nat → Prop) (k : Nat → Nat) (l0 : Nat), l0 < m → P l0 → ∃ l, l < m ∧ P l ∧ ∀ l', l' < m → P l' → k l' ≤ k l
  | 0, _, _, _, h, _ => absurd h (by omega)
  | m + 1, P, k, l0, h, hP => by
    by_cases h1 : ∃ l1, l1 < m ∧ P l1
    · obtain ⟨l1, h2, h3⟩ := h1
      obtain ⟨l, h4, h5, h6⟩ := OP m P k l1 h2 h3
      by_cases h7 : P m ∧ k l < k m
      · refine ⟨m, by omega, h7.1, fun l' hl' hp => ?_⟩
        rcases (by omega : l' < m ∨ l' = m) with h8 | rfl
        · have := h6 l' h8 hp; omega
        · omega
      · refine ⟨l, by omega, h5, fun l' hl' hp => ?_⟩
        rcases (by omega : l' < m ∨ l' = m) with h8 | rfl
        · exact h6 l' h8 hp
        · exact Nat.le_of_not_lt fun h9 => h7 ⟨hp, h9⟩
    · have : l0 = m := by
        rcases (by omega : l0 < m ∨ l0 = m) with h8 | h8
        · exact absurd ⟨l0, h8, hP⟩ h1
        · exact h8
      subst this
      refine ⟨l0, by omega, hP, fun l' hl' hp => ?_⟩
      rcases (by omega : l' < l0 ∨ l' = l0) with h8 | rfl
      · exact absurd ⟨l', h8, hp⟩ h1
      · exact Nat.le_refl _
theorem He {p : Int} {n : Nat} (h : ∀ i, i < n → p ∣ f i) : p ∣ sm n f := by
  have := Cg.sm (p := p) (n := n) (f := f) (g := fun _ => 0) fun i hi => cgz.2 (h i hi)
  rw [El] at this
  exact cgz.1 this
theorem XK {p : Int} {n : Nat} (h : ¬ p ∣ sm n f) : ∃ i, i < n ∧ ¬ p ∣ f i :=
  Classical.byContradiction fun h1 => h (He fun i hi => Classical.byContradiction fun h2 => h1 ⟨i, hi, h2⟩)
theorem Va {p : Int} {n k : Nat} (hk : k < n) (h : ∀ i, i < n → i ≠ k → p ∣ f i) : Cg p (sm n f) (f k) := by
  rw [← Ev n k f hk]
  refine Cg.sm fun i hi => ?_
  by_cases e : i = k
  · rw [if_pos e]; exact Cg.refl _ _
  · rw [if_neg e]; exact cgz.2 (h i hi e)
theorem Cg.dvd_iff {p a b : Int} (h : Cg p a b) : p ∣ a ↔ p ∣ b := by
  rw [← cgz, ← cgz]
  exact ⟨fun q => h.symm.trans q, fun q => h.trans q⟩
def VI (p : Int) (n : Nat) (pos : Nat → Nat) (x : Nat → Int) (i : Nat) : Prop := i < n ∧ ¬ p ∣ x i ∧ ∀ i', i' < n → ¬ p ∣ x i' → pos i' ≤ pos i
section
variable {p : Int} {n m : Nat} {pos : Nat → Nat} {v : Nat → Nat → Int} {b : Nat → Bool} {τ : Nat → Nat}
theorem EF (F : FY p) (hT : ∀ l, l < m → b l = true → VI p n pos (v l) (τ l)) (hi : ∀ l l', l < m → l' < m → b l = true → b l' = true → pos (τ l) = pos (τ l') → l = l') (c : Nat → Int) {l0 : Nat} (h0 : l0 < m) (hb0 : b l0 = true) (hc0 : ¬ p ∣ c l0) : ∃ i, i < n ∧ ¬ p ∣ Da m b c v i ∧ pos (τ l0) ≤ pos i := by
  obtain ⟨l, hl, ⟨hb, hc⟩, hmax⟩ := OP m (fun l => b l = true ∧ ¬ p ∣ c l) (fun l => pos (τ l)) l0 h0 ⟨hb0, hc0⟩
  obtain ⟨t1, t2, t3⟩ := hT l hl hb
  refine ⟨τ l, t1, fun h => ?_, hmax l0 h0 ⟨hb0, hc0⟩⟩
  have e : Cg p (Da m b c v (τ l)) (if b l then c l * v l (τ l) else 0) := by
    refine Va hl fun l' hl' hne => ?_
    cases hb' : b l' with
    | false => exact Int.dvd_zero p
    | true =>
      simp only [if_true]
      by_cases h1 : p ∣ c l'
      · exact Int.dvd_mul_of_dvd_left h1
      · by_cases h2 : p ∣ v l' (τ l)
        · exact Int.dvd_mul_of_dvd_right h2
        · exact absurd (hi l' l hl' hl hb' hb (Nat.le_antisymm (hmax l' hl' ⟨hb', h1⟩) ((hT l' hl' hb').2.2 _ t1 h2))) hne
  rw [e.dvd_iff, hb, if_pos rfl] at h
  rcases F.mul _ _ h with h | h
  · exact hc h
  · exact t2 h
theorem Ik (F : FY p) (pinj : ∀ i j, i < n → j < n → pos i = pos j → i = j) (hT : ∀ l, l < m → b l = true → VI p n pos (v l) (τ l)) (Q : (Nat → Int) → Prop) (hQ : ∀ x c l, Q x → l < m → b l = true → Q fun i => x i - c * v l i) (hQT : ∀ x i, Q x → VI p n pos x i → ∃ l, l < m ∧ b l = true ∧ τ l = i) : ∀ (M : Nat) (x : Nat → Int), Q x → (∀ i, i < n → ¬ p ∣ x i → pos i < M) → ∃ c, ∀ i, i < n → Cg p (x i) (Da m b c v i)
  | 0, x, hx, h => ⟨fun _ => 0, fun i hi => by
    have h1 : p ∣ x i := Classical.byContradiction fun h1 => absurd (h i hi h1) (by omega)
    have h2 : Da m b (fun _ => 0) v i = 0 := Ij fun l _ => by cases b l <;> simp
    rw [h2]; exact cgz.2 h1⟩
  | M + 1, x, hx, h => by
    by_cases hM : ∃ i, i < n ∧ ¬ p ∣ x i ∧ pos i = M
    · obtain ⟨i, hi, hn, hp⟩ := hM
      obtain ⟨l, hl, hb, rfl⟩ := hQT x i hx ⟨hi, hn, fun i' hi' h' => by have := h i' hi' h'; omega⟩
      obtain ⟨t1, t2, t3⟩ := hT l hl hb
      obtain ⟨w, hw⟩ := F.inv _ t2
      let c0 : Int := x (τ l) * w
      have hz : Cg p (x (τ l) - c0 * v l (τ l)) 0 := by
        have h1 : Cg p (c0 * v l (τ l)) (x (τ l)) := by
          have := (Cg.refl p (x (τ l))).mul hw
          rw [Int.mul_one] at this
          refine (Cg.of_eq ?_).trans this
          show x (τ l) * w * v l (τ l) = _
          rw [Int.mul_assoc, Int.mul_comm w]
        have := (Cg.refl p (x (τ l))).sub h1
        rwa [Int.sub_self] at this
      obtain ⟨c, hc⟩ := Ik F pinj hT Q hQ hQT M (fun i => x i - c0 * v l i) (hQ x c0 l hx hl hb) fun i' hi' h' => by
        have h1 : pos i' ≤ M := by
          by_cases h2 : p ∣ x i'
          · have h3 : ¬ p ∣ v l i' := fun h3 => h' (Int.dvd_sub h2 (Int.dvd_mul_of_dvd_right h3))
            have := t3 i' hi' h3; omega
          · have := h i' hi' h2; omega
        have h4 : pos i' ≠ M := fun h4 => by
          have : i' = τ l := pinj _ _ hi' hi (by omega)
          subst this
          exact h' (cgz.1 hz)
        omega
      refine ⟨fun l' => c l' + if l' = l then c0 else 0, fun i hi => ?_⟩
      have h1 := (hc i hi).add (Cg.refl p (c0 * v l i))
      rw [Int.sub_add_cancel] at h1
      refine h1.trans (Cg.of_eq ?_)
      have e2 : c0 * v l i = sm m fun l' => if l' = l then c0 * v l i else 0 := (Ev m l (fun _ => c0 * v l i) hl).symm
      unfold Da
      rw [e2, ← L5]
      refine A9 fun l' _ => ?_
      by_cases e : l' = l
      · subst e; simp only [hb, if_true]; rw [Int.add_mul]
      · cases b l' <;> simp [e]
    · exact Ik F pinj hT Q hQ hQT M x hx fun i hi h' => by
        have := h i hi h'
        have : pos i ≠ M := fun e => hM ⟨i, hi, h', e⟩
        omega
theorem Mm (n : Nat) (pos : Nat → Nat) : ∃ M, ∀ i, i < n → pos i < M := by
  induction n with
  | zero => exact ⟨0, fun i hi => by omega⟩
  | succ n ih =>
    obtain ⟨M, h⟩ := ih
    refine ⟨max M (pos n + 1), fun i hi => ?_⟩
    rcases (by omega : i < n ∨ i = n) with h1 | rfl
    · have := h i h1; omega
    · omega
end
def Dc (n : Nat) (D : Nat → Nat → Int) (x : Nat → Int) (i : Nat) : Int := sm n fun k => D i k * x k
theorem Mi {p : Int} {n : Nat} {D : Nat → Nat → Int} {x y : Nat → Int} (h : ∀ k, k < n → Cg p (x k) (y k)) (i : Nat) : Cg p (Dc n D x i) (Dc n D y i) := Cg.sm fun k hk => (Cg.refl _ _).mul (h k hk)
theorem HI (n m : Nat) (D : Nat → Nat → Int) (b : Nat → Bool) (c : Nat → Int) (v : Nat → Nat → Int) (i : Nat) : Dc n D (Da m b c v) i = Da m b c (fun l => Dc n D (v l)) i := by
  unfold Dc Da
  have : (sm n fun k => D i k * sm m fun l => if b l then c l * v l k else 0) = sm n fun k => sm m fun l => if b l then c l * (D i k * v l k) else 0 := A9 fun k _ => by
    rw [← EA]
    refine A9 fun l _ => ?_
    cases b l
    · simp
    · simp only [if_true]; rw [← Int.mul_assoc, ← Int.mul_assoc, Int.mul_comm (D i k)]
  rw [this, FA]
  refine A9 fun l _ => ?_
  cases b l
  · simp [El]
  · simp only [if_true]; rw [EA]
structure Rdc (p : Int) (n : Nat) (D : Nat → Nat → Int) (dm : Nat → Int) (pos : Nat → Nat) (v : Nat → Nat → Int) (low : Nat → Option Nat) : Prop where
  F : FY p
  D2 : ∀ i j, i < n → j < n → p ∣ Dc n D (fun k => D k j) i
  Ddm : ∀ i j, i < n → j < n → ¬ p ∣ D i j → dm j = dm i + 1
  pinj : ∀ i j, i < n → j < n → pos i = pos j → i = j
  vtop : ∀ j, j < n → VI p n pos (v j) j
  vdm : ∀ j i, j < n → i < n → ¬ p ∣ v j i → dm i = dm j
  lnone : ∀ j, j < n → low j = none → ∀ i, i < n → p ∣ Dc n D (v j) i
  lsome : ∀ j i, j < n → low j = some i → VI p n pos (Dc n D (v j)) i
  linj : ∀ j j' i, j < n → j' < n → low j = some i → low j' = some i → j = j'
section
variable {p : Int} {n : Nat} {D : Nat → Nat → Int} {dm : Nat → Int} {pos pos' : Nat → Nat} {v v' : Nat → Nat → Int} {low low' : Nat → Option Nat}
def D4 (dm : Nat → Int) (low : Nat → Option Nat) (d : Int) (j : Nat) : Bool := decide (dm j = d) && (low j).isSome
def lo (low : Nat → Option Nat) (j : Nat) : Nat := (low j).getD 0
theorem prs_iff : D4 dm low d j = true ↔ dm j = d ∧ low j = some (lo low j) := by
  unfold D4 lo
  rw [Bool.and_eq_true, decide_eq_true_eq]
  cases low j <;> simp
theorem Rdc.prs_top (R : Rdc p n D dm pos v low) (hj : j < n) (h : D4 dm low d j = true) : VI p n pos (Dc n D (v j)) (lo low j) := R.lsome j _ hj (prs_iff.1 h).2
theorem Rdc.prs_inj (R : Rdc p n D dm pos v low) (l l' : Nat) (hl : l < n) (hl' : l' < n) (h : D4 dm low d l = true) (h' : D4 dm low d l' = true) (e : pos (lo low l) = pos (lo low l')) : l = l' := by
  have e1 := R.pinj _ _ (R.prs_top hl h).1 (R.prs_top hl' h').1 e
  refine R.linj l l' _ hl hl' (prs_iff.1 h).2 ?_
  rw [e1]; exact (prs_iff.1 h').2
theorem Rdc.all (R : Rdc p n D dm pos v low) (d : Int) (x : Nat → Int) (hx : ∀ i, i < n → ¬ p ∣ x i → dm i = d) : ∃ c, ∀ i, i < n → Cg p (x i) (Da n (fun l => decide (dm l = d)) c v i) := by
  obtain ⟨M, hM⟩ := Mm n pos
  refine Ik (τ := fun l => l) R.F R.pinj (fun l hl _ => R.vtop l hl) (fun x => ∀ i, i < n → ¬ p ∣ x i → dm i = d) (fun x c l h hl hb i hi hn => ?_) (fun x i h hT => ⟨i, hT.1, decide_eq_true (h i hT.1 hT.2.1), rfl⟩) M x hx fun i hi _ => hM i hi
  by_cases h1 : p ∣ x i
  · have h2 : ¬ p ∣ v l i := fun h2 => hn (Int.dvd_sub h1 (Int.dvd_mul_of_dvd_right h2))
    rw [R.vdm l i hl hi h2]; exact of_decide_eq_true hb
  · exact h i hi h1
theorem Rdc.chg (R : Rdc p n D dm pos v low) (R' : Rdc p n D dm pos' v' low') {g : Nat → Int} {δ : Int} (hf : ∀ i j, i < n → j < n → pos i ≤ pos j → f i ≤ f j) (hg : ∀ i j, i < n → j < n → pos' i ≤ pos' j → g i ≤ g j) (hfg : ∀ i, i < n → g i ≤ f i + δ) (d : Int) :
    ∃ C : Nat → Nat → Int, ∀ j, j < n → D4 dm low d j = true → (∀ i, i < n → Cg p (Dc n D (v j) i) (Da n (D4 dm low' d) (C j) (fun k => Dc n D (v' k)) i)) ∧ ∀ k, k < n → D4 dm low' d k = true → ¬ p ∣ C j k → g k ≤ f j + δ ∧ g (lo low' k) ≤ f (lo low j) + δ := by
  have hex : ∀ j, ∃ c : Nat → Int, j < n → dm j = d → ∀ i, i < n → Cg p (v j i) (Da n (fun l => decide (dm l = d)) c v' i) := fun j => by
    by_cases h : j < n ∧ dm j = d
    · obtain ⟨c, hc⟩ := R'.all d (v j) fun i hi hn => (R.vdm j i h.1 hi hn).trans h.2
      exact ⟨c, fun _ _ => hc⟩
    · exact ⟨fun _ => 0, fun h1 h2 => absurd ⟨h1, h2⟩ h⟩
  obtain ⟨C, hC⟩ := Classical.axiomOfChoice hex
  refine ⟨C, fun j hj hb => ?_⟩
  obtain ⟨hd, hlow⟩ := prs_iff.1 hb
  have hv := hC j hj hd
  have hr : ∀ i, i < n → Cg p (Dc n D (v j) i) (Da n (D4 dm low' d) (C j) (fun k => Dc n D (v' k)) i) := fun i hi => by
    refine (Mi hv i).trans ?_
    rw [HI]
    refine Cg.sm fun k hk => ?_
    show Cg p (if decide (dm k = d) = true then _ else 0) _
    by_cases h1 : dm k = d
    · cases h2 : low' k with
      | none =>
        have h3 : D4 dm low' d k = false := by simp [D4, h2]
        rw [h3, decide_eq_true h1, if_pos rfl]
        exact cgz.2 (Int.dvd_mul_of_dvd_right (R'.lnone k hk h2 i hi))
      | some i' =>
        have h3 : D4 dm low' d k = true := by simp [D4, h2, h1]
        rw [h3, decide_eq_true h1]; exact Cg.refl _ _
    · have h3 : D4 dm low' d k = false := by simp [D4, h1]
      rw [h3, decide_eq_false h1]; exact Cg.refl _ _
  refine ⟨hr, fun k hk hbk hck => ⟨?_, ?_⟩⟩
  · obtain ⟨i, hi, h1, h2⟩ := EF (τ := fun l => l) (b := fun l => decide (dm l = d)) R.F (fun l hl _ => R'.vtop l hl) (fun l l' hl hl' _ _ e => R'.pinj l l' hl hl' e) (C j) hk (decide_eq_true (prs_iff.1 hbk).1) hck
    have h3 : ¬ p ∣ v j i := fun h => h1 ((hv i hi).dvd_iff.1 h)
    have h4 := hf i j hi hj ((R.vtop j hj).2.2 i hi h3)
    have h5 := hg k i hk hi h2
    have h6 := hfg i hi
    omega
  · obtain ⟨i, hi, h1, h2⟩ := EF (τ := lo low') R.F (fun l hl hb => R'.prs_top hl hb) (fun l l' hl hl' hb hb' e => R'.prs_inj l l' hl hl' hb hb' e) (C j) hk hbk hck
    have h3 : ¬ p ∣ Dc n D (v j) i := fun h => h1 ((hr i hi).dvd_iff.1 h)
    have hT := R.prs_top hj hb
    have h4 := hf i (lo low j) hi hT.1 (hT.2.2 i hi h3)
    have h5 := hg _ i (R'.prs_top hk hbk).1 hi h2
    have h6 := hfg i hi
    omega
theorem Rdc.undo (R : Rdc p n D dm pos v low) {bG : Nat → Bool} {r' : Nat → Nat → Int} {C E : Nat → Nat → Int} (hC : ∀ j, j < n → D4 dm low d j = true → ∀ i, i < n → Cg p (Dc n D (v j) i) (Da n bG (C j) r' i)) (hE : ∀ k, k < n → bG k = true → ∀ i, i < n → Cg p (r' k i) (Da n (D4 dm low d) (E k) (fun j => Dc n D (v j)) i)) {j' : Nat} (hj : j < n) (hj' : j' < n) (hb : D4 dm low d j = true) (hb' : D4 dm low d j' = true) : Cg p (sm n fun k => if bG k then C j k * E k j' else 0) (if j' = j then 1 else 0) := by
  let r : Nat → Nat → Int := fun j => Dc n D (v j)
  let X : Nat → Int := fun j' => (sm n fun k => if bG k then C j k * E k j' else 0) - if j' = j then 1 else 0
  have h0 : ∀ i, i < n → p ∣ Da n (D4 dm low d) X r i := fun i hi => by
    have h1 := hC j hj hb i hi
    have h2 : Cg p (Da n bG (C j) r' i) (sm n fun k => if bG k then C j k * Da n (D4 dm low d) (E k) r i else 0) := Cg.sm fun k hk => by
      cases hbk : bG k with
      | false => exact Cg.refl _ _
      | true => simp only [if_true]; exact (Cg.refl _ _).mul (hE k hk hbk i hi)
    have h3 : (sm n fun k => if bG k then C j k * Da n (D4 dm low d) (E k) r i else 0) = sm n fun l => if D4 dm low d l then (sm n fun k => if bG k then C j k * E k l else 0) * r l i else 0 := by
      have : (sm n fun k => if bG k then C j k * Da n (D4 dm low d) (E k) r i else 0) = sm n fun k => sm n fun l => if D4 dm low d l then (if bG k then C j k * E k l else 0) * r l i else 0 := A9 fun k _ => by
        cases bG k with
        | false => simp only [Bool.false_eq_true, if_false, Int.zero_mul]; exact (Ij fun l _ => by split <;> rfl).symm
        | true =>
          simp only [if_true]
          unfold Da
          rw [← EA]
          refine A9 fun l _ => ?_
          cases D4 dm low d l
          · simp
          · simp only [if_true]; rw [Int.mul_assoc]
      rw [this, FA]
      refine A9 fun l _ => ?_
      cases D4 dm low d l
      · simp [El]
      · simp only [if_true]; rw [Gh]
    rw [h3] at h2
    have h4 : r j i = sm n fun l => if D4 dm low d l then (if l = j then 1 else 0) * r l i else 0 := by
      rw [A9 (g := fun l => if l = j then r l i else 0) fun l _ => by
        by_cases e : l = j
        · subst e; simp [hb]
        · cases D4 dm low d l <;> simp [e], Ev n j (fun l => r l i) hj]
    have h5 := h2.symm.trans (h1.symm.trans (Cg.of_eq h4))
    have h6 := h5.sub (Cg.refl p (sm n fun l => if D4 dm low d l then (if l = j then 1 else 0) * r l i else 0))
    rw [Int.sub_self, ← Pp] at h6
    have h7 : Da n (D4 dm low d) X r i = sm n fun l => (if D4 dm low d l then (sm n fun k => if bG k then C j k * E k l else 0) * r l i else 0) - if D4 dm low d l then (if l = j then 1 else 0) * r l i else 0 := A9 fun l _ => by
      cases D4 dm low d l
      · simp
      · simp only [if_true]; rw [← Int.sub_mul]
    rw [h7]
    exact cgz.1 h6
  refine Classical.byContradiction fun h1 => ?_
  obtain ⟨i, hi, h2, _⟩ := EF (τ := lo low) R.F (fun l hl hb => R.prs_top hl hb) (fun l l' hl hl' hb hb' e => R.prs_inj l l' hl hl' hb hb' e) X hj' hb' (fun h => h1 h)
  exact h2 (h0 i hi)
theorem Rdc.near (R : Rdc p n D dm pos v low) (R' : Rdc p n D dm pos' v' low') {g : Nat → Int} {δ : Int} (hf : ∀ i j, i < n → j < n → pos i ≤ pos j → f i ≤ f j) (hg : ∀ i j, i < n → j < n → pos' i ≤ pos' j → g i ≤ g j) (hfg : ∀ i, i < n → g i ≤ f i + δ ∧ f i ≤ g i + δ) (d : Int) (A S : List Nat) (hA : A.Nodup) (hAb : ∀ j ∈ A, j < n ∧ D4 dm low d j = true)
    (hS : ∀ k, k < n → D4 dm low' d k = true → ∀ j ∈ A, (f (lo low j) ≤ g (lo low' k) + δ ∧ g (lo low' k) ≤ f (lo low j) + δ) → (f j ≤ g k + δ ∧ g k ≤ f j + δ) → k ∈ S) : A.length ≤ S.length := by
  refine Nat.le_of_not_lt fun hlt => ?_
  obtain ⟨C, hC⟩ := R.chg R' hf hg (fun i hi => (hfg i hi).1) d
  obtain ⟨E, hE⟩ := R'.chg R hg hf (fun i hi => (hfg i hi).2) d
  have hU := fun j hj (hb : D4 dm low d j = true) j' hj' (hb' : D4 dm low d j' = true) => R.undo (bG := D4 dm low' d) (fun j hj hb => (hC j hj hb).1) (fun k hk hb => (hE k hk hb).1) hj hj' hb hb'
  let m := A.length
  let a : Nat → Nat := fun t => A.getD t 0
  have ha : ∀ t, t < m → a t ∈ A := fun t ht => by
    have : a t = A[t] := by simp [a, List.getD, show t < A.length from ht]
    rw [this]; exact List.getElem_mem _
  have hinj : ∀ s t, s < m → t < m → a s = a t → s = t := fun s t hs ht e => by
    have e1 : A[s]? = some (a s) := by simp [a, List.getD, show s < A.length from hs]
    have e2 : A[t]? = some (a s) := by rw [e]; simp [a, List.getD, show t < A.length from ht]
    exact Jw hA e1 e2
  obtain ⟨x, ⟨t0, ht0, hx0⟩, hz⟩ := Ks R.F S.length m (fun i t => C (a t) (S.getD i 0)) hlt
  have hzS : ∀ k ∈ S, p ∣ sm m fun t => C (a t) k * x t := fun k hk => by
    obtain ⟨i, hi, rfl⟩ := List.getElem_of_mem hk
    have := hz i hi
    have e : S.getD i 0 = S[i] := by simp [List.getD, hi]
    rw [e] at this
    exact cgz.1 this
  let al : Nat → Int := fun t => f (lo low (a t)) + f (a t)
  -- the greatest one that has a part
  obtain ⟨B, hB⟩ : ∃ B : Int, ∀ t, t < m → -B ≤ al t := by
    have : ∀ m' : Nat, ∃ B : Int, ∀ t, t < m' → -B ≤ al t := fun m' => by
      induction m' with
      | zero => exact ⟨0, fun t ht => by omega⟩
      | succ m' ih =>
        obtain ⟨B, h⟩ := ih
        refine ⟨max B (-al m'), fun t ht => ?_⟩
        rcases (by omega : t < m' ∨ t = m') with h1 | rfl
        · have := h t h1; omega
        · omega
    exact this m
  obtain ⟨t1, ht1, hx1, hmax⟩ := OP m (fun t => ¬ p ∣ x t) (fun t => (al t + B).toNat) t0 ht0 hx0
  have hmax : ∀ t, t < m → ¬ p ∣ x t → al t ≤ al t1 := fun t ht h => by
    have := hmax t ht h
    have := hB t ht
    have := hB t1 ht1
    omega
  have hj1 := hAb _ (ha t1 ht1)
  -- x t1 by both changes
  have e1 : Cg p (sm m fun t => x t * sm n fun k => if D4 dm low' d k then C (a t) k * E k (a t1) else 0) (x t1) := by
    have e2 : ∀ t, t < m → Cg p (x t * sm n fun k => if D4 dm low' d k then C (a t) k * E k (a t1) else 0) (if t = t1 then x t else 0) := fun t ht => by
      have hj := hAb _ (ha t ht)
      have := (Cg.refl p (x t)).mul (hU (a t) hj.1 hj.2 (a t1) hj1.1 hj1.2)
      refine this.trans (Cg.of_eq ?_)
      by_cases e : t = t1
      · subst e; simp
      · rw [if_neg e, if_neg fun h => e (hinj _ _ ht1 ht h).symm, Int.mul_zero]
    have := Cg.sm (p := p) (n := m) e2
    rwa [Ev m t1 x ht1] at this
  have e3 : (sm m fun t => x t * sm n fun k => if D4 dm low' d k then C (a t) k * E k (a t1) else 0) = sm n fun k => if D4 dm low' d k then (sm m fun t => C (a t) k * x t) * E k (a t1) else 0 := by
    rw [A9 (g := fun t => sm n fun k => if D4 dm low' d k then (C (a t) k * x t) * E k (a t1) else 0) fun t _ => by
      rw [← EA]
      refine A9 fun k _ => ?_
      cases D4 dm low' d k
      · simp
      · simp only [if_true]; rw [← Int.mul_assoc, Int.mul_comm (x t)], FA]
    refine A9 fun k _ => ?_
    cases D4 dm low' d k
    · simp [El]
    · simp only [if_true]; rw [Gh]
  rw [e3] at e1
  refine hx1 (e1.dvd_iff.1 (He fun k hk => ?_))
  cases hbk : D4 dm low' d k with
  | false => exact Int.dvd_zero p
  | true =>
    simp only [if_true]
    by_cases hkS : k ∈ S
    · exact Int.dvd_mul_of_dvd_left (hzS k hkS)
    by_cases h2 : p ∣ E k (a t1)
    · exact Int.dvd_mul_of_dvd_right h2
    refine Int.dvd_mul_of_dvd_left (He fun t ht => ?_)
    by_cases h3 : p ∣ x t
    · exact Int.dvd_mul_of_dvd_right h3
    by_cases h4 : p ∣ C (a t) k
    · exact Int.dvd_mul_of_dvd_left h4
    exfalso
    have hj := hAb _ (ha t ht)
    obtain ⟨b1, b2⟩ := (hC _ hj.1 hj.2).2 k hk hbk h4
    obtain ⟨b3, b4⟩ := (hE k hk hbk).2 _ hj1.1 hj1.2 h2
    have hm := hmax t ht h3
    have n1 := fun h h' => hkS (hS k hk hbk _ (ha t ht) h h')
    have n2 := fun h h' => hkS (hS k hk hbk _ (ha t1 ht1) h h')
    simp only [al] at hm
    by_cases c1 : f (lo low (a t)) ≤ g (lo low' k) + δ ∧ f (a t) ≤ g k + δ
    · exact n1 ⟨c1.1, b2⟩ ⟨c1.2, b1⟩
    by_cases c2 : g (lo low' k) ≤ f (lo low (a t1)) + δ ∧ g k ≤ f (a t1) + δ
    · exact n2 ⟨b4, c2.1⟩ ⟨b3, c2.2⟩
    omega
def opn (n : Nat) (dm : Nat → Int) (low : Nat → Option Nat) (d : Int) (i : Nat) : Prop := dm i = d ∧ low i = none ∧ ∀ j, j < n → low j ≠ some i
def Ni (n : Nat) (u w : Nat → Nat → Int) (l : Nat) : Nat → Int := if l < n then u l else w (l - n)
theorem JO {n : Nat} {u w : Nat → Nat → Int} {l : Nat} (h : l < n) : Ni n u w l = u l := if_pos h
theorem IH {n : Nat} {u w : Nat → Nat → Int} {l : Nat} : Ni n u w (n + l) = w l := by unfold Ni; rw [if_neg (by omega)]; congr 1; omega
theorem Rdc.cyc (R : Rdc p n D dm pos v low) {x : Nat → Int} {i : Nat} (hx : ∀ i, i < n → p ∣ Dc n D x i) (hT : VI p n pos x i) : low i = none := by
  cases hl : low i with
  | none => rfl
  | some i0 =>
    exfalso
    obtain ⟨M, hM⟩ := Mm n pos
    obtain ⟨c, hc⟩ := Ik (b := fun _ => true) (τ := fun l => l) R.F R.pinj (fun l hl _ => R.vtop l hl) (fun _ => True) (fun _ _ _ _ _ _ => trivial) (fun x i _ hT => ⟨i, hT.1, rfl, rfl⟩) M x trivial fun i hi _ => hM i hi
    obtain ⟨hi, hn, hmax⟩ := hT
    -- the part of i
    have hci : ¬ p ∣ c i := fun h => hn ((hc i hi).dvd_iff.2 (He fun l hl => by
      show p ∣ if true = true then c l * v l i else 0
      rw [if_pos rfl]
      by_cases h1 : p ∣ c l
      · exact Int.dvd_mul_of_dvd_left h1
      by_cases h2 : p ∣ v l i
      · exact Int.dvd_mul_of_dvd_right h2
      exfalso
      have h3 := (R.vtop l hl).2.2 i hi h2
      obtain ⟨i', hi', h4, h5⟩ := EF (τ := fun l => l) (b := fun _ => true) R.F (fun l hl _ => R.vtop l hl) (fun l l' hl hl' _ _ e => R.pinj l l' hl hl' e) c hl rfl h1
      have h6 := hmax i' hi' fun h => h4 ((hc i' hi').dvd_iff.1 h)
      have := R.pinj l i hl hi (by omega)
      subst this
      exact h1 h))
    obtain ⟨i', hi', h1, _⟩ := EF (v := fun k => Dc n D (v k)) (τ := lo low) (b := fun l => (low l).isSome) R.F (fun l hl hb => R.lsome l _ hl (by unfold lo; revert hb; cases low l <;> simp)) (fun l l' hl hl' hb hb' e => by
      have e1 : low l = some (lo low l) := by unfold lo; revert hb; cases low l <;> simp
      have e2 : low l' = some (lo low l') := by unfold lo; revert hb'; cases low l' <;> simp
      have := R.pinj _ _ (R.lsome l _ hl e1).1 (R.lsome l' _ hl' e2).1 e
      refine R.linj l l' _ hl hl' e1 ?_
      rw [this]; exact e2) c hi (by rw [hl]; rfl) hci
    refine h1 ?_
    have h2 := Mi (D := D) hc i'
    rw [HI] at h2
    have h3 := h2.dvd_iff.1 (hx i' hi')
    have h4 : Cg p (Da n (fun l => (low l).isSome) c (fun k => Dc n D (v k)) i') (Da n (fun _ => true) c (fun k => Dc n D (v k)) i') := Cg.sm fun l hl => by
      show Cg p (if (low l).isSome = true then _ else 0) (if true = true then _ else 0)
      cases hll : low l with
      | some _ => exact Cg.refl _ _
      | none =>
        rw [if_pos rfl]
        exact (cgz.2 (Int.dvd_mul_of_dvd_right (R.lnone l hl hll i' hi'))).symm
    exact h4.dvd_iff.2 h3
end
end Go.Lin
namespace Go.Lin
variable {l : Nat} {d : Int}
section
variable {p : Int} {n : Nat} {D : Nat → Nat → Int} {dm : Nat → Int} {pos pos' : Nat → Nat} {v v' : Nat → Nat → Int} {low low' : Nat → Option Nat}
theorem Vh (n : Nat) (D : Nat → Nat → Int) (x y : Nat → Int) (c : Int) (i : Nat) : Dc n D (fun k => x k - c * y k) i = Dc n D x i - c * Dc n D y i := by
  unfold Dc
  rw [← EA, ← Pp]
  refine A9 fun k _ => ?_
  rw [Int.mul_sub, ← Int.mul_assoc, ← Int.mul_assoc, Int.mul_comm c]
theorem Rdc.bb (R : Rdc p n D dm pos v low) (x : Nat → Int) {i : Nat} (hi : i < n) : p ∣ Dc n D (Dc n D x) i := by
  have e : Dc n D (Dc n D x) i = sm n fun j => Dc n D (fun k => D k j) i * x j := by
    unfold Dc
    rw [A9 (g := fun k => sm n fun j => D i k * (D k j * x j)) fun k _ => (EA n (D i k) fun j => D k j * x j).symm, FA]
    refine A9 fun j _ => ?_
    rw [← Gh]
    exact A9 fun k _ => (Int.mul_assoc _ _ _).symm
  rw [e]
  exact He fun j hj => Int.dvd_mul_of_dvd_left (R.D2 i j hi hj)
theorem Rdc.bdm (R : Rdc p n D dm pos v low) {j i : Nat} (hj : j < n) (hi : i < n) (h : ¬ p ∣ Dc n D (v j) i) : dm j = dm i + 1 := by
  obtain ⟨k, hk, h1⟩ := XK h
  have h2 : ¬ p ∣ D i k := fun h2 => h1 (Int.dvd_mul_of_dvd_left h2)
  have h3 : ¬ p ∣ v j k := fun h3 => h1 (Int.dvd_mul_of_dvd_right h3)
  rw [← R.vdm j k hj hk h3]
  exact R.Ddm i k hi hk h2
open Classical in
noncomputable def bZ (n : Nat) (dm : Nat → Int) (low : Nat → Option Nat) (d : Int) (l : Nat) : Bool := if l < n then decide (opn n dm low d l) else D4 dm low (d + 1) (l - n)
def tZ (n : Nat) (low : Nat → Option Nat) (l : Nat) : Nat := if l < n then l else lo low (l - n)
open Classical in
theorem J1 (h : l < n) : bZ n dm low d l = true ↔ opn n dm low d l := by unfold bZ; rw [if_pos h]; exact decide_eq_true_iff
theorem JM : bZ n dm low d (n + l) = D4 dm low (d + 1) l := by unfold bZ; rw [if_neg (by omega)]; congr 1; omega
theorem FS (h : l < n) : tZ n low l = l := if_pos h
theorem Gk : tZ n low (n + l) = lo low l := by unfold tZ; rw [if_neg (by omega)]; congr 1; omega
theorem I4 {n : Nat} (h : l < n + n) : l < n ∨ ∃ k, k < n ∧ l = n + k := by
  rcases (by omega : l < n ∨ n ≤ l) with h1 | h1
  · exact .inl h1
  · exact .inr ⟨l - n, by omega, by omega⟩
theorem Rdc.z_top (R : Rdc p n D dm pos v low) (l : Nat) (hl : l < n + n) (hb : bZ n dm low d l = true) : VI p n pos (Ni n v (fun k => Dc n D (v k)) l) (tZ n low l) := by
  rcases I4 hl with h | ⟨k, hk, rfl⟩
  · rw [JO h, FS h]; exact R.vtop l h
  · rw [IH, Gk]
    rw [JM] at hb
    exact R.prs_top hk hb
theorem Rdc.z_inj (R : Rdc p n D dm pos v low) (l l' : Nat) (hl : l < n + n) (hl' : l' < n + n) (hb : bZ n dm low d l = true) (hb' : bZ n dm low d l' = true) (e : pos (tZ n low l) = pos (tZ n low l')) : l = l' := by
  have e := R.pinj _ _ (R.z_top l hl hb).1 (R.z_top l' hl' hb').1 e
  rcases I4 hl with h | ⟨k, hk, rfl⟩ <;> rcases I4 hl' with h' | ⟨k', hk', rfl⟩
  · rwa [FS h, FS h'] at e
  · exfalso
    rw [FS h, Gk] at e
    rw [JM] at hb'
    have := (prs_iff.1 hb').2
    rw [← e] at this
    exact ((J1 h).1 hb).2.2 k' hk' this
  · exfalso
    rw [FS h', Gk] at e
    rw [JM] at hb
    have := (prs_iff.1 hb).2
    rw [e] at this
    exact ((J1 h').1 hb').2.2 k hk this
  · rw [Gk, Gk] at e
    rw [JM] at hb hb'
    rw [R.prs_inj k k' hk hk' hb hb' (by rw [e])]
theorem Rdc.cycles (R : Rdc p n D dm pos v low) (d : Int) (x : Nat → Int) (hx : ∀ i, i < n → ¬ p ∣ x i → dm i = d) (hz : ∀ i, i < n → p ∣ Dc n D x i) : ∃ c, ∀ i, i < n → Cg p (x i) (Da (n + n) (bZ n dm low d) c (Ni n v (fun k => Dc n D (v k))) i) := by
  obtain ⟨M, hM⟩ := Mm n pos
  refine Ik R.F R.pinj (R.z_top (d := d)) (fun x => (∀ i, i < n → ¬ p ∣ x i → dm i = d) ∧ ∀ i, i < n → p ∣ Dc n D x i) (fun x c l h hl hb => ⟨fun i hi hn => ?_, fun i hi => ?_⟩) (fun x i h hT => ?_) M x ⟨hx, hz⟩ fun i hi _ => hM i hi
  · by_cases h1 : p ∣ x i
    · have h2 : ¬ p ∣ Ni n v (fun k => Dc n D (v k)) l i := fun h2 => hn (Int.dvd_sub h1 (Int.dvd_mul_of_dvd_right h2))
      rcases I4 hl with h | ⟨k, hk, rfl⟩
      · rw [JO h] at h2
        rw [R.vdm l i h hi h2]; exact ((J1 h).1 hb).1
      · rw [IH] at h2
        rw [JM] at hb
        have h3 := R.bdm hk hi h2
        have h4 := (prs_iff.1 hb).1
        omega
    · exact h.1 i hi h1
  · rw [Vh]
    refine Int.dvd_sub (h.2 i hi) (Int.dvd_mul_of_dvd_right ?_)
    rcases I4 hl with h | ⟨k, hk, rfl⟩
    · rw [JO h]; exact R.lnone l h ((J1 h).1 hb).2.1 i hi
    · rw [IH]; exact R.bb _ hi
  · have h1 := R.cyc h.2 hT
    have h2 := h.1 i hT.1 hT.2.1
    by_cases h3 : ∃ k, k < n ∧ low k = some i
    · obtain ⟨k, hk, h4⟩ := h3
      have h5 := R.lsome k i hk h4
      refine ⟨n + k, by omega, ?_, ?_⟩
      · rw [JM]
        refine prs_iff.2 ⟨?_, ?_⟩
        · have := R.bdm hk hT.1 h5.2.1; omega
        · unfold lo; rw [h4]; rfl
      · rw [Gk]; unfold lo; rw [h4]; rfl
    · exact ⟨i, by have := hT.1; omega, (J1 hT.1).2 ⟨h2, h1, fun k hk h4 => h3 ⟨k, hk, h4⟩⟩, FS hT.1⟩
theorem Rdc.open_le (R : Rdc p n D dm pos v low) (R' : Rdc p n D dm pos' v' low') {f g : Nat → Int} {δ : Int} (hf : ∀ i j, i < n → j < n → pos i ≤ pos j → f i ≤ f j) (hg : ∀ i j, i < n → j < n → pos' i ≤ pos' j → g i ≤ g j) (hfg : ∀ i, i < n → g i ≤ f i + δ) (d t0 : Int) (A S : List Nat) (hA : A.Nodup) (hAb : ∀ i ∈ A, i < n ∧ opn n dm low d i ∧ f i ≤ t0)
    (hS : ∀ k, k < n → opn n dm low' d k → g k ≤ t0 + δ → k ∈ S) : A.length ≤ S.length := by
  refine Nat.le_of_not_lt fun hlt => ?_
  let m := A.length
  let a : Nat → Nat := fun t => A.getD t 0
  have ha : ∀ t, t < m → a t ∈ A := fun t ht => by
    have : a t = A[t] := by simp [a, List.getD, show t < A.length from ht]
    rw [this]; exact List.getElem_mem _
  have hinj : ∀ s t, s < m → t < m → a s = a t → s = t := fun s t hs ht e => by
    have e1 : A[s]? = some (a s) := by simp [a, List.getD, show s < A.length from hs]
    have e2 : A[t]? = some (a s) := by rw [e]; simp [a, List.getD, show t < A.length from ht]
    exact Jw hA e1 e2
  have hex : ∀ t, ∃ c : Nat → Int, t < m → ∀ i, i < n → Cg p (v (a t) i) (Da (n + n) (bZ n dm low' d) c (Ni n v' (fun k => Dc n D (v' k))) i) := fun t => by
    by_cases h : t < m
    · have h1 := hAb _ (ha t h)
      obtain ⟨c, hc⟩ := R'.cycles d (v (a t)) (fun i hi hn => (R.vdm _ i h1.1 hi hn).trans h1.2.1.1) (R.lnone _ h1.1 h1.2.1.2.1)
      exact ⟨c, fun _ => hc⟩
    · exact ⟨fun _ => 0, fun h1 => absurd h1 h⟩
  obtain ⟨C, hC⟩ := Classical.axiomOfChoice hex
  have hCS : ∀ t, t < m → ∀ k, k < n → opn n dm low' d k → ¬ p ∣ C t k → k ∈ S := fun t ht k hk ho hn => by
    obtain ⟨i, hi, h1, h2⟩ := EF R.F (R'.z_top (d := d)) (R'.z_inj (d := d)) (C t) (l0 := k) (by omega) ((J1 hk).2 ho) hn
    rw [FS hk] at h2
    have h0 := hAb _ (ha t ht)
    have h3 : ¬ p ∣ v (a t) i := fun h => h1 ((hC t ht i hi).dvd_iff.1 h)
    have h4 := hf i (a t) hi h0.1 ((R.vtop _ h0.1).2.2 i hi h3)
    have h5 := hg k i hk hi h2
    have h6 := hfg i hi
    exact hS k hk ho (by have := h0.2.2; omega)
  obtain ⟨x, ⟨t1, ht1, hx1⟩, hz⟩ := Ks R.F S.length m (fun i t => C t (S.getD i 0)) hlt
  have hzS : ∀ k ∈ S, p ∣ sm m fun t => C t k * x t := fun k hk => by
    obtain ⟨i, hi, rfl⟩ := List.getElem_of_mem hk
    have := hz i hi
    have e : S.getD i 0 = S[i] := by simp [List.getD, hi]
    rw [e] at this
    exact cgz.1 this
  -- the sum is a boundary
  let e : Nat → Int := fun k => sm m fun t => C t (n + k) * x t
  let w : Nat → Int := Da n (D4 dm low' (d + 1)) e v'
  have hw : ∀ i, i < n → Cg p (sm m fun t => x t * v (a t) i) (Dc n D w i) := fun i hi => by
    have h1 : Cg p (sm m fun t => x t * v (a t) i) (sm m fun t => x t * Da (n + n) (bZ n dm low' d) (C t) (Ni n v' (fun k => Dc n D (v' k))) i) := Cg.sm fun t ht => (Cg.refl _ _).mul (hC t ht i hi)
    refine h1.trans ?_
    have h2 : (sm m fun t => x t * Da (n + n) (bZ n dm low' d) (C t) (Ni n v' (fun k => Dc n D (v' k))) i) = sm (n + n) fun l => if bZ n dm low' d l then (sm m fun t => C t l * x t) * Ni n v' (fun k => Dc n D (v' k)) l i else 0 := by
      rw [A9 (g := fun t => sm (n + n) fun l => if bZ n dm low' d l then (C t l * x t) * Ni n v' (fun k => Dc n D (v' k)) l i else 0) fun t _ => by
        unfold Da
        rw [← EA]
        refine A9 fun l _ => ?_
        cases bZ n dm low' d l
        · simp
        · simp only [if_true]; rw [← Int.mul_assoc, Int.mul_comm (x t)], FA]
      refine A9 fun l _ => ?_
      cases bZ n dm low' d l
      · simp [El]
      · simp only [if_true]; rw [Gh]
    rw [h2, N3]
    have h3 : Cg p (sm n fun l => if bZ n dm low' d l then (sm m fun t => C t l * x t) * Ni n v' (fun k => Dc n D (v' k)) l i else 0) 0 := cgz.2 (He fun l hl => by
      cases hb : bZ n dm low' d l with
      | false => exact Int.dvd_zero p
      | true =>
        simp only [if_true]
        refine Int.dvd_mul_of_dvd_left ?_
        by_cases hlS : l ∈ S
        · exact hzS l hlS
        · exact He fun t ht => Int.dvd_mul_of_dvd_left (Classical.byContradiction fun hn => hlS (hCS t ht l hl ((J1 hl).1 hb) hn)))
    have h4 : (sm n fun k => if bZ n dm low' d (n + k) then (sm m fun t => C t (n + k) * x t) * Ni n v' (fun k => Dc n D (v' k)) (n + k) i else 0) = Dc n D w i := by
      show _ = Dc n D (Da n (D4 dm low' (d + 1)) e v') i
      rw [HI]
      exact A9 fun k _ => by rw [JM, IH]
    have := h3.add (Cg.refl p (Dc n D w i))
    rw [Int.zero_add] at this
    refine (Cg.of_eq ?_).trans this
    rw [← h4]
  obtain ⟨M, hM⟩ := Mm n pos
  obtain ⟨q, hq⟩ := Ik (b := fun _ => true) (τ := fun l => l) R.F R.pinj (fun l hl _ => R.vtop l hl) (fun _ => True) (fun _ _ _ _ _ _ => trivial) (fun x i _ hT => ⟨i, hT.1, rfl, rfl⟩) M w trivial fun i hi _ => hM i hi
  -- all in one family
  let bA : Nat → Bool := fun l => if l < n then decide (l ∈ A) else (low (l - n)).isSome
  let X : Nat → Int := fun l => if l < n then sm m fun t => if t = A.idxOf l then x t else 0 else - q (l - n)
  have hTA : ∀ l, l < n + n → bA l = true → VI p n pos (Ni n v (fun k => Dc n D (v k)) l) (tZ n low l) := fun l hl hb => by
    rcases I4 hl with h | ⟨k, hk, rfl⟩
    · rw [JO h, FS h]; exact R.vtop l h
    · rw [IH, Gk]
      simp only [bA] at hb
      rw [if_neg (by omega), Nat.add_sub_cancel_left] at hb
      exact R.lsome k _ hk (by unfold lo; revert hb; cases low k <;> simp)
  have hIA : ∀ l l', l < n + n → l' < n + n → bA l = true → bA l' = true → pos (tZ n low l) = pos (tZ n low l') → l = l' := fun l l' hl hl' hb hb' e => by
    have e := R.pinj _ _ (hTA l hl hb).1 (hTA l' hl' hb').1 e
    have key : ∀ l k, l < n → k < n → bA l = true → bA (n + k) = true → l = lo low k → False := fun l k h hk hb hb' e => by
      simp only [bA] at hb hb'
      rw [if_pos h, decide_eq_true_eq] at hb
      rw [if_neg (by omega), Nat.add_sub_cancel_left] at hb'
      have h1 : low k = some (lo low k) := by unfold lo; revert hb'; cases low k <;> simp
      rw [← e] at h1
      exact (hAb l hb).2.1.2.2 k hk h1
    rcases I4 hl with h | ⟨k, hk, rfl⟩ <;> rcases I4 hl' with h' | ⟨k', hk', rfl⟩
    · rwa [FS h, FS h'] at e
    · rw [FS h, Gk] at e
      exact (key l k' h hk' hb hb' e).elim
    · rw [FS h', Gk] at e
      exact (key l' k h' hk hb' hb e.symm).elim
    · rw [Gk, Gk] at e
      simp only [bA] at hb hb'
      rw [if_neg (by omega), Nat.add_sub_cancel_left] at hb hb'
      have h1 : low k = some (lo low k) := by unfold lo; revert hb; cases low k <;> simp
      have h2 : low k' = some (lo low k') := by unfold lo; revert hb'; cases low k' <;> simp
      rw [← e] at h2
      rw [R.linj k k' _ hk hk' h1 h2]
  have hX : X (a t1) = x t1 := by
    have h1 := (hAb _ (ha t1 ht1)).1
    have h2 : A.idxOf (a t1) = t1 := by
      have hm := ha t1 ht1
      have hlt := List.idxOf_lt_length_of_mem hm
      refine Jw hA (a := a t1) ?_ (by simp [a, List.getD, show t1 < A.length from ht1])
      rw [List.getElem?_eq_getElem hlt, List.getElem_idxOf]
    simp only [X]
    rw [if_pos h1, h2]
    exact Ev m t1 x ht1
  have h1 := (hAb _ (ha t1 ht1)).1
  obtain ⟨i, hi, h2, _⟩ := EF R.F hTA hIA X (l0 := a t1) (by omega) (by simp only [bA]; rw [if_pos h1]; exact decide_eq_true (ha t1 ht1)) (by rw [hX]; exact hx1)
  refine h2 ?_
  unfold Da
  rw [N3]
  have h3 : (sm n fun l => if bA l then X l * Ni n v (fun k => Dc n D (v k)) l i else 0) = sm m fun t => x t * v (a t) i := by
    rw [A9 (g := fun l => sm m fun t => if l = a t then x t * v (a t) i else 0) fun l hl => by
      simp only [bA, X]
      rw [if_pos hl, if_pos hl, JO hl]
      by_cases hlA : l ∈ A
      · rw [decide_eq_true hlA, if_pos rfl, ← Gh]
        refine A9 fun t ht => ?_
        have hlt := List.idxOf_lt_length_of_mem hlA
        have hal : a (A.idxOf l) = l := by simp [a, List.getD, hlt, List.getElem_idxOf]
        by_cases e : t = A.idxOf l
        · subst e; rw [if_pos rfl, if_pos hal.symm, hal]
        · rw [if_neg e, if_neg fun h => e (hinj _ _ ht hlt (by rw [hal, h])), Int.zero_mul]
      · rw [decide_eq_false hlA, if_neg (by simp)]
        exact (Ij fun t ht => if_neg (fun h : l = a t => hlA (by rw [h]; exact ha t ht))).symm, FA]
    refine A9 fun t ht => ?_
    exact Ev n (a t) (fun _ => x t * v (a t) i) (hAb _ (ha t ht)).1
  have h4 : Cg p (sm n fun l => if bA (n + l) then X (n + l) * Ni n v (fun k => Dc n D (v k)) (n + l) i else 0) (- Dc n D w i) := by
    have h5 := Mi (D := D) hq i
    rw [HI n n D (fun _ => true) q v i] at h5
    have h6 : Cg p (sm n fun l => if bA (n + l) then X (n + l) * Ni n v (fun k => Dc n D (v k)) (n + l) i else 0) (-1 * Da n (fun _ => true) q (fun k => Dc n D (v k)) i) := by
      unfold Da
      rw [← EA]
      refine Cg.sm fun l hl => ?_
      have hb1 : bA (n + l) = (low l).isSome := by simp only [bA]; rw [if_neg (show ¬ n + l < n by omega), Nat.add_sub_cancel_left]
      have hx1 : X (n + l) = - q l := by simp only [X]; rw [if_neg (show ¬ n + l < n by omega), Nat.add_sub_cancel_left]
      rw [hb1, hx1, IH, if_pos rfl]
      cases hll : low l with
      | some _ => simp only [Option.isSome_some, if_true]; refine Cg.of_eq ?_; rw [Int.neg_mul, Int.neg_mul, Int.one_mul]
      | none =>
        simp only [Option.isSome_none, Bool.false_eq_true, if_false]
        exact (cgz.2 (Int.dvd_mul_of_dvd_right (Int.dvd_mul_of_dvd_right (R.lnone l hl hll i hi)))).symm
    refine h6.trans ?_
    have := (Cg.refl p (-1)).mul h5.symm
    refine this.trans (Cg.of_eq (by omega))
  rw [h3]
  have := (hw i hi).add h4
  rw [Int.add_right_neg] at this
  exact cgz.1 this
end
end Go.Lin

namespace Go.Kuhn
theorem PK (F : Nat → Nat → Bool) (nl n : Nat) (N : Nat) : ∀ (i : Nat) (seen : List Bool) (part : List Int), E9 seen ≤ N → i < nl → seen.length = n → part.length = n → G7 F nl part →
    (∃ seen' part', KT F nl i seen part seen' part') ∨ ∃ seen', LI F i n n seen part seen' := by
  induction N using Nat.strongRecOn with
  | _ N ih =>
  intro i seen part hN hi hsl hpl hK
  have go : ∀ q k seen1, n - k ≤ q → k ≤ n → LI F i n k seen part seen1 → (∃ seen' part', KT F nl i seen part seen' part') ∨ ∃ seen', LI F i n n seen part seen' := by
    intro q
    induction q with
    | zero => intro k seen1 hq hk hL; have : k = n := by omega
              subst this; exact .inr ⟨_, hL⟩
    | succ q ihq =>
      intro k seen1 hq hk hL
      rcases Nat.lt_or_ge k n with hkn | hkn
      · have hks : k < seen1.length := by rw [hL.slen]; omega
        have hkp : k < part.length := by omega
        cases hsk : seen1[k] with
        | true => exact ihq (k + 1) seen1 (by omega) (by omega) (hL.skip (.inl (by rw [List.getElem?_eq_getElem hks, hsk])))
        | false =>
          cases hf : F i k with
          | false => exact ihq (k + 1) seen1 (by omega) (by omega) (hL.skip (.inr hf))
          | true =>
            have h0 : seen1[k]? ≠ some true := by rw [List.getElem?_eq_getElem hks, hsk]; simp
            rcases hK k hkp with h1 | ⟨p, hp, hpn, hpf⟩
            · exact .inl ⟨_, _, hL.free hK hi hkp hks h0 hf (by omega)⟩
            · have hp' : part[k]? = some (p : Int) := by rw [List.getElem?_eq_getElem hkp, hp]
              have u1 := Kg seen1 k hks hsk
              have u2 := IX seen seen1 hL.slen hL.mono
              rcases ih (E9 (seen1.set k true)) (by omega) p (seen1.set k true) part (Nat.le_refl _) hpn (by rw [List.length_set, hL.slen]; exact hsl) hpl hK with ⟨s', p', hT⟩ | ⟨s', hLF⟩
              · exact .inl ⟨_, _, hL.moved hi hkp hks h0 hf hp' hT⟩
              · exact ihq (k + 1) s' (by omega) (by omega) (hL.fail hks hp' hLF)
      · have : k = n := by omega
        subst this; exact .inr ⟨_, hL⟩
  exact go n 0 seen (by omega) (by omega) LI.start
theorem Kn (F : Nat → Nat → Bool) (n : Nat) : Pos F n ∨ Xe F n := by
  have go : ∀ i, i ≤ n → (∃ part : List Int, part.length = n ∧ G7 F n part ∧ ∀ x : Nat, part.count (x : Int) = if x < i then 1 else 0) ∨ Xe F n := by
    intro i
    induction i with
    | zero => exact fun _ => .inl ⟨List.replicate n (-1), by simp, fun k hk => .inl (by simp), fun x => by rw [List.count_replicate, if_neg (by simp), if_neg (by omega)]⟩
    | succ i ih =>
      intro hi
      rcases ih (by omega) with ⟨part, h1, h2, h3⟩ | h
      · rcases PK F n n _ i (List.replicate n false) part (Nat.le_refl _) (by omega) (by simp) h1 h2 with ⟨s', p', hT⟩ | ⟨s', hL⟩
        · refine .inl ⟨p', by rw [hT.plen, h1], hT.pre, fun x => ?_⟩
          rw [hT.cnt x, h3 x]
          by_cases g1 : x < i
          · rw [if_pos g1, if_neg (by omega), if_pos (by omega)]
          · by_cases g2 : x = i
            · rw [if_neg g1, if_pos g2, if_pos (by omega)]
            · rw [if_neg g1, if_neg g2, if_neg (by omega)]
        · exact .inr ⟨i, part, s', by omega, h1, h2, h3, hL⟩
      · exact .inr h
  rcases go n (Nat.le_refl _) with ⟨part, h1, h2, h3⟩ | h
  · exact .inl ⟨part, h1, h2, fun x hx => by rw [h3 x, if_pos hx]⟩
  · exact .inr h
theorem UQ {F : Nat → Nat → Bool} {n : Nat} (h : Xe F n) : ∃ A S : List Nat, A.Nodup ∧ A.length = S.length + 1 ∧ (∀ x ∈ A, x < n) ∧ ∀ x ∈ A, ∀ k, k < n → F x k = true → k ∈ S := by
  obtain ⟨i, part, seen, hi, hl, hK, hc, L⟩ := h
  let S := (List.range n).filter fun k => seen[k]? == some true
  have hS : ∀ k, k ∈ S ↔ seen[k]? = some true := fun k => by
    simp only [S, List.mem_filter, List.mem_range, beq_iff_eq]
    constructor
    · exact fun h => h.2
    · intro h
      refine ⟨?_, h⟩
      obtain ⟨h', _⟩ := List.getElem?_eq_some_iff.1 h
      have e1 := L.slen
      rw [List.length_replicate] at e1
      omega
  have hSn : S.Nodup := List.Pairwise.filter _ List.nodup_range
  let f : Nat → Nat := fun k => (part[k]?.getD 0).toNat
  have hf : ∀ k ∈ S, part[k]? = some ((f k : Nat) : Int) ∧ ∀ j', j' < n → F (f k) j' = true → seen[j']? = some true := fun k hk => by
    obtain ⟨p, e1, e2⟩ := L.closed k ((hS k).1 hk) (by simp [List.getElem?_replicate])
    have : f k = p := by simp [f, e1]
    rw [this]; exact ⟨e1, e2⟩
  have hmem : ∀ k ∈ S, ((f k : Nat) : Int) ∈ part := fun k hk => List.mem_of_getElem? (hf k hk).1
  have hfi : ∀ k ∈ S, f k < i := fun k hk => by
    have := List.count_pos_iff.2 (hmem k hk)
    rw [hc] at this
    split at this
    · assumption
    · omega
  refine ⟨i :: S.map f, S, ?_, by simp, fun x hx => ?_, fun x hx k hk hF => ?_⟩
  · refine List.nodup_cons.2 ⟨fun h => ?_, ?_⟩
    · obtain ⟨k, hk, e⟩ := List.mem_map.1 h
      have := hfi k hk; omega
    · refine List.pairwise_map.2 (hSn.imp_of_mem fun {a b} ha hb hne e => hne ?_)
      have h1 := (hf a ha).1
      have h2 := (hf b hb).1
      rw [e] at h1
      exact Gr (x := ((f b : Nat) : Int)) (by rw [hc]; split <;> omega) h1 h2
  · rcases List.mem_cons.1 hx with rfl | hx
    · exact hi
    · obtain ⟨k, hk, rfl⟩ := List.mem_map.1 hx
      have := hfi k hk; omega
  · rw [hS]
    rcases List.mem_cons.1 hx with rfl | hx
    · exact L.tried _ hk hk hF
    · obtain ⟨k', hk', rfl⟩ := List.mem_map.1 hx
      exact (hf k' hk').2 _ hk hF
theorem Q3 {F : Nat → Nat → Bool} {n : Nat} (h : Pos F n) : ∃ pos : Nat → Nat, (∀ x, x < n → pos x < n ∧ F x (pos x) = true) ∧ ∀ x y, x < n → y < n → pos x = pos y → x = y := by
  obtain ⟨part, hl, hK, hc⟩ := h
  have hex : ∀ x, ∃ k, x < n → part[k]? = some (x : Int) := fun x => by
    by_cases hx : x < n
    · have : (x : Int) ∈ part := List.count_pos_iff.1 (by rw [hc x hx]; decide)
      obtain ⟨k, hk, e⟩ := List.getElem_of_mem this
      exact ⟨k, fun _ => by rw [List.getElem?_eq_getElem hk, e]⟩
    · exact ⟨0, fun h => absurd h hx⟩
  obtain ⟨pos, hp⟩ := Classical.axiomOfChoice hex
  refine ⟨pos, fun x hx => ?_, fun x y hx hy e => ?_⟩
  · obtain ⟨h1, h2⟩ := List.getElem?_eq_some_iff.1 (hp x hx)
    refine ⟨by omega, ?_⟩
    rcases hK _ h1 with h3 | ⟨q, h3, _, h4⟩
    · rw [h2] at h3; omega
    · rw [h2] at h3
      have : q = x := by omega
      rwa [this] at h4
  · have h1 := hp x hx
    rw [e, hp y hy] at h1
    have := Option.some.inj h1
    omega
theorem TO (n m : Nat) (L : Nat → Prop) (F : Nat → Nat → Prop) (H : ∀ A S : List Nat, A.Nodup → (∀ x ∈ A, x < n ∧ L x) → (∀ x ∈ A, ∀ k, k < m → F x k → k ∈ S) → A.length ≤ S.length) : ∃ pos : Nat → Nat, (∀ x, x < n → L x → pos x < m ∧ F x (pos x)) ∧ ∀ x y, x < n → y < n → L x → L y → pos x = pos y → x = y := by
  classical
  let G : Nat → Nat → Bool := fun x k => decide ((x < n ∧ L x) → k < m ∧ F x k)
  rcases Kn G (n + m) with h | h
  · obtain ⟨pos, h1, h2⟩ := Q3 h
    exact ⟨pos, fun x hx hL => of_decide_eq_true (h1 x (by omega)).2 ⟨hx, hL⟩, fun x y hx hy _ _ e => h2 x y (by omega) (by omega) e⟩
  · exfalso
    obtain ⟨A, S, hA, hl, hn, hS⟩ := UQ h
    by_cases h1 : ∀ x ∈ A, x < n ∧ L x
    · have := H A S hA h1 fun x hx k hk hF => hS x hx k (by omega) (decide_eq_true fun _ => ⟨hk, hF⟩)
      omega
    · have h2 : ∃ x, x ∈ A ∧ ¬ (x < n ∧ L x) := Classical.byContradiction fun h3 => h1 fun x hx => Classical.byContradiction fun h4 => h3 ⟨x, hx, h4⟩
      obtain ⟨x, hx, h3⟩ := h2
      have h4 : ∀ k, k < n + m → k ∈ S := fun k hk => hS x hx k hk (decide_eq_true fun h5 => absurd h5 h3)
      have h5 := nodup_le A (List.range (n + m)) hA fun x hx => List.mem_range.2 (hn x hx)
      have h6 := nodup_le (List.range (n + m)) S List.nodup_range fun k hk => h4 k (List.mem_range.1 hk)
      rw [List.length_range] at h5 h6
      omega
def FX (l : List Int) (t : Int) : Nat := (l.filter fun x => decide (x ≤ t)).length
theorem Mw {l : List Int} (hs : l.Pairwise (· ≤ ·)) {i : Nat} (hi : i < l.length) : i < FX l l[i] := by
  have h1 : ((l.take (i + 1)).filter fun x => decide (x ≤ l[i])) = l.take (i + 1) := List.filter_eq_self.2 fun x hx => by
    obtain ⟨j, hj, rfl⟩ := List.getElem_of_mem hx
    rw [List.length_take] at hj
    rw [List.getElem_take]
    refine decide_eq_true ?_
    rcases (by omega : j < i ∨ j = i) with h | rfl
    · exact List.pairwise_iff_getElem.1 hs j i (by omega) hi h
    · exact Int.le_refl _
  have h2 : (l.take (i + 1)).Sublist l := List.take_sublist _ _
  have h3 := (h2.filter fun x => decide (x ≤ l[i])).length_le
  rw [h1, List.length_take] at h3
  unfold FX; omega
theorem QP {l : List Int} (hs : l.Pairwise (· ≤ ·)) {i : Nat} (hi : i < l.length) {t : Int} (h : i < FX l t) : l[i] ≤ t := by
  refine Classical.byContradiction fun hn => ?_
  have h1 : ((l.drop i).filter fun x => decide (x ≤ t)) = [] := List.filter_eq_nil_iff.2 fun x hx => by
    obtain ⟨j, hj, rfl⟩ := List.getElem_of_mem hx
    rw [List.length_drop] at hj
    rw [List.getElem_drop]
    have : l[i] ≤ l[i + j] := by
      rcases Nat.eq_zero_or_pos j with rfl | hj0
      · exact Int.le_refl _
      · exact List.pairwise_iff_getElem.1 hs i (i + j) hi (by omega) (by omega)
    simp; omega
  have h2 : FX l t = ((l.take i).filter fun x => decide (x ≤ t)).length + ((l.drop i).filter fun x => decide (x ≤ t)).length := by
    unfold FX
    rw [← List.length_append, ← List.filter_append, List.take_append_drop]
  rw [h1] at h2
  have h3 := List.length_filter_le (fun x => decide (x ≤ t)) (l.take i)
  rw [List.length_take] at h3
  simp at h2
  omega
theorem On {X Y : List Int} {δ : Int} (hX : X.Pairwise (· ≤ ·)) (hY : Y.Pairwise (· ≤ ·)) (h1 : ∀ t, FX X t ≤ FX Y (t + δ)) (h2 : ∀ t, FX Y t ≤ FX X (t + δ)) : X.length = Y.length ∧ ∀ q ∈ X.zip Y, q.1 - q.2 ≤ δ ∧ q.2 - q.1 ≤ δ := by
  have key : ∀ {X Y : List Int}, X.Pairwise (· ≤ ·) → (∀ t, FX X t ≤ FX Y (t + δ)) → X.length ≤ Y.length := fun {X Y} hX h => by
    refine Nat.le_of_not_lt fun hlt => ?_
    have h3 := Mw hX (i := Y.length) hlt
    have h4 := h X[Y.length]
    have h5 : FX Y (X[Y.length] + δ) ≤ Y.length := List.length_filter_le _ _
    omega
  have hl : X.length = Y.length := Nat.le_antisymm (key hX h1) (key hY h2)
  refine ⟨hl, fun q hq => ?_⟩
  obtain ⟨i, hi, rfl⟩ := List.getElem_of_mem hq
  rw [List.length_zip] at hi
  have hx : i < X.length := by omega
  have hy : i < Y.length := by omega
  rw [List.getElem_zip]
  have a1 := QP hY hy (t := X[i] + δ) (by have := Mw hX hx; have := h1 X[i]; omega)
  have a2 := QP hX hx (t := Y[i] + δ) (by have := Mw hY hy; have := h2 Y[i]; omega)
  show X[i] - Y[i] ≤ δ ∧ Y[i] - X[i] ≤ δ
  omega
end Go.Kuhn

namespace Go.Eng
open Go.RowKit
abbrev Hp := Nat → Option Obj
abbrev Ar := List (Nat × Value)
def Hp.le (h h' : Hp) : Prop := ∀ g o, h g = some o → h' g = some o
def Hp.inW (h : Hp) (w : World) : Prop := ∀ g o, h g = some o → w.heap[g]? = some o
def Hp.emp : Hp := fun _ => none
def Hp.one (g : Nat) (o : Obj) : Hp := fun k => if k = g then some o else none
def Hp.disj (m m' : Hp) : Prop := ∀ g, m g = none ∨ m' g = none
def Hp.join (h m : Hp) : Hp := fun g => match h g with | some o => some o | none => m g
theorem Hp.le_refl (h : Hp) : h.le h := fun _ _ e => e
theorem Hp.le_trans {a b c : Hp} (h : a.le b) (k : b.le c) : a.le c := fun g o e => k g o (h g o e)
theorem Hp.emp_le (h : Hp) : Hp.emp.le h := fun _ _ e => by cases e
theorem Hp.le_join (h m : Hp) : h.le (h.join m) := fun g o e => by simp [Hp.join, e]
theorem Hp.join_le_right {h m : Hp} (d : m.disj h) : m.le (h.join m) := fun g o e => by
  rcases d g with h1 | h1
  · rw [h1] at e; cases e
  · simp [Hp.join, h1, e]
theorem Hp.disj_symm {m m' : Hp} (h : m.disj m') : m'.disj m := fun g => (h g).symm
theorem Hp.one_self (g : Nat) (o : Obj) : Hp.one g o g = some o := by simp [Hp.one]
theorem Hp.one_some {g k : Nat} {o o' : Obj} (h : Hp.one g o k = some o') : k = g ∧ o' = o := by
  unfold Hp.one at h; split at h
  · exact ⟨by assumption, by cases h; rfl⟩
  · cases h
theorem Hp.one_ne {g k : Nat} {o : Obj} (h : k ≠ g) : Hp.one g o k = none := by simp [Hp.one, h]
theorem Hp.inW_lt {h : Hp} {w : World} (hw : h.inW w) {g : Nat} {o : Obj} (e : h g = some o) : g < w.heap.size :=
  (Array.getElem?_eq_some_iff.1 (hw g o e)).1
theorem Hp.inW_none {h : Hp} {w : World} (hw : h.inW w) {g : Nat} (e : w.heap.size ≤ g) : h g = none := by
  cases hg : h g with
  | none => rfl
  | some o => have := Hp.inW_lt hw hg; omega
theorem Hp.ne_none {h : Hp} {g : Nat} (e : h g ≠ none) : ∃ o, h g = some o := by
  cases hg : h g with
  | none => exact absurd hg e
  | some o => exact ⟨o, rfl⟩
structure St (w : World) (h : Hp) (ms : List Hp) : Prop where
  imm : h.inW w
  own : ∀ m ∈ ms, m.inW w
  off : ∀ m ∈ ms, m.disj h
  apart : ms.Pairwise Hp.disj
structure TL (w0 w : World) : Prop where
  tape : w.tape = w0.tape
  drawn : w0.drawn ≤ w.drawn
theorem TL.refl (w : World) : TL w w := ⟨rfl, Nat.le_refl _⟩
theorem TL.trans {a b c : World} (h : TL b c) (k : TL a b) : TL a c := ⟨h.tape.trans k.tape, Nat.le_trans k.drawn h.drawn⟩
structure Ext (w w' : World) : Prop where
  os : w'.os = w.os
  tape : TL w w'
  output : w'.output = w.output
  size : w.heap.size ≤ w'.heap.size
  block : ∀ k, k < w.heap.size → w'.heap[k]? = w.heap[k]?
theorem Ext.refl (w : World) : Ext w w := ⟨rfl, TL.refl w, rfl, Nat.le_refl _, fun _ _ => rfl⟩
theorem Ext.drew (w : World) : Ext w w.drew := ⟨rfl, ⟨rfl, Nat.le_succ _⟩, rfl, Nat.le_refl _, fun _ _ => rfl⟩
theorem Ext.alloc (w : World) (o : Obj) : Ext w (w.alloc o) :=
  let b := (Below.refl w.heap.size w).alloc (Nat.le_refl _) o
  ⟨b.os, ⟨b.tape, Nat.le_refl _⟩, b.output, b.size, b.block⟩
structure Ends (w0 : World) (h0 : Hp) (ms0 : List Hp) (w : World) (h : Hp) (ms : List Hp) : Prop where
  st : St w h ms
  os : w.os = w0.os
  tape : TL w0 w
  output : w.output = w0.output
  size : w0.heap.size ≤ w.heap.size
  block : ∀ k, k < w0.heap.size → (∀ m ∈ ms0, m k = none) → w.heap[k]? = w0.heap[k]?
  le : h0.le h
  hnew : ∀ k, k < w0.heap.size → (∀ m ∈ ms0, m k = none) → h k = h0 k
  mnew : ∀ m ∈ ms, ∀ k, k < w0.heap.size → m k ≠ none → ∃ m0 ∈ ms0, m0 k ≠ none
theorem Ends.refl {w : World} {h : Hp} {ms : List Hp} (s : St w h ms) : Ends w h ms w h ms :=
  ⟨s, rfl, TL.refl _, rfl, Nat.le_refl _, fun _ _ _ => rfl, Hp.le_refl _, fun _ _ _ => rfl, fun m hm _ _ e => ⟨m, hm, e⟩⟩
theorem St.frame_off {w : World} {h : Hp} {pre fr : List Hp} (s : St w h (pre ++ fr)) : ∀ m ∈ fr, ∀ m' ∈ pre, m'.disj m :=
  fun m hm m' hm' => (List.pairwise_append.1 s.apart).2.2 m' hm' m hm
theorem St.pre {w : World} {h : Hp} {pre fr : List Hp} (s : St w h (pre ++ fr)) : St w h pre :=
  ⟨s.imm, fun m hm => s.own m (List.mem_append_left _ hm), fun m hm => s.off m (List.mem_append_left _ hm), (List.pairwise_append.1 s.apart).1⟩
theorem Ends.call {w0 w w' : World} {h0 h h' : Hp} {ms0 pre pre' fr : List Hp} (H : Ends w0 h0 ms0 w h (pre ++ fr)) (C : Ends w h pre w' h' pre') : Ends w0 h0 ms0 w' h' (pre' ++ fr) := by
  have hlt : ∀ m ∈ fr, ∀ k, m k ≠ none → k < w.heap.size := fun m hm k hk => by
    obtain ⟨o, ho⟩ := Hp.ne_none hk
    exact Hp.inW_lt (H.st.own m (List.mem_append_right _ hm)) ho
  have hno : ∀ m ∈ fr, ∀ k, m k ≠ none → ∀ m' ∈ pre, m' k = none := fun m hm k hk m' hm' => by
    rcases H.st.frame_off m hm m' hm' k with e | e
    · exact e
    · exact absurd e hk
  have hpre : ∀ k, k < w0.heap.size → (∀ m ∈ ms0, m k = none) → ∀ m ∈ pre, m k = none := fun k hk hm m hmp => by
    cases e : m k with
    | none => rfl
    | some o =>
      obtain ⟨m0, hm0, e0⟩ := H.mnew m (List.mem_append_left _ hmp) k hk (by rw [e]; simp)
      exact absurd (hm m0 hm0) e0
  refine ⟨⟨C.st.imm, ?_, ?_, ?_⟩, C.os.trans H.os, C.tape.trans H.tape, C.output.trans H.output, Nat.le_trans H.size C.size, ?_, Hp.le_trans H.le C.le, ?_, ?_⟩
  · intro m hm
    rcases List.mem_append.1 hm with hm | hm
    · exact C.st.own m hm
    · intro k o e
      rw [C.block k (hlt m hm k (by rw [e]; simp)) (hno m hm k (by rw [e]; simp))]
      exact H.st.own m (List.mem_append_right _ hm) k o e
  · intro m hm
    rcases List.mem_append.1 hm with hm | hm
    · exact C.st.off m hm
    · intro k
      cases e : m k with
      | none => exact .inl rfl
      | some o =>
        have hk : m k ≠ none := by rw [e]; simp
        right
        rw [C.hnew k (hlt m hm k hk) (hno m hm k hk)]
        rcases H.st.off m (List.mem_append_right _ hm) k with e1 | e1
        · exact absurd e1 hk
        · exact e1
  · refine List.pairwise_append.2 ⟨C.st.apart, (List.pairwise_append.1 H.st.apart).2.1, fun m' hm' m hm k => ?_⟩
    cases e : m k with
    | none => exact .inr rfl
    | some o =>
      have hk : m k ≠ none := by rw [e]; simp
      cases e' : m' k with
      | none => exact .inl rfl
      | some o' =>
        obtain ⟨m0, hm0, e0⟩ := C.mnew m' hm' k (hlt m hm k hk) (by rw [e']; simp)
        exact absurd (hno m hm k hk m0 hm0) e0
  · intro k hk hm
    rw [C.block k (Nat.lt_of_lt_of_le hk H.size) (hpre k hk hm)]
    exact H.block k hk hm
  · intro k hk hm
    rw [C.hnew k (Nat.lt_of_lt_of_le hk H.size) (hpre k hk hm)]
    exact H.hnew k hk hm
  · intro m hm k hk e
    rcases List.mem_append.1 hm with hm | hm
    · obtain ⟨m1, hm1, e1⟩ := C.mnew m hm k (Nat.lt_of_lt_of_le hk H.size) e
      exact H.mnew m1 (List.mem_append_left _ hm1) k hk e1
    · exact H.mnew m (List.mem_append_right _ hm) k hk e
theorem Hp.inW_ext {h : Hp} {w w' : World} (hw : h.inW w) (e : Ext w w') : h.inW w' := fun g o ho => by
  rw [e.block g (Hp.inW_lt hw ho)]; exact hw g o ho
theorem St.ext {w w' : World} {h : Hp} {ms : List Hp} (s : St w h ms) (e : Ext w w') : St w' h ms :=
  ⟨Hp.inW_ext s.imm e, fun m hm => Hp.inW_ext (s.own m hm) e, s.off, s.apart⟩
theorem Ends.ext {w0 w w' : World} {h0 h : Hp} {ms0 ms : List Hp} (H : Ends w0 h0 ms0 w h ms) (e : Ext w w') : Ends w0 h0 ms0 w' h ms :=
  ⟨H.st.ext e, e.os.trans H.os, e.tape.trans H.tape, e.output.trans H.output, Nat.le_trans H.size e.size,
   fun k hk hm => (e.block k (Nat.lt_of_lt_of_le hk H.size)).trans (H.block k hk hm), H.le, H.hnew, H.mnew⟩
theorem Ends.drew {w0 w : World} {h0 h : Hp} {ms0 ms : List Hp} (H : Ends w0 h0 ms0 w h ms) : Ends w0 h0 ms0 w.drew h ms :=
  H.ext (Ext.drew _)
theorem Ends.alloc {w0 w : World} {h0 h : Hp} {ms0 ms : List Hp} (H : Ends w0 h0 ms0 w h ms) (o : Obj) : Ends w0 h0 ms0 (w.alloc o) h (Hp.one w.heap.size o :: ms) := by
  have H' := H.ext (Ext.alloc w o)
  refine ⟨⟨H'.st.imm, ?_, ?_, ?_⟩, H'.os, H'.tape, H'.output, H'.size, H'.block, H'.le, H'.hnew, ?_⟩
  · intro m hm
    rcases List.mem_cons.1 hm with rfl | hm
    · intro k o' e
      obtain ⟨rfl, rfl⟩ := Hp.one_some e
      exact heap_alloc_new w o'
    · exact H'.st.own m hm
  · intro m hm
    rcases List.mem_cons.1 hm with rfl | hm
    · intro k
      by_cases hk : k = w.heap.size
      · exact .inr (Hp.inW_none H.st.imm (by omega))
      · exact .inl (Hp.one_ne hk)
    · exact H'.st.off m hm
  · refine List.pairwise_cons.2 ⟨fun m hm k => ?_, H'.st.apart⟩
    by_cases hk : k = w.heap.size
    · exact .inr (Hp.inW_none (H.st.own m hm) (by omega))
    · exact .inl (Hp.one_ne hk)
  · intro m hm k hk e
    rcases List.mem_cons.1 hm with rfl | hm
    · exact absurd (Hp.one_ne (o := o) (show k ≠ w.heap.size by have := H.size; omega)) e
    · exact H'.mnew m hm k hk e
theorem Ends.freeze {w0 w : World} {h0 h : Hp} {ms0 ms : List Hp} {m : Hp} (H : Ends w0 h0 ms0 w h (m :: ms)) : Ends w0 h0 ms0 w (h.join m) ms := by
  have hd : m.disj h := H.st.off m (List.mem_cons_self)
  refine ⟨⟨?_, fun m' hm' => H.st.own m' (List.mem_cons_of_mem _ hm'), ?_, (List.pairwise_cons.1 H.st.apart).2⟩, H.os, H.tape, H.output, H.size, H.block, Hp.le_trans H.le (Hp.le_join _ _), ?_, fun m' hm' => H.mnew m' (List.mem_cons_of_mem _ hm')⟩
  · intro k o e
    unfold Hp.join at e
    split at e
    · rename_i o' e'; cases e; exact H.st.imm k _ e'
    · exact H.st.own m (List.mem_cons_self) k o e
  · intro m' hm' k
    rcases (List.pairwise_cons.1 H.st.apart).1 m' hm' k with e | e
    · rcases H.st.off m' (List.mem_cons_of_mem _ hm') k with e1 | e1
      · exact .inl e1
      · right; simp [Hp.join, e1, e]
    · exact .inl e
  · intro k hk hm
    have h1 := H.hnew k hk hm
    have h2 : m k = none := by
      cases e : m k with
      | none => rfl
      | some o =>
        obtain ⟨m0, hm0, e0⟩ := H.mnew m (List.mem_cons_self) k hk (by rw [e]; simp)
        exact absurd (hm m0 hm0) e0
    simp only [Hp.join, h2]
    rw [← h1]
    cases h k <;> rfl
theorem Ends.drop {w0 w : World} {h0 h : Hp} {ms0 ms : List Hp} {m : Hp} (H : Ends w0 h0 ms0 w h (m :: ms)) : Ends w0 h0 ms0 w h ms :=
  ⟨⟨H.st.imm, fun m' hm' => H.st.own m' (List.mem_cons_of_mem _ hm'), fun m' hm' => H.st.off m' (List.mem_cons_of_mem _ hm'), (List.pairwise_cons.1 H.st.apart).2⟩,
   H.os, H.tape, H.output, H.size, H.block, H.le, H.hnew, fun m' hm' => H.mnew m' (List.mem_cons_of_mem _ hm')⟩
theorem Ends.perm {w0 w : World} {h0 h : Hp} {ms0 ms ms' : List Hp} (H : Ends w0 h0 ms0 w h ms) (p : ms.Perm ms') : Ends w0 h0 ms0 w h ms' :=
  ⟨⟨H.st.imm, fun m hm => H.st.own m (p.mem_iff.2 hm), fun m hm => H.st.off m (p.mem_iff.2 hm), (p.pairwise_iff (fun h => Hp.disj_symm h)).1 H.st.apart⟩,
   H.os, H.tape, H.output, H.size, H.block, H.le, H.hnew, fun m hm => H.mnew m (p.mem_iff.2 hm)⟩
theorem Ends.change {w0 w w' : World} {h0 h : Hp} {ms0 ms : List Hp} {g : Nat} {o o' : Obj} (H : Ends w0 h0 ms0 w h (Hp.one g o :: ms))
    (hos : w'.os = w.os) (htape : TL w w') (hout : w'.output = w.output) (hsize : w.heap.size ≤ w'.heap.size)
    (hg : w'.heap[g]? = some o') (hother : ∀ k, k < w.heap.size → k ≠ g → w'.heap[k]? = w.heap[k]?) : Ends w0 h0 ms0 w' h (Hp.one g o' :: ms) := by
  have hgw : w.heap[g]? = some o := H.st.own _ (List.mem_cons_self) g o (Hp.one_self g o)
  have hoff : ∀ m ∈ ms, ∀ k o1, m k = some o1 → k ≠ g := fun m hm k o1 e he => by
    subst he
    rcases (List.pairwise_cons.1 H.st.apart).1 m hm k with e1 | e1
    · rw [Hp.one_self] at e1; cases e1
    · rw [e1] at e; cases e
  have hhg : h g = none := by
    rcases H.st.off _ (List.mem_cons_self) g with e1 | e1
    · rw [Hp.one_self] at e1; cases e1
    · exact e1
  refine ⟨⟨?_, ?_, ?_, ?_⟩, hos.trans H.os, htape.trans H.tape, hout.trans H.output, Nat.le_trans H.size hsize, ?_, H.le, H.hnew, ?_⟩
  · intro k o1 e
    rw [hother k (Hp.inW_lt H.st.imm e) (fun he => by subst he; rw [hhg] at e; cases e)]
    exact H.st.imm k o1 e
  · intro m hm
    rcases List.mem_cons.1 hm with rfl | hm
    · intro k o1 e
      obtain ⟨rfl, rfl⟩ := Hp.one_some e
      exact hg
    · intro k o1 e
      have hm' := H.st.own m (List.mem_cons_of_mem _ hm)
      rw [hother k (Hp.inW_lt hm' e) (hoff m hm k o1 e)]
      exact hm' k o1 e
  · intro m hm
    rcases List.mem_cons.1 hm with rfl | hm
    · intro k
      by_cases hk : k = g
      · subst hk; exact .inr hhg
      · exact .inl (Hp.one_ne hk)
    · exact H.st.off m (List.mem_cons_of_mem _ hm)
  · refine List.pairwise_cons.2 ⟨fun m hm k => ?_, (List.pairwise_cons.1 H.st.apart).2⟩
    by_cases hk : k = g
    · right
      cases e : m k with
      | none => rfl
      | some o1 => exact absurd hk (hoff m hm k o1 e)
    · exact .inl (Hp.one_ne hk)
  · intro k hk hm
    have hkg : k ≠ g := fun he => by
      subst he
      obtain ⟨m0, hm0, e0⟩ := H.mnew _ (List.mem_cons_self) k hk (by rw [Hp.one_self]; simp)
      exact absurd (hm m0 hm0) e0
    rw [hother k (Nat.lt_of_lt_of_le hk H.size) hkg]
    exact H.block k hk hm
  · intro m hm k hk e
    rcases List.mem_cons.1 hm with rfl | hm
    · by_cases hkg : k = g
      · subst hkg
        exact H.mnew _ (List.mem_cons_self) k hk (by rw [Hp.one_self]; simp)
      · exact absurd (Hp.one_ne hkg) e
    · exact H.mnew m (List.mem_cons_of_mem _ hm) k hk e
variable {n d id t j dj : Nat} {P : Program} {post : Value → Hp → List Hp → Prop} {a : Act} {y x c : Code} {b : Bool} {ds : List Nat} {v : Value} {oj : Oper} {l : List Oper} {fn : Func} {ms' ms0 : List Hp} {f : FuncId} {w0 : World} {h0 : Hp} {K : Act → World → Prop} {args : Array Value}
def lk : Ar → Nat → Option Value
  | [], _ => none
  | (i, v) :: s, j => match Nat.beq i j with | true => some v | false => lk s j
theorem Bj (d : Nat) (v : Value) (s : Ar) : lk ((d, v) :: s) d = some v := by
  have : Nat.beq d d = true := Nat.beq_refl d
  simp [lk, this]
theorem Bd {i : Nat} (v : Value) (s : Ar) (h : d ≠ i) : lk ((d, v) :: s) i = lk s i := by
  have : Nat.beq d i = false := by
    cases e : Nat.beq d i with
    | false => rfl
    | true => exact absurd (Nat.eq_of_beq_eq_true e) h
  simp [lk, this]
def ev (s : Ar) : Operand → Option Value
  | .tmp t => lk s t
  | .const v => some v
  | .global g => some (.pointer (some ⟨g, 0, none⟩))
  | .func f => some (.func (.func f) #[] #[])
def MI (s : Ar) : List Operand → Option (List Value)
  | [] => some []
  | x :: l => match ev s x with
    | none => none
    | some v => match MI s l with
      | none => none
      | some vs => some (v :: vs)
def V3 (s : Ar) : List (Nat × Operand) → Option (List (Nat × Value))
  | [] => some []
  | x :: l => match ev s x.2 with
    | none => none
    | some v => match V3 s l with
      | none => none
      | some vs => some ((x.1, v) :: vs)
abbrev Yj (ds : List Nat) : List Deferred := ds.map fun D => { target := .collected D, args := #[] }
structure Has (n : Nat) (ds : List Nat) (a : Act) (s : Ar) : Prop where
  defers : a.defers = Yj ds
  size : a.tmps.size = n
  slots : ∀ i v, lk s i = some v → a.tmps[i]? = some v
theorem Has.eval {s : Ar} (H : Has n ds a s) (x : Operand) (v : Value) (h : ev s x = some v) : a.eval x = v := by
  cases x with
  | tmp t =>
    have := H.slots t v h
    simp only [Act.eval]
    rw [Array.getD_eq_getD_getElem?, this]; rfl
  | const u => cases h; rfl
  | global g => cases h; rfl
  | func f => cases h; rfl
theorem Has.put {s : Ar} (H : Has n ds a s) (hd : d < n) (v : Value) : Has n ds (a.put (some d) v) ((d, v) :: s) := by
  refine ⟨H.defers, by simp [Act.put, H.size], fun i u h => ?_⟩
  by_cases hi : d = i
  · subst hi
    rw [Bj] at h; cases h
    simp [Act.put, H.size, hd]
  · rw [Bd _ _ hi] at h
    simp [Act.put, Array.getElem?_setIfInBounds_ne hi, H.slots i u h]
theorem Has.put_none {s : Ar} (H : Has n ds a s) (v : Value) : Has n ds (a.put none v) s := ⟨H.defers, H.size, H.slots⟩
def Sub : Ar → Ar → Prop
  | [], _ => True
  | (i, v) :: r, s => lk s i = some v ∧ Sub r s
theorem Sub.lk {s' s : Ar} (h : Sub s' s) : ∀ i v, Eng.lk s' i = some v → Eng.lk s i = some v := by
  induction s' with
  | nil => intro i v e; cases e
  | cons p r ih =>
    obtain ⟨j, u⟩ := p
    intro i v e
    by_cases hi : j = i
    · subst hi; rw [Bj] at e; cases e; exact h.1
    · rw [Bd _ _ hi] at e; exact ih h.2 i v e
theorem Has.sub {s s' : Ar} (H : Has n ds a s) (h : Sub s' s) : Has n ds a s' :=
  ⟨H.defers, H.size, fun i v e => H.slots i v (h.lk i v e)⟩
structure Entry where
  P : Program
  w0 : World
  h0 : Hp
  ms0 : List Hp
  n : Nat
  ds : List Nat
abbrev Entry.Ends (e : Entry) (w : World) (h : Hp) (ms : List Hp) : Prop := Eng.Ends e.w0 e.h0 e.ms0 w h ms
def WS (e : Entry) (c : Code) (Q : Exit → Act → World → Prop) (s : Ar) (h : Hp) (ms : List Hp) : Prop :=
  ∀ a w, Has e.n e.ds a s → e.Ends w h ms → c.wp e.P Q a w
def WL (e : Entry) (ops : Array Oper) (Q : Exit → Act → World → Prop) (l : List Oper) (s : Ar) (h : Hp) (ms : List Hp) : Prop :=
  ∀ a w, Has e.n e.ds a s → e.Ends w h ms → wpList e.P ops Q l a w
def NX (e : Entry) (Q : Exit → Act → World → Prop) (x : Exit) (s : Ar) (h : Hp) (ms : List Hp) : Prop :=
  ∀ a w, Has e.n e.ds a s → e.Ends w h ms → Q x a w
def Inv (e : Entry) (I : Ar → Hp → List Hp → Prop) (a : Act) (w : World) : Prop := ∃ s h ms, I s h ms ∧ Has e.n e.ds a s ∧ e.Ends w h ms
section rules
variable {e : Entry} {Q : Exit → Act → World → Prop} {s s' : Ar} {h : Hp} {ms : List Hp} {ops : Array Oper}
theorem Wv (hs : Sub s' s) (k : WL e ops Q l s' h ms) : WL e ops Q l s h ms := fun a w ha hw => k a w (ha.sub hs) hw
theorem Jh {m : Hp} (k : WS e c Q s h ms) : WS e c Q s h (m :: ms) := fun a w ha hw => k a w ha (Ends.drop hw)
theorem Jq (p : ms.Perm ms') (k : WS e c Q s h ms') : WS e c Q s h ms := fun a w ha hw => k a w ha (Ends.perm hw p)
theorem Mp (p : ms.Perm ms') (k : WL e ops Q l s h ms') : WL e ops Q l s h ms := fun a w ha hw => k a w ha (Ends.perm hw p)
theorem AS {x : Exit} {m : Hp} (k : NX e Q x s h ms) : NX e Q x s h (m :: ms) := fun a w ha hw => k a w ha (Ends.drop hw)
theorem Gx {x : Exit} (p : ms.Perm ms') (k : NX e Q x s h ms') : NX e Q x s h ms := fun a w ha hw => k a w ha (Ends.perm hw p)
theorem Ab (k : WL e l.toArray Q l s h ms) : WS e (.region id l.toArray false) Q s h ms :=
  fun a w ha hw => wp_region_lit (k a w ha hw)
theorem Ak (k : NX e Q .normal s h ms) : WL e ops Q [] s h ms := fun a w ha hw => k a w ha hw
theorem Ac (k : WS e x (Exit.then (fun a w => y.wp e.P Q a w) Q) s h ms) : WS e (.seq x y) Q s h ms :=
  fun a w ha hw => wp_seq (k a w ha hw)
theorem Ah (k : WS e c (Exit.inBlock id Q) s h ms) : WS e (.block id c) Q s h ms :=
  fun a w ha hw => wp_block (k a w ha hw)
theorem Aw (k : NX e Q (.exit id) s h ms) : WS e (.exit id) Q s h ms := fun a w ha hw => wp_exit (k a w ha hw)
theorem Aq (k : NX e Q .ret s h ms) : WS e .ret Q s h ms := fun a w ha hw => wp_ret (k a w ha hw)
theorem Ai (k : NX e Q .normal s h ms) : WS e .skip Q s h ms := fun a w ha hw => wp_skip (k a w ha hw)
theorem Ad (k : WS e y Q s h ms) : NX e (Exit.then (fun a w => y.wp e.P Q a w) Q) .normal s h ms := fun a w ha hw => k a w ha hw
theorem Aa (k : NX e Q (.exit id) s h ms) : NX e (Exit.then K Q) (.exit id) s h ms := fun a w ha hw => k a w ha hw
theorem Ae (k : NX e Q .ret s h ms) : NX e (Exit.then K Q) .ret s h ms := fun a w ha hw => k a w ha hw
theorem Aj (k : NX e Q .normal s h ms) : NX e (Exit.inBlock id Q) .normal s h ms := fun a w ha hw => k a w ha hw
theorem Al (k : NX e Q .ret s h ms) : NX e (Exit.inBlock id Q) .ret s h ms := fun a w ha hw => k a w ha hw
theorem Ag (k : NX e Q .normal s h ms) : NX e (Exit.inBlock id Q) (.exit id) s h ms := fun a w ha hw => by
  simp only [Exit.inBlock, if_true]; exact k a w ha hw
theorem LD {id' : Nat} (hne : Nat.beq id' id = false) (k : NX e Q (.exit id') s h ms) : NX e (Exit.inBlock id Q) (.exit id') s h ms := fun a w ha hw => by
  have : id' ≠ id := fun he => by subst he; rw [Nat.beq_refl] at hne; cases hne
  simp only [Exit.inBlock, this, if_false]; exact k a w ha hw
theorem Bk (hc : lk s t = some (.bool true)) (k : WS e x Q s h ms) : WS e (.cond (.tmp t) x y) Q s h ms :=
  fun a w ha hw => wp_cond_true (ha.eval (.tmp t) _ hc) (k a w ha hw)
theorem AO (hc : lk s t = some (.bool false)) (k : WS e y Q s h ms) : WS e (.cond (.tmp t) x y) Q s h ms :=
  fun a w ha hw => wp_cond_false (ha.eval (.tmp t) _ hc) (k a w ha hw)
theorem Bu (hc : lk s t = some (.bool b)) (kt : b = true → WS e x Q s h ms) (kf : b = false → WS e y Q s h ms) :
    WS e (.cond (.tmp t) x y) Q s h ms :=
  fun a w ha hw => wp_cond_split (ha.eval (.tmp t) _ hc) (fun hb => kt hb a w ha hw) (fun hb => kf hb a w ha hw)
theorem Ax {p : Prop} {_ : Decidable p} (hc : lk s t = some (.bool (decide p))) (kt : p → WS e x Q s h ms) (kf : ¬ p → WS e y Q s h ms) :
    WS e (.cond (.tmp t) x y) Q s h ms :=
  Bu hc (fun hb => kt (of_decide_eq_true hb)) (fun hb => kf (of_decide_eq_false hb))
theorem AD (I : Nat → Ar → Hp → List Hp → Prop) (n : Nat) (s' : Ar) (hI : I n s' h ms) (hs : Sub s' s)
    (round : ∀ n s h ms, I n s h ms → WS e c (Exit.then (fun a w => ∃ n', n' < n ∧ Inv e (I n') a w) Q) s h ms) : WS e (.loop c) Q s h ms := by
  intro a w ha hw b k cs
  have key : ∀ n a w, Inv e (I n) a w → ∃ x a' w', Q x a' w' ∧ Arrives e.P (lone (b.at a (.code c :: .inLoop c :: k)) cs w) b k cs x a' w' := by
    intro n
    induction n using Nat.strongRecOn with
    | _ n ih =>
      intro a w ⟨s, h, ms, hI, ha, hw⟩
      obtain ⟨x, a₁, w₁, hq, harr⟩ := round n s h ms hI a w ha hw b (.inLoop c :: k) cs
      cases x with
      | normal =>
        obtain ⟨n', hlt, hinv⟩ := hq
        obtain ⟨x₂, a₂, w₂, hq₂, harr₂⟩ := ih n' hlt a₁ w₁ hinv
        exact ⟨x₂, a₂, w₂, hq₂, .of_steps (Steps.trans harr (.one step_inLoop)) harr₂⟩
      | exit id => exact ⟨_, a₁, w₁, hq, .pass (x := .inLoop c) rfl (fun _ _ => .inl (by simp)) harr⟩
      | goto l => exact ⟨_, a₁, w₁, hq, .pass (x := .inLoop c) rfl (fun _ _ => .inl (by simp)) harr⟩
      | ret => exact ⟨_, a₁, w₁, hq, .pass (x := .inLoop c) rfl (fun _ _ => .inl (by simp)) harr⟩
      | panic ch => exact ⟨_, a₁, w₁, hq, .pass (x := .inLoop c) rfl (fun _ _ => .inl (by simp)) harr⟩
      | outgrown => exact ⟨_, a₁, w₁, hq, .pass (x := .inLoop c) rfl (fun _ _ => .inl (by simp)) harr⟩
  obtain ⟨x, a', w', hq, harr⟩ := key n a w ⟨s', h, ms, hI, ha.sub hs, hw⟩
  exact ⟨x, a', w', hq, .of_steps (.one step_loop) harr⟩
theorem Am {I : Nat → Ar → Hp → List Hp → Prop} (n' : Nat) (s' : Ar) (hlt : n' < n) (hI : I n' s' h ms) (hs : Sub s' s) :
    NX e (Exit.then (fun a w => ∃ n', n' < n ∧ Inv e (I n') a w) Q) .normal s h ms :=
  fun _ _ ha hw => ⟨n', hlt, s', h, ms, hI, ha.sub hs, hw⟩
theorem AV (I : Ar → Hp → List Hp → Prop) (k : WS e x (Exit.then (Inv e I) Q) s h ms) (k' : ∀ s h ms, I s h ms → WS e y Q s h ms) :
    WS e (.seq x y) Q s h ms :=
  fun a w ha hw => wp_seq (Code.wp_mono (fun x a w q => by
    cases x with
    | normal => obtain ⟨s, h, ms, hI, ha, hw⟩ := q; exact k' s h ms hI a w ha hw
    | _ => exact q) (k a w ha hw))
theorem Ay {I : Ar → Hp → List Hp → Prop} (s' : Ar) (hI : I s' h ms) (hs : Sub s' s) : NX e (Exit.then (Inv e I) Q) .normal s h ms :=
  fun _ _ ha hw => ⟨s', h, ms, hI, ha.sub hs, hw⟩
end rules
def RP (w0 : World) (h0 : Hp) (ms0 : List Hp) (post : Value → Hp → List Hp → Prop) : Ending → World → Prop :=
  fun x w' => ∃ r h' ms', x = .returned r ∧ Ends w0 h0 ms0 w' h' ms' ∧ post r h' ms'
def FnT (P : Program) (f : FuncId) (args : Array Value) (h : Hp) (ms : List Hp) (post : Value → Hp → List Hp → Prop) : Prop :=
  ∀ w, St w h ms → Calls P f args w (RP w h ms post)
def FnV (P : Program) (f : FuncId) (args : Array Value) (h : Hp) (ms : List Hp) (v : Value) : Prop :=
  ∀ w, St w h ms → Calls P f args w (fun x w' => x = .returned v ∧ Ext w w')
theorem FnT.mono {h : Hp} {ms : List Hp} {post' : Value → Hp → List Hp → Prop} (k : FnT P f args h ms post)
    (hp : ∀ r h' ms', post r h' ms' → post' r h' ms') : FnT P f args h ms post' :=
  fun w hw => (k w hw).mono fun _ _ ⟨r, h', ms', e1, e2, e3⟩ => ⟨r, h', ms', e1, e2, hp _ _ _ e3⟩
theorem Ends.toExt {w w' : World} {h h' : Hp} (H : Ends w h [] w' h' ms') : Ext w w' :=
  ⟨H.os, H.tape, H.output, H.size, fun k hk => H.block k hk (by simp)⟩
theorem FnT.toV {h : Hp} (k : FnT P f args h [] (fun r _ _ => r = v)) : FnV P f args h [] v :=
  fun w hw => (k w hw).mono fun _ _ ⟨_, _, _, e1, e2, e3⟩ => ⟨by rw [e1, e3], e2.toExt⟩
theorem FnV.weaken {h h1 : Hp} {ms : List Hp} (k : FnV P f args h [] v) (hl : h.le h1) : FnV P f args h1 ms v :=
  fun w hw => k w ⟨fun g o e => hw.imm g o (hl g o e), by simp, by simp, List.Pairwise.nil⟩
def A5 : Nat → List Value → Ar
  | _, [] => []
  | i, v :: l => (i, v) :: A5 (i + 1) l
theorem PJ (l : List Value) : ∀ k i v, lk (A5 k l) i = some v → k ≤ i ∧ l[i - k]? = some v := by
  induction l with
  | nil => intro k i v e; cases e
  | cons x l ih =>
    intro k i v e
    by_cases hi : k = i
    · subst hi; rw [A5, Bj] at e; cases e; simp
    · rw [A5, Bd _ _ hi] at e
      obtain ⟨h1, h2⟩ := ih (k + 1) i v e
      refine ⟨by omega, ?_⟩
      rw [show i - k = (i - (k + 1)) + 1 by omega]
      simpa using h2
theorem Av {l : List Value} {h : Hp} {ms : List Hp}
    (hf : P.funcs[f]? = some fn) (hn : fn.ntmps = n) (hb : fn.body = some c) (hl : Nat.ble l.length n = true)
    (k : ∀ w0, St w0 h ms → WS ⟨P, w0, h, ms, n, []⟩ c (bodyPost P fn (RP w0 h ms post)) (A5 0 l) h ms) : FnT P f l.toArray h ms post := by
  intro w hw
  refine calls_of_wp hf hb (k w hw _ w ?_ (Ends.refl hw))
  have hl' := Nat.le_of_ble_eq_true hl
  refine ⟨rfl, by simp [hn]; omega, fun i v e => ?_⟩
  obtain ⟨_, h2⟩ := PJ l 0 i v e
  have hi : i < l.length := by
    rcases Nat.lt_or_ge i l.length with h' | h'
    · exact h'
    · rw [List.getElem?_eq_none (by omega)] at h2; cases h2
  simp only [Nat.sub_zero] at h2
  rw [Array.getElem?_append_left (by simpa using hi)]
  simpa using h2
theorem As {s : Ar} {h : Hp} {ms : List Hp} (hr : fn.results = #[.tmp t]) (hv : lk s t = some v) (hp : post v h ms) :
    NX ⟨P, w0, h0, ms0, n, []⟩ (bodyPost P fn (RP w0 h0 ms0 post)) .ret s h ms := fun a w ha hw =>
  bodyPost_ret (results_tmp hr _ _ _) ha.defers ⟨_, h, ms, rfl, hw, by
    have := ha.eval (.tmp t) v hv
    simp only [Act.eval] at this
    rw [this]; exact hp⟩
theorem BH {s : Ar} {h : Hp} {ms : List Hp} {u : Nat} {v' : Value} (hr : fn.results = #[.tmp t, .tmp u]) (hv : lk s t = some v) (hv' : lk s u = some v') (hp : post (.tuple #[v, v']) h ms) :
    NX ⟨P, w0, h0, ms0, n, []⟩ (bodyPost P fn (RP w0 h0 ms0 post)) .ret s h ms := fun a w ha hw =>
  bodyPost_ret (results_tmp2 hr _ _ _) ha.defers ⟨_, h, ms, rfl, hw, by
    have h1 := ha.eval (.tmp t) v hv
    have h2 := ha.eval (.tmp u) v' hv'
    simp only [Act.eval] at h1 h2
    rw [h1, h2]; exact hp⟩
theorem BL {s : Ar} {h : Hp} {ms : List Hp} (hr : fn.results = #[]) (hp : post (.tuple #[]) h ms) :
    NX ⟨P, w0, h0, ms0, n, []⟩ (bodyPost P fn (RP w0 h0 ms0 post)) .normal s h ms := fun a w ha hw =>
  bodyPost_end (results_none hr _ _ _) ha.defers ⟨_, h, ms, rfl, hw, hp⟩
theorem Ek {s : Ar} {h : Hp} {ms : List Hp} (hr : fn.results = #[]) (hp : post (.tuple #[]) h ms) :
    NX ⟨P, w0, h0, ms0, n, []⟩ (bodyPost P fn (RP w0 h0 ms0 post)) .ret s h ms := fun a w ha hw =>
  bodyPost_ret (results_none hr _ _ _) ha.defers ⟨_, h, ms, rfl, hw, hp⟩
def OpRes (P : Program) (o : Oper) (ρ : Operand → Value) (w : World) (Φ : Value → World → Prop) : Prop :=
  match (execOp ρ o).run P w with
  | .ok (.value v) w' => Φ v w'
  | .ok .skip w' => Φ undef w'
  | .ok (.enter f args) w' => Calls P f args w' (fun x w'' => ∃ v, x = .returned v ∧ Φ v w'')
  | _ => False
theorem OpRes.wp {o : Oper} {w : World} {Φ : Value → World → Prop} {Q : Exit → Act → World → Prop}
    (h : OpRes P o a.eval w Φ) (k : ∀ v w', Φ v w' → K (a.put o.dst v) w') : o.wp P a w K Q := by
  unfold OpRes at h
  unfold Oper.wp
  generalize (execOp a.eval o).run P w = r at *
  cases r with
  | ok x w' =>
    cases x <;> simp only at h <;> simp only [Oper.upon]
    case value v => exact k _ _ h
    case skip => exact k _ _ h
    case enter f args => exact h.mono fun x w'' ⟨v, e, hv⟩ => by subst e; exact k _ _ hv
  | halt x w' => exact h.elim
def Evs (s : Ar) (ρ : Operand → Value) : Prop := ∀ x u, ev s x = some u → ρ x = u
theorem Evs.map {s : Ar} {ρ : Operand → Value} (H : Evs s ρ) : ∀ (l : List Operand) (vs : List Value), MI s l = some vs → l.map ρ = vs
  | [], vs, h => by cases h; rfl
  | x :: l, vs, h => by
    unfold MI at h
    cases hx : ev s x with
    | none => rw [hx] at h; cases h
    | some v =>
      rw [hx] at h
      cases hl : MI s l with
      | none => rw [hl] at h; cases h
      | some us => rw [hl] at h; cases h; rw [List.map_cons, H _ _ hx, H.map l us hl]
theorem Evs.pairs {s : Ar} {ρ : Operand → Value} (H : Evs s ρ) : ∀ (l : List (Nat × Operand)) (vs : List (Nat × Value)), V3 s l = some vs → (l.map fun (i, x) => (i, ρ x)) = vs
  | [], vs, h => by cases h; rfl
  | x :: l, vs, h => by
    unfold V3 at h
    cases hx : ev s x.2 with
    | none => rw [hx] at h; cases h
    | some v =>
      rw [hx] at h
      cases hl : V3 s l with
      | none => rw [hl] at h; cases h
      | some us => rw [hl] at h; cases h; rw [List.map_cons, H.pairs l us hl]; simp [H _ _ hx]
def OX (P : Program) (o : Oper) (s : Ar) (h : Hp) (ms : List Hp) (v : Value) : Prop :=
  ∀ ρ w, Evs s ρ → St w h ms → OpRes P o ρ w (fun v' w' => v' = v ∧ Ext w w')
def OT (e : Entry) (o : Oper) (s : Ar) (h : Hp) (ms : List Hp) (post : Value → Hp → List Hp → Prop) : Prop :=
  ∀ ρ w, Evs s ρ → e.Ends w h ms → OpRes e.P o ρ w (fun v w' => ∃ h' ms', e.Ends w' h' ms' ∧ post v h' ms')
section
variable {e : Entry} {Q : Exit → Act → World → Prop} {s : Ar} {h : Hp} {ms : List Hp} {ops : Array Oper} {o : Oper} {rest : List Oper}
theorem JG (hg : o.guard = none) (k : ∀ a w, Has e.n e.ds a s → e.Ends w h ms → o.wp e.P a w (wpList e.P ops Q rest) Q) : WL e ops Q (o :: rest) s h ms :=
  fun a w ha hw => by
    unfold wpList
    rw [if_pos (by simp [Region.wanted, hg])]
    exact .inl (k a w ha hw)
theorem XH (hx : OX e.P o s h ms v) (hd : o.dst = some d) (hn : Nat.blt d e.n = true) (hg : o.guard = none) (k : WL e ops Q rest ((d, v) :: s) h ms) :
    WL e ops Q (o :: rest) s h ms :=
  JG hg fun a w ha hw => (hx a.eval w ha.eval hw.st).wp fun v' w' ⟨e1, e2⟩ => by
    subst e1; rw [hd]
    exact k _ _ (ha.put (Nat.le_of_ble_eq_true hn) _) (hw.ext e2)
theorem II (hx : OT e o s h ms post) (hd : o.dst = some d) (hn : Nat.blt d e.n = true) (hg : o.guard = none)
    (k : ∀ v h' ms', post v h' ms' → WL e ops Q rest ((d, v) :: s) h' ms') : WL e ops Q (o :: rest) s h ms :=
  JG hg fun a w ha hw => (hx a.eval w ha.eval hw).wp fun v' w' ⟨h', ms', e1, e2⟩ => by
    rw [hd]
    exact k _ _ _ e2 _ _ (ha.put (Nat.le_of_ble_eq_true hn) _) e1
theorem KY (hx : OT e o s h ms post) (hd : o.dst = none) (hg : o.guard = none)
    (k : ∀ v h' ms', post v h' ms' → WL e ops Q rest s h' ms') : WL e ops Q (o :: rest) s h ms :=
  JG hg fun a w ha hw => (hx a.eval w ha.eval hw).wp fun v' w' ⟨h', ms', e1, e2⟩ => by
    rw [hd]
    exact k _ _ _ e2 _ _ (ha.put_none _) e1
theorem Has.yields (ha : Has n ds a s) (hj : ops[j]? = some oj) (hd : oj.dst = some dj) (hv : lk s dj = some (.bool b)) : yielded ops a.tmps j = some b := by
  simp [yielded, hj, hd, ha.slots dj _ hv]
theorem VX (hx : OX e.P o s h ms v) (hd : o.dst = some d) (hn : Nat.blt d e.n = true) (hg : o.guard = some (j, b)) (hj : ops[j]? = some oj) (hdj : oj.dst = some dj) (hv : lk s dj = some (.bool b))
    (k : WL e ops Q rest ((d, v) :: s) h ms) : WL e ops Q (o :: rest) s h ms := fun a w ha hw => by
  unfold wpList
  rw [if_pos (by simp [Region.wanted, hg, ha.yields hj hdj hv])]
  exact .inl ((hx a.eval w ha.eval hw.st).wp fun v' w' ⟨e1, e2⟩ => by
    subst e1; rw [hd]
    exact k _ _ (ha.put (Nat.le_of_ble_eq_true hn) _) (hw.ext e2))
theorem X0 (hx : OT e o s h ms post) (hd : o.dst = some d) (hn : Nat.blt d e.n = true) (hg : o.guard = some (j, b)) (hj : ops[j]? = some oj) (hdj : oj.dst = some dj) (hv : lk s dj = some (.bool b))
    (k : ∀ v h' ms', post v h' ms' → WL e ops Q rest ((d, v) :: s) h' ms') : WL e ops Q (o :: rest) s h ms := fun a w ha hw => by
  unfold wpList
  rw [if_pos (by simp [Region.wanted, hg, ha.yields hj hdj hv])]
  exact .inl ((hx a.eval w ha.eval hw).wp fun v' w' ⟨h', ms', e1, e2⟩ => by
    rw [hd]
    exact k _ _ _ e2 _ _ (ha.put (Nat.le_of_ble_eq_true hn) _) e1)
theorem U5 {b' : Bool} (hd : o.dst = some d) (hn : Nat.blt d e.n = true) (hg : o.guard = some (j, b)) (hj : ops[j]? = some oj) (hdj : oj.dst = some dj) (hv : lk s dj = some (.bool b')) (hne : (b' == b) = false)
    (k : WL e ops Q rest ((d, undef) :: s) h ms) : WL e ops Q (o :: rest) s h ms := fun a w ha hw => by
  unfold wpList
  rw [if_neg (by simp [Region.wanted, hg, ha.yields hj hdj hv]; simpa using hne), hd]
  exact k _ _ (ha.put (Nat.le_of_ble_eq_true hn) _) hw
theorem Has.yieldsu (ha : Has n ds a s) (hj : ops[j]? = some oj) (hd : oj.dst = some dj) (hv : lk s dj = some undef) : yielded ops a.tmps j = none := by
  simp [yielded, hj, hd, ha.slots dj _ hv, undef]
theorem AP (hd : o.dst = some d) (hn : Nat.blt d e.n = true) (hg : o.guard = some (j, b)) (hj : ops[j]? = some oj) (hdj : oj.dst = some dj) (hv : lk s dj = some undef)
    (k : WL e ops Q rest ((d, undef) :: s) h ms) : WL e ops Q (o :: rest) s h ms := fun a w ha hw => by
  unfold wpList
  rw [if_neg (by simp [Region.wanted, hg, ha.yieldsu hj hdj hv]), hd]
  exact k _ _ (ha.put (Nat.le_of_ble_eq_true hn) _) hw
theorem AQ {p : Prop} {_ : Decidable p} (hc : lk s t = some (.bool (decide p))) (kt : p → WL e ops Q l ((t, .bool true) :: s) h ms) (kf : ¬ p → WL e ops Q l ((t, .bool false) :: s) h ms) : WL e ops Q l s h ms := by
  by_cases hp : p
  · refine fun a w ha hw => kt hp a w ⟨ha.defers, ha.size, fun i v hi => ?_⟩ hw
    by_cases hi' : t = i
    · subst hi'; rw [Bj] at hi; cases hi; rw [ha.slots t _ hc]; simp [hp]
    · rw [Bd _ _ hi'] at hi; exact ha.slots i v hi
  · refine fun a w ha hw => kf hp a w ⟨ha.defers, ha.size, fun i v hi => ?_⟩ hw
    by_cases hi' : t = i
    · subst hi'; rw [Bj] at hi; cases hi; rw [ha.slots t _ hc]; simp [hp]
    · rw [Bd _ _ hi'] at hi; exact ha.slots i v hi
theorem C6 (hc : lk s t = some (.bool b)) (kt : b = true → WL e ops Q l ((t, .bool true) :: s) h ms) (kf : b = false → WL e ops Q l ((t, .bool false) :: s) h ms) : WL e ops Q l s h ms := by
  have e1 : decide (b = true) = b := by cases b <;> rfl
  exact AQ (p := b = true) (by rw [hc, e1]) kt (fun hb => kf (by simpa using hb))
end
end Go.Eng
namespace Go.Eng
open Go.RowKit
variable {v : Value} {vs cs : List Value} {ts : Array TypeId} {f : FuncId} {l : List Operand} {d : TypeDesc} {e : Entry} {post : Value → Hp → List Hp → Prop} {pre fr : List Hp} {g i : Nat} {fs : Array Field} {Q : Exit → Act → World → Prop} {ops : Array Oper} {rest : List Oper}
def Hw : TypeDesc → Bool
  | .struct _ | .array _ _ => true
  | _ => false
theorem DU {P : Program} {t : TypeId} (h : P.underlying t = some d) (w : World) : (isAgg t).run P w = .ok (Hw d) w := by
  simp only [isAgg, Sem.run_bind, run_underlying h, Result.andThen_ok]
  cases d <;> rfl
def Cell (h : Hp) (ms : List Hp) (p : Addr) (v : Value) : Prop :=
  p.spot = none ∧ ∃ cs el fr, (h p.block = some (.cells cs el fr) ∨ ∃ m ∈ ms, m p.block = some (.cells cs el fr)) ∧ cs[p.off]? = some v
def Seg (h : Hp) (ms : List Hp) (p : Addr) (vs : List Value) : Prop := ∀ j v, vs[j]? = some v → Cell h ms (p.add j) v
def Bf (g : Nat) (el : TypeId) (l : List Value) : Hp := Hp.one g (.cells l.toArray el (0, 0))
theorem St.cell {w : World} {h : Hp} {ms : List Hp} (s : St w h ms) {p : Addr} (c : Cell h ms p v) : w.cell? p = some v := by
  obtain ⟨hs, cs, el, fr, hm, hv⟩ := c
  have hb : w.heap[p.block]? = some (.cells cs el fr) := by
    rcases hm with hm | ⟨m, hm, e⟩
    · exact s.imm _ _ hm
    · exact s.own m hm _ _ e
  simp [World.cell?, hb, hs, hv]
theorem Cell.le {h h' : Hp} {ms : List Hp} {p : Addr} (c : Cell h ms p v) (l : h.le h') : Cell h' ms p v :=
  let ⟨hs, cs, el, fr, hm, hv⟩ := c
  ⟨hs, cs, el, fr, hm.imp (l _ _) id, hv⟩
theorem Cell.sub {h : Hp} {ms ms' : List Hp} {p : Addr} (c : Cell h ms p v) (l : ∀ m ∈ ms, m ∈ ms') : Cell h ms' p v :=
  let ⟨hs, cs, el, fr, hm, hv⟩ := c
  ⟨hs, cs, el, fr, hm.imp id (fun ⟨m, e1, e2⟩ => ⟨m, l m e1, e2⟩), hv⟩
theorem Seg.le {h h' : Hp} {ms : List Hp} {p : Addr} (c : Seg h ms p vs) (l : h.le h') : Seg h' ms p vs := fun j v e => (c j v e).le l
theorem Seg.sub {h : Hp} {ms ms' : List Hp} {p : Addr} (c : Seg h ms p vs) (l : ∀ m ∈ ms, m ∈ ms') : Seg h ms' p vs := fun j v e => (c j v e).sub l
theorem Cell.any {h : Hp} {ms : List Hp} {p : Addr} (c : Cell h [] p v) : Cell h ms p v := c.sub (by simp)
theorem Seg.any {h : Hp} {ms : List Hp} {p : Addr} (c : Seg h [] p vs) : Seg h ms p vs := c.sub (by simp)
theorem C5 (p : Addr) (i j : Nat) : (p.add i).add j = p.add (i + j) := by
  unfold Addr.add
  by_cases hi : i = 0 <;> by_cases hj : j = 0 <;> simp [hi, hj, Nat.add_assoc]
theorem De (p : Addr) : p.add 0 = p := by simp [Addr.add]
theorem CO (p : Addr) (i : Nat) : (p.add i).block = p.block := by unfold Addr.add; split <;> rfl
theorem DA (p : Addr) (i : Nat) : (p.add i).off = p.off + i := by unfold Addr.add; split <;> simp_all
theorem Cell.blk {h : Hp} {ms : List Hp} {el : TypeId} {l : List Value} (i : Nat) (hm : ms[i]? = some (Bf g el l)) {k : Nat} (hv : l[k]? = some v) : Cell h ms ((⟨g, 0, none⟩ : Addr).add k) v := by
  refine ⟨by unfold Addr.add; split <;> rfl, l.toArray, el, (0, 0), .inr ⟨_, List.mem_of_getElem? hm, ?_⟩, ?_⟩
  · rw [CO]; exact Hp.one_self _ _
  · rw [DA]; simpa using hv
theorem Cell.blk0 {h : Hp} {ms : List Hp} {el : TypeId} {l : List Value} (i : Nat) (hm : ms[i]? = some (Bf g el l)) (hv : l[0]? = some v) : Cell h ms ⟨g, 0, none⟩ v := by
  have := Cell.blk (h := h) i hm (k := 0) hv
  rwa [De] at this
theorem Seg.blk {h : Hp} {ms : List Hp} {el : TypeId} {l : List Value} (i : Nat) (hm : ms[i]? = some (Bf g el l)) : Seg h ms ⟨g, 0, none⟩ l := fun _ _ e => Cell.blk i hm e
theorem Seg.at0 {h : Hp} {ms : List Hp} {p : Addr} (c : Seg h ms p vs) (e : vs[0]? = some v) : Cell h ms p v := by
  have := c 0 v e; rwa [De] at this
structure Elem (P : Program) (el : TypeId) (sz : Nat) (z : Value) (bytes : Nat) : Prop where
  info : ∃ i, P.info? el = some i ∧ i.zero = some z ∧ i.size = sz ∧ i.bytes = bytes
theorem Elem.of {P : Program} {el : TypeId} {sz : Nat} {z : Value} {bytes : Nat} (h : (P.info? el).map (fun i => (i.zero, i.size, i.bytes)) = some (some z, sz, bytes)) : Elem P el sz z bytes := by
  cases e : P.info? el with
  | none => rw [e] at h; cases h
  | some i => rw [e] at h; simp at h; exact ⟨i, e ▸ rfl, h.1, h.2.1, h.2.2⟩
theorem Elem.sizeOf {P : Program} {el : TypeId} {sz : Nat} {z : Value} {bytes : Nat} (E : Elem P el sz z bytes) (w : World) : (Go.sizeOf el).run P w = .ok sz w := by
  obtain ⟨i, h1, h2, h3, h4⟩ := E.info
  simp [Go.sizeOf, typeInfo, h1, h3]
theorem Elem.zeroValue {P : Program} {el : TypeId} {sz : Nat} {z : Value} {bytes : Nat} (E : Elem P el sz z bytes) (w : World) : (Go.zeroValue el).run P w = .ok z w := by
  obtain ⟨i, h1, h2, h3, h4⟩ := E.info
  simp [Go.zeroValue, typeInfo, h1, h2]
section
variable {P : Program} {o : Oper} {s : Ar} {h : Hp} {ms : List Hp}
theorem By (k : ∀ ρ w, Evs s ρ → St w h ms → (execOp ρ o).run P w = .ok (.value v) w) : OX P o s h ms v := fun ρ w hρ hw => by
  unfold OpRes; rw [k ρ w hρ hw]; exact ⟨rfl, Ext.refl _⟩
theorem Au {x : Operand} (ho : o.op = .move x) (hx : ev s x = some v) : OX P o s h ms v :=
  By fun ρ w hρ _ => by simp [execOp, ho, hρ _ _ hx]
theorem IE {x : Operand} (ho : o.op = .assign x) (hx : ev s x = some v) : OX P o s h ms v :=
  By fun ρ w hρ _ => by simp [execOp, ho, hρ _ _ hx]
theorem B8 {c x y : Operand} (ho : o.op = .pick c x y) (hc : ev s c = some (.bool true)) (hx : ev s x = some v) : OX P o s h ms v :=
  By fun ρ w hρ _ => by simp [execOp, ho, hρ _ _ hc, hρ _ _ hx, asBool]
theorem BS {c x y : Operand} (ho : o.op = .pick c x y) (hc : ev s c = some (.bool false)) (hx : ev s y = some v) : OX P o s h ms v :=
  By fun ρ w hρ _ => by simp [execOp, ho, hρ _ _ hc, hρ _ _ hx, asBool]
theorem Pv {x : Operand} {vs : Array Value} (ho : o.op = .extract x i) (hx : ev s x = some (.tuple vs)) (hv : vs[i]? = some v) : OX P o s h ms v :=
  By fun ρ w hρ _ => by simp [execOp, ho, hρ _ _ hx, Instr.extract, hv]
section
variable {t u : TypeId} {x y : Operand} {k : IntKind} {a b : Int}
theorem Ve (ho : o.op = .binOp .add t x y u) (hx : ev s x = some (.int k a)) (hy : ev s y = some (.int k b)) : OX P o s h ms (.int k (k.wrap (a + b))) :=
  By fun ρ w hρ _ => by simp [execOp, ho, hρ _ _ hx, hρ _ _ hy, go_sem]
theorem UP (ho : o.op = .binOp .sub t x y u) (hx : ev s x = some (.int k a)) (hy : ev s y = some (.int k b)) : OX P o s h ms (.int k (k.wrap (a - b))) :=
  By fun ρ w hρ _ => by simp [execOp, ho, hρ _ _ hx, hρ _ _ hy, go_sem]
theorem Vr (ho : o.op = .binOp .mul t x y u) (hx : ev s x = some (.int k a)) (hy : ev s y = some (.int k b)) : OX P o s h ms (.int k (k.wrap (a * b))) :=
  By fun ρ w hρ _ => by simp [execOp, ho, hρ _ _ hx, hρ _ _ hy, go_sem]
theorem Dd {n : Int} (hn : -9223372036854775808 ≤ n ∧ n ≤ 9223372036854775807) : IntKind.i64.wrap n = n := IntWalk.i64_in n hn
theorem WI (ho : o.op = .binOp .add t x y u) (hx : ev s x = some (.int .i64 a)) (hy : ev s y = some (.int .i64 b)) (hr : -9223372036854775808 ≤ a + b ∧ a + b ≤ 9223372036854775807) : OX P o s h ms (.int .i64 (a + b)) := by
  have := Ve (P := P) (h := h) (ms := ms) ho hx hy; rwa [Dd hr] at this
theorem WH (ho : o.op = .binOp .sub t x y u) (hx : ev s x = some (.int .i64 a)) (hy : ev s y = some (.int .i64 b)) (hr : -9223372036854775808 ≤ a - b ∧ a - b ≤ 9223372036854775807) : OX P o s h ms (.int .i64 (a - b)) := by
  have := UP (P := P) (h := h) (ms := ms) ho hx hy; rwa [Dd hr] at this
theorem Wo (ho : o.op = .binOp .mul t x y u) (hx : ev s x = some (.int .i64 a)) (hy : ev s y = some (.int .i64 b)) (hr : -9223372036854775808 ≤ a * b ∧ a * b ≤ 9223372036854775807) : OX P o s h ms (.int .i64 (a * b)) := by
  have := Vr (P := P) (h := h) (ms := ms) ho hx hy; rwa [Dd hr] at this
theorem Vb (ho : o.op = .binOp .quo t x y u) (hx : ev s x = some (.int k a)) (hy : ev s y = some (.int k b)) (hb : b ≠ 0) : OX P o s h ms (.int k (k.wrap (a.tdiv b))) :=
  By fun ρ w hρ _ => by simp [execOp, ho, hρ _ _ hx, hρ _ _ hy, go_sem, hb]
theorem OL {a b : Int} (ha : -9223372036854775808 ≤ a ∧ a ≤ 9223372036854775807) (hb : 1 ≤ b) : -9223372036854775808 ≤ a.tdiv b ∧ a.tdiv b ≤ 9223372036854775807 := by
  rcases Int.lt_or_le a 0 with h0 | h0
  · have e : a.tdiv b = -((-a) / b) := by rw [tdiv_eq_if]; simp [Int.not_le.2 h0]
    have h1 : (-a) / b ≤ -a := Int.ediv_le_self _ (by omega)
    have h2 : 0 ≤ (-a) / b := Int.ediv_nonneg (by omega) (by omega)
    omega
  · have e : a.tdiv b = a / b := by rw [tdiv_eq_if]; simp [h0]
    have h1 : a / b ≤ a := Int.ediv_le_self _ h0
    have h2 : 0 ≤ a / b := Int.ediv_nonneg h0 (by omega)
    omega
theorem LR (ho : o.op = .binOp .quo t x y u) (hx : ev s x = some (.int .i64 a)) (hy : ev s y = some (.int .i64 b)) (ha : -9223372036854775808 ≤ a ∧ a ≤ 9223372036854775807) (hb : 1 ≤ b) : OX P o s h ms (.int .i64 (a.tdiv b)) := by
  have := Vb (P := P) (h := h) (ms := ms) ho hx hy (by omega); rwa [Dd (OL ha hb)] at this
theorem H0 (ho : o.op = .binOp .quo t x y u) (hx : ev s x = some (.int .i64 a)) (hy : ev s y = some (.int .i64 b)) (ha : 0 ≤ a ∧ a ≤ 9223372036854775807) (hb : 1 ≤ b) : OX P o s h ms (.int .i64 (a / b)) := by
  have := LR (P := P) (h := h) (ms := ms) ho hx hy (by omega) hb
  have e : a.tdiv b = a / b := by rw [tdiv_eq_if]; simp [ha.1]
  rwa [e] at this
theorem Pc (ho : o.op = .binOp .rem t x y u) (hx : ev s x = some (.int k a)) (hy : ev s y = some (.int k b)) (hb : b ≠ 0) : OX P o s h ms (.int k (a.tmod b)) :=
  By fun ρ w hρ _ => by simp [execOp, ho, hρ _ _ hx, hρ _ _ hy, go_sem, hb]
theorem B5 (ho : o.op = .binOp .rem t x y u) (hx : ev s x = some (.int k a)) (hy : ev s y = some (.int k b)) (ha : 0 ≤ a) (hb : 1 ≤ b) : OX P o s h ms (.int k (a % b)) := by
  have := Pc (P := P) (h := h) (ms := ms) ho hx hy (by omega)
  have e : a.tmod b = a % b := by rw [tmod_eq_if]; simp [ha]
  rwa [e] at this
theorem C0 (ho : o.op = .binOp .lss t x y u) (hx : ev s x = some (.int k a)) (hy : ev s y = some (.int k b)) : OX P o s h ms (.bool (decide (a < b))) :=
  By fun ρ w hρ _ => by simp [execOp, ho, hρ _ _ hx, hρ _ _ hy, go_sem]
theorem Ot (ho : o.op = .binOp .leq t x y u) (hx : ev s x = some (.int k a)) (hy : ev s y = some (.int k b)) : OX P o s h ms (.bool (decide (a ≤ b))) :=
  By fun ρ w hρ _ => by simp [execOp, ho, hρ _ _ hx, hρ _ _ hy, go_sem]
theorem BY (ho : o.op = .binOp .gtr t x y u) (hx : ev s x = some (.int k a)) (hy : ev s y = some (.int k b)) : OX P o s h ms (.bool (decide (b < a))) :=
  By fun ρ w hρ _ => by simp [execOp, ho, hρ _ _ hx, hρ _ _ hy, go_sem]
theorem Up (ho : o.op = .binOp .geq t x y u) (hx : ev s x = some (.int k a)) (hy : ev s y = some (.int k b)) : OX P o s h ms (.bool (decide (b ≤ a))) :=
  By fun ρ w hρ _ => by simp [execOp, ho, hρ _ _ hx, hρ _ _ hy, go_sem]
theorem DD (ho : o.op = .binOp .eql t x y u) (hx : ev s x = some (.int k a)) (hy : ev s y = some (.int k b)) : OX P o s h ms (.bool (decide (a = b))) :=
  By fun ρ w hρ _ => by simp [execOp, ho, hρ _ _ hx, hρ _ _ hy, go_sem]; rfl
theorem DP (ho : o.op = .binOp .neq t x y u) (hx : ev s x = some (.int k a)) (hy : ev s y = some (.int k b)) : OX P o s h ms (.bool (decide (a ≠ b))) :=
  By fun ρ w hρ _ => by simp [execOp, ho, hρ _ _ hx, hρ _ _ hy, go_sem]; rfl
theorem MA (ho : o.op = .unOp .neg t x) (hx : ev s x = some (.int .i64 a)) (hr : -9223372036854775807 ≤ a ∧ a ≤ 9223372036854775807) : OX P o s h ms (.int .i64 (-a)) :=
  By fun ρ w hρ _ => by
    have := Dd (n := -a) (by omega)
    simp [execOp, ho, hρ _ _ hx, Op.unary, Op.intArith, this]
theorem Mu {k' : IntKind} (ho : o.op = .convert t u x) (ht : P.underlying t = some d) (hu : P.underlying u = some (.int k')) (hx : ev s x = some (.int k a)) (hr : k'.wrap a = a) : OX P o s h ms (.int k' a) :=
  By fun ρ w hρ _ => by simp [execOp, ho, hρ _ _ hx, convert, run_underlying ht, run_underlying hu, Conv.intToInt, hr]
theorem B3 {k' : IntKind} (ho : o.op = .convert t u x) (ht : P.underlying t = some d) (hu : P.underlying u = some (.int k')) (hx : ev s x = some (.int k a)) : OX P o s h ms (.int k' (k'.wrap a)) :=
  By fun ρ w hρ _ => by simp [execOp, ho, hρ _ _ hx, convert, run_underlying ht, run_underlying hu, Conv.intToInt]
theorem Ho {k' : IntKind} (ho : o.op = .call { callee := .builtin .max, args := #[x, y], argTypes := ts }) (hx : ev s x = some (.int k a)) (hy : ev s y = some (.int k' b)) : OX P o s h ms (.int k (max a b)) :=
  By fun ρ w hρ _ => by
    have : (if b > a then b else a) = max a b := by omega
    simp [execOp, ho, hρ _ _ hx, hρ _ _ hy, resolve, invoke, builtin, run_max_int2, this]
end
section
variable {t u : TypeId} {x y : Operand} {a b : Bool}
theorem Ft (ho : o.op = .unOp .not t x) (hx : ev s x = some (.bool a)) : OX P o s h ms (.bool (!a)) :=
  By fun ρ w hρ _ => by simp [execOp, ho, hρ _ _ hx, Op.unary]
end
section
variable {t el : TypeId} {x y : Operand} {p : Addr} {len cap sz : Nat} {k : IntKind}
theorem F1 {z : Value} {bytes : Nat} {i : Int} (j : Nat) (ho : o.op = .indexAddr t x y) (ht : P.underlying t = some (.slice el)) (hs : Elem P el sz z bytes) (hx : ev s x = some (.slice (some p) len cap)) (hy : ev s y = some (.int k i)) (hi : i = (j : Int)) (hlt : j < len) :
    OX P o s h ms (.pointer (some (p.add (j * sz)))) :=
  By fun ρ w hρ _ => by
    have h1 : (0 : Int) ≤ i ∧ i < (len : Int) := by omega
    have h2 : i.toNat = j := by omega
    simp [execOp, ho, hρ _ _ hx, hρ _ _ hy, Instr.indexAt, run_underlying ht, asIntOf, h1, h2, hs.sizeOf]
theorem Gy {z : Value} {bytes : Nat} {i : Int} (j : Nat) (ho : o.op = .indexAddr t x y) (ht : P.underlying t = some (.array len el)) (hs : Elem P el sz z bytes) (hx : ev s x = some (.pointer (some p))) (hy : ev s y = some (.int k i)) (hi : i = (j : Int)) (hlt : j < len) :
    OX P o s h ms (.pointer (some (p.add (j * sz)))) :=
  By fun ρ w hρ _ => by
    have h1 : (0 : Int) ≤ i ∧ i < (len : Int) := by omega
    have h2 : i.toNat = j := by omega
    simp [execOp, ho, hρ _ _ hx, hρ _ _ hy, Instr.indexAt, run_underlying ht, Instr.sureAddr, asIntOf, h1, h2, hs.sizeOf]
theorem Ux {f : Field} {n : Nat} (ho : o.op = .fieldAddr t x i) (ht : P.underlying t = some (.struct fs)) (hf : fs[i]? = some f) (hs : ∀ w, (sizeOf f.type).run P w = .ok (n + 1) w) (hx : ev s x = some (.pointer (some p))) :
    OX P o s h ms (.pointer (some (p.add f.offset))) :=
  By fun ρ w hρ _ => by simp [execOp, ho, hρ _ _ hx, Instr.fieldAt, run_underlying ht, hf, Instr.sureAddr, fieldPlace, hs]
theorem U3 (ho : o.op = .load t x) (ht : P.underlying t = some d) (hd : Hw d = false) (hx : ev s x = some (.pointer (some p))) (hc : Cell h ms p v) : OX P o s h ms v :=
  By fun ρ w hρ hw => by
    have ha : (isAgg t).run P w = .ok false w := by rw [DU ht, hd]
    simp [execOp, ho, hρ _ _ hx, Instr.loadAt, Instr.sureAddr, loadVar, ha, hw.cell hc]
theorem Tz {z : Value} {bytes : Nat} (ho : o.op = .load t x) (ht : P.underlying t = some d) (hd : Hw d = true) (hs : Elem P t sz z bytes) (hl : vs.length = sz) (hx : ev s x = some (.pointer (some p))) (hc : Seg h ms p vs) : OX P o s h ms (.agg vs.toArray) :=
  By fun ρ w hρ hw => by
    have ha : (isAgg t).run P w = .ok true w := by rw [DU ht, hd]
    have hc' : ∀ j v, vs[j]? = some v → w.cell? (p.add j) = some v := fun j v e => hw.cell (hc j v e)
    subst hl
    simp [execOp, ho, hρ _ _ hx, Instr.loadAt, Instr.sureAddr, loadVar, ha, hs.sizeOf, run_loadCells_list (P := P) w p vs hc']
theorem MR (ho : o.op = .nilCheck x) (hx : ev s x = some (.pointer (some p))) : OX P o s h ms (.pointer (some p)) :=
  By fun ρ w hρ _ => by simp [execOp, ho, hρ _ _ hx]
theorem Oj {ty : TypeId} {a : Option Addr} (ho : o.op = .call { callee := .builtin .len, args := #[x], argTypes := #[t] }) (ht : P.underlying t = some (.slice el)) (hx : ev s x = some (.slice a len cap)) : OX P o s h ms (.int .i64 len) :=
  By fun ρ w hρ _ => by simp [execOp, ho, hρ _ _ hx, resolve, invoke, builtin, Builtin.len_, run_underlying ht, goInt]
theorem Ff {f : Field} {cs : Array Value} (ho : o.op = .field t x i) (ht : P.underlying t = some (.struct fs)) (hf : fs[i]? = some f) (hd : P.underlying f.type = some d) (ha : Hw d = false) (hx : ev s x = some (.agg cs)) (hv : cs[f.offset]? = some v) :
    OX P o s h ms v :=
  By fun ρ w hρ _ => by
    have hag : (isAgg f.type).run P w = .ok false w := by rw [DU hd, ha]
    simp [execOp, ho, hρ _ _ hx, Instr.field, run_underlying ht, hf, asAgg, part, hag, hv]
def FZ : List Value → Nat → List Value → List Value
  | l, _, [] => l
  | l, k, v :: vs => FZ (l.set k v) (k + 1) vs
def My : List Value → List (Nat × List Value) → List Value
  | l, [] => l
  | l, (k, vs) :: r => My (FZ l k vs) r
theorem OD (vs : List Value) : ∀ (k off : Nat) (l : List Value), (List.foldl (fun (cs : Array Value) (c : Value × Nat) => cs.setIfInBounds (off + c.2) c.1) l.toArray (vs.zipIdx k)) = (FZ l (off + k) vs).toArray := by
  induction vs with
  | nil => intro k off l; rfl
  | cons v vs ih =>
    intro k off l
    simp only [List.zipIdx_cons, List.foldl_cons, List.setIfInBounds_toArray]
    rw [ih (k + 1) off]; rfl
def Fu (place : Nat → Option (Nat × Nat)) (n : Nat) : List (Nat × Value) → List (Nat × List Value) → Prop
  | [], [] => True
  | p :: ps, q :: qs => (p.2.cells = q.2.toArray ∧ place p.1 = some (q.1, q.2.length) ∧ Nat.ble (q.1 + q.2.length) n = true) ∧ Fu place n ps qs
  | _, _ => False
theorem GO : ∀ (vs : List Value) (l : List Value) (k : Nat), (FZ l k vs).length = l.length
  | [], _, _ => rfl
  | v :: vs, l, k => by simp only [FZ]; rw [GO vs]; simp
theorem GH (place : Nat → Option (Nat × Nat)) : ∀ (parts : List (Nat × Value)) (l : List Value) (ps : List (Nat × List Value)), Fu place l.length parts ps → Instr.fill place l.toArray parts = some (My l ps).toArray
  | [], l, [], _ => rfl
  | [], _, _ :: _, h => h.elim
  | _ :: _, _, [], h => h.elim
  | (i, v) :: parts, l, (off, vs) :: ps, h => by
    obtain ⟨⟨h1, h2, h3⟩, h4⟩ := h
    simp only at h1 h2 h3
    have h3' := Nat.le_of_ble_eq_true h3
    simp only [Instr.fill, h2, h1, List.size_toArray]
    rw [if_neg (by simp; omega)]
    rw [← Array.foldl_toList]
    simp only [Array.toList_zipIdx]
    rw [OD vs 0 off l, Nat.add_zero]
    exact GH place parts _ ps (by rw [GO]; exact h4)
theorem S8 {z : Value} {bytes : Nat} {lp : List (Nat × Operand)} {vs : List (Nat × Value)} {places : Array (Nat × Nat)} (zl : List Value) (ps : List (Nat × List Value)) (vl : List Value) (ho : o.op = .build t lp.toArray) (ht : P.underlying t = some (.struct fs)) (hs : Elem P t sz z bytes) (hz : z.cells = zl.toArray)
    (hpl : ∀ w, (fs.mapM fun f => do pure (f.offset, ← sizeOf f.type) : Sem (Array (Nat × Nat))).run P w = .ok places w) (hv : V3 s lp = some vs)
    (hps : Fu (places[·]?) zl.length vs ps) (hvl : My zl ps = vl) : OX P o s h ms (.agg vl.toArray) :=
  By fun ρ w hρ _ => by
    have hf := GH (places[·]?) vs zl ps hps
    have hm : (lp.toArray.map fun (i, x) => (i, ρ x)) = vs.toArray := by
      rw [List.map_toArray, hρ.pairs lp vs hv]
    have hpl' := hpl w
    simp only [execOp, ho, hm]
    simp only [Instr.build, Sem.run_bind, hs.zeroValue, run_underlying ht, hz, Result.andThen_ok, hpl', hf, Sem.run_pure, hvl]
theorem QW {n : Nat} {z : Value} {bytes bytes' : Nat} {zt : Value} {lp : List (Nat × Operand)} {vs : List (Nat × Value)} {szt : Nat} (zl : List Value) (ps : List (Nat × List Value)) (vl : List Value) (ho : o.op = .build t lp.toArray) (ht : P.underlying t = some (.array n el)) (hs : Elem P t szt zt bytes) (hz : zt.cells = zl.toArray) (hel : Elem P el sz z bytes') (hv : V3 s lp = some vs)
    (hps : Fu (fun i => some (i * sz, sz)) zl.length vs ps) (hvl : My zl ps = vl) : OX P o s h ms (.agg vl.toArray) :=
  By fun ρ w hρ _ => by
    have hf := GH (fun i => some (i * sz, sz)) vs zl ps hps
    have hm : (lp.toArray.map fun (i, x) => (i, ρ x)) = vs.toArray := by
      rw [List.map_toArray, hρ.pairs lp vs hv]
    simp only [execOp, ho, hm]
    simp only [Instr.build, Sem.run_bind, hs.zeroValue, run_underlying ht, hz, Result.andThen_ok, hel.sizeOf, hf, Sem.run_pure, hvl]
theorem Bv {fn : Fn} {lf lc : List Operand} {vf vc : List Value} (ho : o.op = .makeFunc fn lf.toArray lc.toArray) (hf : MI s lf = some vf) (hc : MI s lc = some vc) : OX P o s h ms (.func fn vf.toArray vc.toArray) :=
  By fun ρ w hρ _ => by simp [execOp, ho, hρ.map _ _ hf, hρ.map _ _ hc, Instr.makeFunc]
end
section
variable {t el : TypeId} {x lo hi : Operand} {p : Addr} {len cap sz : Nat} {k k' : IntKind} {z : Value} {bytes : Nat}
theorem ON {l : Int} (i : Nat) (ho : o.op = .slice t x (some lo) none none) (ht : P.underlying t = some (.slice el)) (hs : Elem P el sz z bytes) (hx : ev s x = some (.slice (some p) len cap)) (hlo : ev s lo = some (.int k l)) (el' : l = (i : Int)) (h1 : i ≤ len) :
    OX P o s h ms (.slice (some (if cap = i then p else p.add (i * sz))) (len - i) (cap - i)) :=
  By fun ρ w hρ _ => by
    have g1 : (0 : Int) ≤ l ∧ l ≤ (len : Int) := by omega
    have g3 : l.toNat = i := by omega
    simp [execOp, ho, hρ _ _ hx, hρ _ _ hlo, Instr.sliceAt, Instr.slice, run_underlying ht, Instr.sliceBounds, Instr.sliceBound, asIntOf, g1, g3, hs.sizeOf]
    split <;> rfl
theorem OC {r : Int} (j : Nat) (ho : o.op = .slice t x none (some hi) none) (ht : P.underlying t = some (.slice el)) (hs : Elem P el sz z bytes) (hx : ev s x = some (.slice (some p) len cap)) (hhi : ev s hi = some (.int k r)) (er : r = (j : Int)) (h2 : j ≤ cap) :
    OX P o s h ms (.slice (some p) j cap) :=
  By fun ρ w hρ _ => by
    have g2 : (0 : Int) ≤ r ∧ r ≤ (cap : Int) := by omega
    have g4 : r.toNat = j := by omega
    simp [execOp, ho, hρ _ _ hx, hρ _ _ hhi, Instr.sliceAt, Instr.slice, run_underlying ht, Instr.sliceBounds, Instr.sliceBound, asIntOf, g2, g4, hs.sizeOf, De]
end
theorem AG (ho : o.op = .call { callee := .value (.func f), args := l.toArray, argTypes := ts }) (hc : ∀ az w, (callFunc f az).run P w = .ok (.enter f az) w) (ha : MI s l = some vs) (k : FnV P f vs.toArray h ms v) : OX P o s h ms v :=
  fun ρ w hρ hw => by
    have hev : ρ (.func f) = .func (.func f) #[] #[] := hρ _ _ rfl
    have : (execOp ρ o).run P w = .ok (.enter f vs.toArray) w := by simp [execOp, ho, resolve, hev, Deferred.ofValue, invoke, hc, hρ.map l vs ha]
    unfold OpRes; rw [this]
    exact (k w hw).mono fun x w' ⟨e1, e2⟩ => ⟨v, e1, rfl, e2⟩
theorem P9 (ho : o.op = .call { callee := .value (.func f), args := l.toArray, argTypes := ts }) (hc : ∀ az w, (callFunc f az).run e.P w = .ok (.enter f az) w) (ha : MI s l = some vs) (k : FnT e.P f vs.toArray h pre post) :
    OT e o s h (pre ++ fr) (fun v h' ms' => ∃ pre', ms' = pre' ++ fr ∧ h.le h' ∧ post v h' pre') :=
  fun ρ w hρ hw => by
    have hev : ρ (.func f) = .func (.func f) #[] #[] := hρ _ _ rfl
    have : (execOp ρ o).run e.P w = .ok (.enter f vs.toArray) w := by simp [execOp, ho, resolve, hev, Deferred.ofValue, invoke, hc, hρ.map l vs ha]
    unfold OpRes; rw [this]
    exact (k w hw.st.pre).mono fun x w' ⟨r, h', pre', e1, e2, e3⟩ => ⟨r, e1, h', pre' ++ fr, Ends.call hw e2, pre', rfl, e2.le, e3⟩
theorem B0 {x : Operand} {fs : List Value} (ho : o.op = .call { callee := .value x, args := l.toArray, argTypes := ts }) (hx : ev s x = some (.func (.func f) fs.toArray cs.toArray)) (hc : ∀ az w, (callFunc f az).run P w = .ok (.enter f az) w) (ha : MI s l = some vs) (k : FnV P f (fs ++ vs ++ cs).toArray h ms v) : OX P o s h ms v :=
  fun ρ w hρ hw => by
    have : (execOp ρ o).run P w = .ok (.enter f (fs ++ vs ++ cs).toArray) w := by simp [execOp, ho, resolve, hρ _ _ hx, Deferred.ofValue, invoke, hc, hρ.map l vs ha]
    unfold OpRes; rw [this]
    exact (k w hw).mono fun x w' ⟨e1, e2⟩ => ⟨v, e1, rfl, e2⟩
theorem Ng {x : Operand} {fs : List Value} (ho : o.op = .call { callee := .value x, args := l.toArray, argTypes := ts }) (hx : ev s x = some (.func (.func f) fs.toArray cs.toArray)) (hc : ∀ az w, (callFunc f az).run e.P w = .ok (.enter f az) w) (ha : MI s l = some vs) (k : FnT e.P f (fs ++ vs ++ cs).toArray h pre post) :
    OT e o s h (pre ++ fr) (fun v h' ms' => ∃ pre', ms' = pre' ++ fr ∧ h.le h' ∧ post v h' pre') :=
  fun ρ w hρ hw => by
    have : (execOp ρ o).run e.P w = .ok (.enter f (fs ++ vs ++ cs).toArray) w := by simp [execOp, ho, resolve, hρ _ _ hx, Deferred.ofValue, invoke, hc, hρ.map l vs ha]
    unfold OpRes; rw [this]
    exact (k w hw.st.pre).mono fun x w' ⟨r, h', pre', e1, e2, e3⟩ => ⟨r, e1, h', pre' ++ fr, Ends.call hw e2, pre', rfl, e2.le, e3⟩
theorem UU {d : Nat} (ho : o.op = .call { callee := .value (.func f), args := l.toArray, argTypes := ts }) (hc : ∀ az w, (callFunc f az).run e.P w = .ok (.enter f az) w) (ha : MI s l = some vs) (k : FnT e.P f vs.toArray h [] post) (hd : o.dst = some d) (hn : Nat.blt d e.n = true) (hg : o.guard = none)
    (K : ∀ v h' pre', h.le h' → post v h' pre' → WL e ops Q rest ((d, v) :: s) h' (pre' ++ ms)) : WL e ops Q (o :: rest) s h ms :=
  II (P9 (fr := ms) ho hc ha k) hd hn hg fun v h' ms' ⟨pre', e1, e2, e3⟩ => by subst e1; exact K v h' pre' e2 e3
theorem Bg {d : Nat} (ho : o.op = .call { callee := .value (.func f), args := l.toArray, argTypes := ts }) (hc : ∀ az w, (callFunc f az).run e.P w = .ok (.enter f az) w) (ha : MI s l = some vs) (k : FnT e.P f vs.toArray h pre post) (hm : ms = pre ++ fr) (hd : o.dst = some d) (hn : Nat.blt d e.n = true) (hg : o.guard = none)
    (K : ∀ v h' pre', h.le h' → post v h' pre' → WL e ops Q rest ((d, v) :: s) h' (pre' ++ fr)) : WL e ops Q (o :: rest) s h ms := by
  subst hm
  exact II (P9 ho hc ha k) hd hn hg fun v h' ms' ⟨pre', e1, e2, e3⟩ => by subst e1; exact K v h' pre' e2 e3
theorem Dt {x : Operand} {fs : List Value} {d : Nat} (ho : o.op = .call { callee := .value x, args := l.toArray, argTypes := ts }) (hx : ev s x = some (.func (.func f) fs.toArray cs.toArray)) (hc : ∀ az w, (callFunc f az).run e.P w = .ok (.enter f az) w) (ha : MI s l = some vs) (k : FnT e.P f (fs ++ vs ++ cs).toArray h pre post) (hm : ms = pre ++ fr) (hd : o.dst = some d) (hn : Nat.blt d e.n = true) (hg : o.guard = none)
    (K : ∀ v h' pre', h.le h' → post v h' pre' → WL e ops Q rest ((d, v) :: s) h' (pre' ++ fr)) : WL e ops Q (o :: rest) s h ms := by
  subst hm
  exact II (Ng ho hx hc ha k) hd hn hg fun v h' ms' ⟨pre', e1, e2, e3⟩ => by subst e1; exact K v h' pre' e2 e3
end
end Go.Eng
namespace Go.Eng
open Go.RowKit
variable {sz bytes n d g : Nat} {v z : Value} {el t : TypeId} {cs l : List Value} {x y : Operand} {m : Hp}
theorem Hy {α : Type} (l : List α) (i : Nat) (x y : α) (h : l[i]? = some x) : ∃ r, l.Perm (x :: r) ∧ (l.set i y).Perm (y :: r) := by
  induction l generalizing i with
  | nil => cases h
  | cons a l ih =>
    cases i with
    | zero => simp at h; subst h; exact ⟨l, List.Perm.refl _, List.Perm.refl _⟩
    | succ i =>
      simp at h
      obtain ⟨r, h1, h2⟩ := ih i h
      exact ⟨a :: r, (h1.cons a).trans (List.Perm.swap _ _ _), by rw [List.set_cons_succ]; exact (h2.cons a).trans (List.Perm.swap _ _ _)⟩
structure Rd (h : Hp) (ms : List Hp) (v : Value) (sz n : Nat) (cs : List Value) : Prop where
  ex : ∃ a c, v = .slice a n c ∧ n ≤ c ∧ c ≤ 9223372036854775807 ∧ cs.length = n * sz ∧ (0 < n → ∃ q, a = some q ∧ Seg h ms q cs)
def Own (el : TypeId) (sz : Nat) (m : Hp) (v : Value) (n : Nat) (cs : List Value) : Prop :=
  cs.length = n * sz ∧ ((v = .slice none 0 0 ∧ n = 0 ∧ m = Hp.emp) ∨
    ∃ g cap spare, v = .slice (some ⟨g, 0, none⟩) n cap ∧ m = Bf g el (cs ++ spare) ∧ (cs ++ spare).length = cap * sz ∧ n ≤ cap ∧ cap ≤ 9223372036854775807)
theorem Rd.le {h h' : Hp} {ms : List Hp} (R : Rd h ms v sz n cs) (l : h.le h') : Rd h' ms v sz n cs := by
  obtain ⟨a, c, e1, e2, e3, e4, e5⟩ := R.ex
  exact ⟨a, c, e1, e2, e3, e4, fun hn => let ⟨q, q1, q2⟩ := e5 hn; ⟨q, q1, q2.le l⟩⟩
theorem Rd.sub {h : Hp} {ms ms' : List Hp} (R : Rd h ms v sz n cs) (l : ∀ m ∈ ms, m ∈ ms') : Rd h ms' v sz n cs := by
  obtain ⟨a, c, e1, e2, e3, e4, e5⟩ := R.ex
  exact ⟨a, c, e1, e2, e3, e4, fun hn => let ⟨q, q1, q2⟩ := e5 hn; ⟨q, q1, q2.sub l⟩⟩
theorem Rd.any {h : Hp} {ms : List Hp} (R : Rd h [] v sz n cs) : Rd h ms v sz n cs := R.sub (by simp)
theorem Rd.nil (h : Hp) (ms : List Hp) (sz : Nat) : Rd h ms (.slice none 0 0) sz 0 [] := ⟨none, 0, rfl, Nat.le_refl _, by omega, by simp, fun h => by omega⟩
theorem Own.nil (el : TypeId) (sz : Nat) : Own el sz Hp.emp (.slice none 0 0) 0 [] := ⟨by simp, .inl ⟨rfl, rfl, rfl⟩⟩
theorem Own.rd (O : Own el sz m v n cs) {h : Hp} {ms : List Hp} (hm : m ∈ ms) : Rd h ms v sz n cs := by
  obtain ⟨h1, h2⟩ := O
  rcases h2 with ⟨rfl, rfl, rfl⟩ | ⟨g, cap, spare, rfl, rfl, e1, e2, e3⟩
  · exact ⟨none, 0, rfl, Nat.le_refl _, by omega, h1, fun h => by omega⟩
  · refine ⟨_, cap, rfl, e2, e3, h1, fun _ => ⟨_, rfl, fun j v hv => ?_⟩⟩
    obtain ⟨i, hi⟩ := List.getElem?_of_mem hm
    exact Cell.blk i hi (by rw [List.getElem?_append_left (List.getElem?_eq_some_iff.1 hv).1]; exact hv)
theorem Own.rdh (O : Own el sz m v n cs) {h : Hp} {ms : List Hp} (hm : m.le h) : Rd h ms v sz n cs := by
  obtain ⟨h1, h2⟩ := O
  rcases h2 with ⟨rfl, rfl, rfl⟩ | ⟨g, cap, spare, rfl, rfl, e1, e2, e3⟩
  · exact ⟨none, 0, rfl, Nat.le_refl _, by omega, h1, fun h => by omega⟩
  · refine ⟨_, cap, rfl, e2, e3, h1, fun _ => ⟨_, rfl, fun j v hv => ?_⟩⟩
    refine ⟨by unfold Addr.add; split <;> rfl, (cs ++ spare).toArray, el, (0, 0), .inl (hm _ _ ?_), ?_⟩
    · rw [CO]; exact Hp.one_self _ _
    · rw [DA]
      have := (List.getElem?_eq_some_iff.1 hv).1
      simp only [Nat.zero_add, List.getElem?_toArray]
      rw [List.getElem?_append_left this]; exact hv
theorem Ends.put {w0 w w' : World} {h0 h : Hp} {ms0 ms : List Hp} {i : Nat} {l' : List Value} (H : Ends w0 h0 ms0 w h ms) (hm : ms[i]? = some (Bf g el l))
    (hos : w'.os = w.os) (htape : TL w w') (hout : w'.output = w.output) (hsize : w.heap.size ≤ w'.heap.size)
    (hg : w'.heap[g]? = some (.cells l'.toArray el (0, 0))) (hother : ∀ k, k < w.heap.size → k ≠ g → w'.heap[k]? = w.heap[k]?) : Ends w0 h0 ms0 w' h (ms.set i (Bf g el l')) := by
  obtain ⟨r, p1, p2⟩ := Hy ms i (Bf g el l) (Bf g el l') hm
  exact Ends.perm (Ends.change (H.perm p1) hos htape hout hsize hg hother) p2.symm
section
variable {P : Program} {o : Oper} {s : Ar} {h : Hp} {ms : List Hp} {e : Entry} {Q : Exit → Act → World → Prop} {ops : Array Oper} {rest : List Oper}
theorem Tn (zl : List Value) (ho : o.op = .alloc t) (hs : Elem e.P t sz z bytes) (hz : z.cells = zl.toArray) :
    OT e o s h ms (fun v h' ms' => ∃ g, v = .pointer (some ⟨g, 0, none⟩) ∧ h' = h ∧ ms' = Bf g t zl :: ms) := fun ρ w hρ hw => by
  have : (execOp ρ o).run e.P w = .ok (.value (.pointer (some ⟨w.heap.size, 0, none⟩))) (w.alloc (.cells zl.toArray t)) := by
    simp [execOp, ho, Instr.alloc, hs.zeroValue, newVar, newRow, hz]
  unfold OpRes; rw [this]
  exact ⟨h, _, Ends.alloc hw _, _, rfl, rfl, rfl⟩
theorem SU (zl : List Value) (ho : o.op = .alloc t) (hs : Elem e.P t sz z bytes) (hz : z.cells = zl.toArray) (hd : o.dst = some d) (hn : Nat.blt d e.n = true) (hg : o.guard = none)
    (k : ∀ g, WL e ops Q rest ((d, .pointer (some ⟨g, 0, none⟩)) :: s) h (Bf g t zl :: ms)) : WL e ops Q (o :: rest) s h ms :=
  II (Tn zl ho hs hz) hd hn hg fun _ _ _ ⟨g, e1, e2, e3⟩ => by subst e1 e2 e3; exact k g
theorem A8 (zl : List Value) (ho : o.op = .box t x) (hx : ev s x = some v) (hz : v.cells = zl.toArray) (hd : o.dst = some d) (hn : Nat.blt d e.n = true) (hg : o.guard = none)
    (k : ∀ g, WL e ops Q rest ((d, .pointer (some ⟨g, 0, none⟩)) :: s) h (Bf g t zl :: ms)) : WL e ops Q (o :: rest) s h ms :=
  II (post := fun v h' ms' => ∃ g, v = .pointer (some ⟨g, 0, none⟩) ∧ h' = h ∧ ms' = Bf g t zl :: ms) (fun ρ w hρ hw => by
    have : (execOp ρ o).run e.P w = .ok (.value (.pointer (some ⟨w.heap.size, 0, none⟩))) (w.alloc (.cells zl.toArray t)) := by
      simp [execOp, ho, hρ _ _ hx, Instr.box, newVar, newRow, hz]
    unfold OpRes; rw [this]
    exact ⟨h, _, Ends.alloc hw _, _, rfl, rfl, rfl⟩) hd hn hg fun _ _ _ ⟨g, e1, e2, e3⟩ => by subst e1 e2 e3; exact k g
theorem F0 {vs : List (Nat × Value)} (ps : List (Nat × List Value)) (zl vl : List Value) (ht : P.underlying t = some (.slice el)) (hs : Elem P el sz z bytes) (hb : n * sz ≤ 16777216)
    (hz : (Array.range (n * sz)).map (fun i => (if n * sz = 0 then #[] else z.cells)[i % (if n * sz = 0 then #[] else z.cells).size]!) = zl.toArray) (hps : Fu (fun i => some (i * sz, sz)) zl.length vs ps) (hvl : My zl ps = vl) (w : World) :
    (Instr.buildSlice t n vs.toArray).run P w = .ok (.slice (some ⟨w.heap.size, 0, none⟩) n n) (w.alloc (.cells vl.toArray el)) := by
  have hf := GH (fun i => some (i * sz, sz)) vs zl ps hps
  have hb' : ¬ (n * sz > 2 ^ 24) := by omega
  rw [hvl, ← hz] at hf
  simp only [Instr.buildSlice, Sem.run_bind, run_underlying ht, Result.andThen_ok, hs.sizeOf]
  rw [if_neg hb']
  by_cases h0 : n * sz = 0
  · simp only [h0, if_true] at hf ⊢
    simp only [Sem.run_bind, Sem.run_pure, Result.andThen_ok, hf, newRow, run_newObj]; rfl
  · simp only [h0, if_false] at hf ⊢
    simp only [Sem.run_bind, Sem.run_pure, Result.andThen_ok, hs.zeroValue, hf, newRow, run_newObj]; rfl
theorem J6 : ∀ (vs l : List Value) (k : Nat), k + vs.length ≤ l.length → FZ l k vs = l.take k ++ vs ++ l.drop (k + vs.length)
  | [], l, k, h => by simp [FZ]
  | v :: vs, l, k, h => by
    simp only [FZ]
    have hk : k < l.length := by simp at h; omega
    rw [J6 vs _ _ (by simp at h ⊢; omega)]
    rw [List.take_add_one, List.take_set_of_le (by omega), List.drop_set_of_lt (by omega)]
    have e1 : (l.set k v)[k]? = some v := by rw [List.getElem?_set]; simp only [if_true]; rw [if_pos hk]
    have e2 : k + 1 + vs.length = k + (v :: vs).length := by simp; omega
    rw [e1, e2]; simp
theorem FT (zl : List Value) (ht : P.underlying t = some (.slice el)) (hs : Elem P el sz z bytes) (hv : v.cells = zl.toArray) (hl : zl.length = sz) (hzs : z.cells.size = sz) (hsz : 0 < sz ∧ sz ≤ 1000) (w : World) :
    (Instr.buildSlice t 1 #[(0, v)]).run P w = .ok (.slice (some ⟨w.heap.size, 0, none⟩) 1 1) (w.alloc (.cells zl.toArray el)) := by
  refine F0 (vs := [(0, v)]) [(0, zl)] ((List.range (1 * sz)).map (fun i => (if 1 * sz = 0 then #[] else z.cells)[i % (if 1 * sz = 0 then #[] else z.cells).size]!)) zl ht hs (by omega) (by apply Array.ext'; simp) ?_ ?_ w
  · refine ⟨⟨hv, by simp [hl], ?_⟩, trivial⟩
    simp [hl]
  · simp only [My]
    rw [J6 _ _ _ (by simp [hl])]
    simp [hl]
theorem Ao (zl : List Value) (ho : o.op = .buildSlice t 1 #[(0, x)]) (ht : e.P.underlying t = some (.slice el)) (hs : Elem e.P el sz z bytes) (hx : ev s x = some v) (hv : v.cells = zl.toArray) (hl : zl.length = sz) (hzs : z.cells.size = sz) (hsz : 0 < sz ∧ sz ≤ 1000) (hd : o.dst = some d) (hn : Nat.blt d e.n = true) (hg : o.guard = none)
    (k : ∀ g, WL e ops Q rest ((d, .slice (some ⟨g, 0, none⟩) 1 1) :: s) h (Bf g el zl :: ms)) : WL e ops Q (o :: rest) s h ms :=
  II (post := fun v h' ms' => ∃ g, v = .slice (some ⟨g, 0, none⟩) 1 1 ∧ h' = h ∧ ms' = Bf g el zl :: ms) (fun ρ w hρ hw => by
    have : (execOp ρ o).run e.P w = .ok (.value (.slice (some ⟨w.heap.size, 0, none⟩) 1 1)) (w.alloc (.cells zl.toArray el)) := by
      simp [execOp, ho, hρ _ _ hx, FT zl ht hs hv hl hzs hsz]
    unfold OpRes; rw [this]
    exact ⟨h, _, Ends.alloc hw _, _, rfl, rfl, rfl⟩) hd hn hg fun _ _ _ ⟨g, e1, e2, e3⟩ => by subst e1 e2 e3; exact k g
theorem AE {lp : List (Nat × Operand)} {vs : List (Nat × Value)} (ps : List (Nat × List Value)) (zl vl : List Value) (ho : o.op = .buildSlice t n lp.toArray) (ht : e.P.underlying t = some (.slice el)) (hs : Elem e.P el sz z bytes)
    (hv : V3 s lp = some vs) (hb : n * sz ≤ 16777216) (hz : (Array.range (n * sz)).map (fun i => (if n * sz = 0 then #[] else z.cells)[i % (if n * sz = 0 then #[] else z.cells).size]!) = zl.toArray) (hps : Fu (fun i => some (i * sz, sz)) zl.length vs ps) (hvl : My zl ps = vl) (hd : o.dst = some d) (hn : Nat.blt d e.n = true) (hg : o.guard = none)
    (k : ∀ g, WL e ops Q rest ((d, .slice (some ⟨g, 0, none⟩) n n) :: s) h (Bf g el vl :: ms)) : WL e ops Q (o :: rest) s h ms :=
  II (post := fun v h' ms' => ∃ g, v = .slice (some ⟨g, 0, none⟩) n n ∧ h' = h ∧ ms' = Bf g el vl :: ms) (fun ρ w hρ hw => by
    have hm : (lp.toArray.map fun (i, x) => (i, ρ x)) = vs.toArray := by
      rw [List.map_toArray, hρ.pairs lp vs hv]
    have : (execOp ρ o).run e.P w = .ok (.value (.slice (some ⟨w.heap.size, 0, none⟩) n n)) (w.alloc (.cells vl.toArray el)) := by
      simp only [execOp, ho, hm, Sem.run_bind, F0 ps zl vl ht hs hb hz hps hvl, Result.andThen_ok, Sem.run_pure]
    unfold OpRes; rw [this]
    exact ⟨h, _, Ends.alloc hw _, _, rfl, rfl, rfl⟩) hd hn hg fun _ _ _ ⟨g, e1, e2, e3⟩ => by subst e1 e2 e3; exact k g
theorem AK {p : Addr} (i k : Nat) (ho : o.op = .store t x y) (hs : Elem e.P t 1 z bytes) (hx : ev s x = some (.pointer (some p))) (hy : ev s y = some v) (h1 : v.oneCell' = true)
    (hm : ms[i]? = some (Bf g el l)) (hp : p = (⟨g, 0, none⟩ : Addr).add k) (hk : k < l.length) (hd : o.dst = none) (hg : o.guard = none)
    (K : WL e ops Q rest s h (ms.set i (Bf g el (l.set k v)))) : WL e ops Q (o :: rest) s h ms :=
  KY (post := fun _ h' ms' => h' = h ∧ ms' = ms.set i (Bf g el (l.set k v))) (fun ρ w hρ hw => by
    have hp' : p = ⟨g, k, none⟩ := by subst hp; unfold Addr.add; split <;> simp_all
    have hgw : w.heap[g]? = some (.cells l.toArray el (0, 0)) := hw.st.own _ (List.mem_of_getElem? hm) g _ (Hp.one_self _ _)
    have hc : w.cell? ⟨g, k, none⟩ = some l[k] := by simp [World.cell?, hgw, hk]
    have hf : w.frozen? ⟨g, k, none⟩ = false := by simp [World.frozen?, hgw]
    have hvc : v.cells = #[v] := by cases v <;> first | rfl | (simp [Value.oneCell'] at h1)
    have hst : (store (Addr.add ⟨g, k, none⟩ 0) v).run e.P w = .ok () (w.setCell ⟨g, k, none⟩ v) := by
      rw [De, run_store e.P w _ v _ h1, hc]; simp [hf]
    have : (execOp ρ o).run e.P w = .ok .skip (w.setCell ⟨g, k, none⟩ v) := by
      simp [execOp, ho, hρ _ _ hx, hρ _ _ hy, Instr.storeAt, Instr.sureAddr, storeVar, hs.sizeOf, hvc, hp', storeCells, hst]
    unfold OpRes; rw [this]
    refine ⟨h, _, Ends.put hw hm rfl ⟨rfl, Nat.le_refl _⟩ rfl (by simp [World.setCell]) (l' := l.set k v) ?_ (fun j hj hne => Below.heap_setCell _ _ _ _ hne), rfl, rfl⟩
    rw [heap_setCell_same w g k l.toArray el v hgw]; simp) hd hg fun _ _ _ ⟨e1, e2⟩ => by subst e1 e2; exact K
theorem Dx (i : Nat) (vl : List Value) (ho : o.op = .store t x y) (hs : Elem e.P t sz z bytes) (hx : ev s x = some (.pointer (some ⟨g, 0, none⟩))) (hy : ev s y = some v) (hv : v.cells = vl.toArray) (h1 : ∀ u ∈ vl, u.oneCell' = true)
    (hm : ms[i]? = some (Bf g el l)) (hl : vl.length = sz) (hl' : l.length = sz) (hd : o.dst = none) (hg : o.guard = none)
    (K : WL e ops Q rest s h (ms.set i (Bf g el vl))) : WL e ops Q (o :: rest) s h ms :=
  KY (post := fun _ h' ms' => h' = h ∧ ms' = ms.set i (Bf g el vl)) (fun ρ w hρ hw => by
    have hgw : w.heap[g]? = some (.cells l.toArray el (0, 0)) := hw.st.own _ (List.mem_of_getElem? hm) g _ (Hp.one_self _ _)
    have hst := run_storeCells_at e.P g 0 el vl 0 l.toArray w hgw (by simp; omega) h1
    have : (execOp ρ o).run e.P w = .ok .skip (w.setRow g vl.toArray) := by
      simp [execOp, ho, hρ _ _ hx, hρ _ _ hy, Instr.storeAt, Instr.sureAddr, storeVar, hs.sizeOf, hv, hl, hst]
      rw [List.drop_eq_nil_of_le (by omega)]; simp
    unfold OpRes; rw [this]
    exact ⟨h, _, Ends.put hw hm rfl ⟨rfl, Nat.le_refl _⟩ rfl (by simp) (setRow_heap w g _ _ _ _ hgw) (fun j hj hne => setRow_other w g j _ hne), rfl, rfl⟩) hd hg fun _ _ _ ⟨e1, e2⟩ => by subst e1 e2; exact K
theorem FO (w : World) (t ty el : TypeId) (ht : P.underlying t = some (.slice el)) (hs : Elem P el sz z bytes) (base a : Option Addr) (n cap c : Nat) (hn : n ≤ cap) :
    (Builtin.append_ #[t, t] ty #[.slice base n cap, .slice a 0 c]).run P w = .ok (.slice base n cap) w := by
  cases base <;> cases a <;> simp [Builtin.append_, run_underlying ht, hs.sizeOf, Builtin.lenOf, hn, Builtin.firstCells, loadCells, loadCellsFrom, storeCells]
theorem Oz {w0 w : World} {h0 h : Hp} {ms0 ms : List Hp} (H : Ends w0 h0 ms0 w h (m :: ms)) (t ty el : TypeId) (ht : P.underlying t = some (.slice el)) (hs : Elem P el sz z bytes) (hzs : z.cells.size = sz) (hsz : 0 < sz)
    {x : Value} {k : Nat} {news : List Value} (O : Own el sz m v n cs) (R : Rd h (m :: ms) x sz k news) (h1 : ∀ u ∈ news, u.oneCell' = true) (hb : (n + k) * bytes ≤ 140737488355328) (hb63 : n + k ≤ 9223372036854775807) :
    ∃ v' w' m', (Builtin.append_ #[t, t] ty #[v, x]).run P w = .ok v' w' ∧ Own el sz m' v' (n + k) (cs ++ news) ∧ Ends w0 h0 ms0 w' h (m' :: ms) := by
  obtain ⟨a, c, rfl, hkc, hcm, hnl, hq⟩ := R.ex
  obtain ⟨hcl, hO⟩ := O
  obtain ⟨i, hi, hz, his, hib⟩ := hs.info
  rcases Nat.eq_zero_or_pos k with rfl | hk
  · have hnews : news = [] := List.eq_nil_of_length_eq_zero (by simpa using hnl)
    subst hnews
    rcases hO with ⟨rfl, rfl, rfl⟩ | ⟨g, cap, spare, rfl, rfl, e1, e2, e3⟩
    · exact ⟨_, w, _, FO w t ty el ht hs none a 0 0 c (Nat.le_refl _), ⟨by simpa using hcl, .inl ⟨rfl, rfl, rfl⟩⟩, H⟩
    · exact ⟨_, w, _, FO w t ty el ht hs _ a n cap c e2, ⟨by simpa using hcl, .inr ⟨g, cap, spare, rfl, by simp, by simpa using e1, e2, e3⟩⟩, H⟩
  · obtain ⟨q, rfl, hseg⟩ := hq hk
    have hnews : ∀ j u, news[j]? = some u → w.cell? (q.add j) = some u := fun j u e => H.st.cell (hseg j u e)
    have hcap : ∀ old, grownCap w (n + k) old el ≤ 9223372036854775807 ∧ n + k ≤ grownCap w (n + k) old el := fun old =>
      ⟨grownCap_le_maxLen w (n + k) old el (by simp only [maxLen]; omega), grownCap_ge w (n + k) old el⟩
    have hzl : ∀ N, (Builtin.zeroCells z.cells N).toList.length = N * sz := fun N => by rw [Array.length_toList, size_zeroCells, hzs]
    rcases hO with ⟨rfl, rfl, rfl⟩ | ⟨g, cap, spare, rfl, rfl, e1, e2, e3⟩
    · have hc0 : cs = [] := List.eq_nil_of_length_eq_zero (by simpa using hcl)
      subst hc0
      simp only [Nat.zero_add, List.nil_append] at *
      have hr := run_append_nil (P := P) w t ty el i z ht hi hz q k c news (by rw [his]; exact hnl) hnews hk (by omega) (by rw [hib]; omega)
      refine ⟨_, _, _, hr, ⟨hnl, .inr ⟨w.heap.size, grownCap w k 0 el, (Builtin.zeroCells z.cells (grownCap w k 0 el - k)).toList, rfl, rfl, ?_, (hcap 0).2, (hcap 0).1⟩⟩, ?_⟩
      · rw [List.length_append, hzl, hnl, ← Nat.add_mul]
        congr 1; have := (hcap 0).2; omega
      · have := Ends.alloc (Ends.drew (Ends.drop H)) (.cells (news.toArray ++ Builtin.zeroCells z.cells (grownCap w k 0 el - k)) el)
        have e : (news ++ (Builtin.zeroCells z.cells (grownCap w k 0 el - k)).toList).toArray = news.toArray ++ Builtin.zeroCells z.cells (grownCap w k 0 el - k) := by
          apply Array.ext'; simp
        unfold Bf; rw [e]; exact this
    · have hgw : w.heap[g]? = some (.cells (cs ++ spare).toArray el (0, 0)) := H.st.own _ (List.mem_cons_self) g _ (Hp.one_self _ _)
      by_cases hroom : n + k ≤ cap
      · have hfit : n * i.size + news.length ≤ (cs ++ spare).toArray.size := by
          rw [his, hnl, List.size_toArray, e1, ← Nat.add_mul]; exact Nat.mul_le_mul_right _ hroom
        have hr := run_append_room (P := P) w t ty el i ht hi g n cap (cs ++ spare).toArray hgw q k c news (by rw [his]; exact hnl) hnews h1 hroom hfit
        have e5 : (List.take (n * i.size) (cs ++ spare).toArray.toList ++ news ++ List.drop (n * i.size + news.length) (cs ++ spare).toArray.toList) = cs ++ news ++ spare.drop news.length := by
          rw [his, ← hcl]
          have hd : List.drop (cs.length + news.length) (cs ++ spare) = spare.drop news.length := by rw [← List.drop_drop, List.drop_left]
          simp only [List.take_left', hd, List.append_assoc]
        rw [e5] at hr
        refine ⟨_, _, _, hr, ⟨by rw [List.length_append, hcl, hnl, Nat.add_mul], .inr ⟨g, cap, spare.drop news.length, rfl, rfl, ?_, hroom, e3⟩⟩, ?_⟩
        · rw [← e1]
          simp only [List.length_append, List.length_drop]
          have : news.length ≤ spare.length := by
            rw [List.size_toArray, List.length_append, his, ← hcl] at hfit; omega
          omega
        · exact Ends.change H rfl ⟨rfl, Nat.le_refl _⟩ rfl (by simp) (setRow_heap w g _ _ _ _ hgw) (fun j hj hne => setRow_other w g j _ hne)
      · have holds : ∀ j u, cs[j]? = some u → w.cell? ((⟨g, 0, none⟩ : Addr).add j) = some u := fun j u hv => H.st.cell (Cell.blk (el := el) (l := cs ++ spare) 0 rfl (by rw [List.getElem?_append_left (List.getElem?_eq_some_iff.1 hv).1]; exact hv))
        have hr := run_append_grow (P := P) w t ty el i z ht hi hz ⟨g, 0, none⟩ n cap cs (by rw [his]; exact hcl) holds q k c news (by rw [his]; exact hnl) hnews (by omega) (by omega) (by rw [hib]; exact growslice_fits (by omega) hb)
        refine ⟨_, _, _, hr, ⟨by rw [List.length_append, hcl, hnl, Nat.add_mul], .inr ⟨w.heap.size, grownCap w (n + k) cap el, (Builtin.zeroCells z.cells (grownCap w (n + k) cap el - (n + k))).toList, rfl, rfl, ?_, (hcap cap).2, (hcap cap).1⟩⟩, ?_⟩
        · rw [List.length_append, List.length_append, hzl, hcl, hnl, ← Nat.add_mul, ← Nat.add_mul]
          congr 1; have := (hcap cap).2; omega
        · have := Ends.alloc (Ends.drew (Ends.drop H)) (.cells (cs.toArray ++ news.toArray ++ Builtin.zeroCells z.cells (grownCap w (n + k) cap el - (n + k))) el)
          have e : (cs ++ news ++ (Builtin.zeroCells z.cells (grownCap w (n + k) cap el - (n + k))).toList).toArray = cs.toArray ++ news.toArray ++ Builtin.zeroCells z.cells (grownCap w (n + k) cap el - (n + k)) := by
            apply Array.ext'; simp
          unfold Bf; rw [e]; exact this
theorem KQ {u : Value} {k : Nat} {news : List Value} (i : Nat) (ho : o.op = .call { callee := .builtin .append, args := #[x, y], argTypes := #[t, t] }) (ht : e.P.underlying t = some (.slice el)) (hs : Elem e.P el sz z bytes) (hzs : z.cells.size = sz) (hsz : 0 < sz)
    (hx : ev s x = some v) (hy : ev s y = some u) (hm : ms[i]? = some m) (O : Own el sz m v n cs) (R : Rd h ms u sz k news) (h1 : ∀ u ∈ news, u.oneCell' = true) (hb : (n + k) * bytes ≤ 140737488355328) (hb63 : n + k ≤ 9223372036854775807) (hd : o.dst = some d) (hn : Nat.blt d e.n = true) (hg : o.guard = none)
    (K : ∀ v' m', Own el sz m' v' (n + k) (cs ++ news) → WL e ops Q rest ((d, v') :: s) h (ms.set i m')) : WL e ops Q (o :: rest) s h ms :=
  II (post := fun v' h' ms' => ∃ m', h' = h ∧ ms' = ms.set i m' ∧ Own el sz m' v' (n + k) (cs ++ news)) (fun ρ w hρ hw => by
    obtain ⟨r, p1, _⟩ := Hy ms i m m hm
    obtain ⟨v', w', m', hr, hO, hE⟩ := Oz (P := e.P) (Ends.perm hw p1) t o.type el ht hs hzs hsz O (R.sub (fun m hm => p1.mem_iff.1 hm)) h1 hb hb63
    have : (execOp ρ o).run e.P w = .ok (.value v') w' := by
      simp [execOp, ho, hρ _ _ hx, hρ _ _ hy, resolve, invoke, builtin, hr]
    unfold OpRes; rw [this]
    obtain ⟨r', q1, q2⟩ := Hy ms i m m' hm
    have pr : (m' :: r).Perm (ms.set i m') := ((List.Perm.cons_inv (p1.symm.trans q1)).cons m').trans q2.symm
    exact ⟨h, _, Ends.perm hE pr, m', rfl, rfl, hO⟩) hd hn hg fun v' h' ms' ⟨m', e1, e2, e3⟩ => by subst e1 e2; exact K v' m' e3
theorem KD (v : Value) (n : Nat) : madeCells #[v] n = (List.replicate n v).toArray := by
  apply Array.ext
  · simp [madeCells]
  · intro i h1 h2; simp [madeCells, Nat.mod_one]
theorem E0 {k1 k2 : IntKind} {l c : Int} (ho : o.op = .makeSlice t x y) (ht : e.P.underlying t = some (.slice el)) (hs : Elem e.P el 1 z bytes) (hz : z.cells = #[z])
    (hx : ev s x = some (.int k1 l)) (hy : ev s y = some (.int k2 c)) (hl : l = (n : Int)) (hc : c = (n : Int)) (hb : bytes * n ≤ 281474976710656) (h63 : n ≤ 9223372036854775807) (hd : o.dst = some d) (hn : Nat.blt d e.n = true) (hg : o.guard = none)
    (k : ∀ g, WL e ops Q rest ((d, .slice (some ⟨g, 0, none⟩) n n) :: s) h (Bf g el (List.replicate n z) :: ms)) : WL e ops Q (o :: rest) s h ms :=
  II (post := fun v h' ms' => ∃ g, v = .slice (some ⟨g, 0, none⟩) n n ∧ h' = h ∧ ms' = Bf g el (List.replicate n z) :: ms) (fun ρ w hρ hw => by
    obtain ⟨i, hi, hz', his, hib⟩ := hs.info
    have hb' : (i.bytes : Int) * c ≤ 281474976710656 := by
      rw [hib, hc]
      have h : ((bytes * n : Nat) : Int) ≤ 281474976710656 := by omega
      rwa [Int.natCast_mul] at h
    have hr := run_make (P := e.P) w t el i z ht hi hz' k1 k2 l c (by omega) (by omega) hb' (by omega)
    have : (execOp ρ o).run e.P w = .ok (.value (.slice (some ⟨w.heap.size, 0, none⟩) n n)) (w.alloc (.cells (List.replicate n z).toArray el)) := by
      have e1 : l.toNat = n := by omega
      have e2 : c.toNat = n := by omega
      rw [e1, e2, his, hz, Nat.mul_one, KD] at hr
      simp only [execOp, ho, hρ _ _ hx, hρ _ _ hy, Sem.run_bind, hr, Result.andThen_ok, Sem.run_pure]
    unfold OpRes; rw [this]
    exact ⟨h, _, Ends.alloc hw _, _, rfl, rfl, rfl⟩) hd hn hg fun _ _ _ ⟨g, e1, e2, e3⟩ => by subst e1 e2 e3; exact k g
end
end Go.Eng
